/-
 A part of the proof: what functions that the statement reaches do, or a plain law on what they do. Each theorem holds under its own premises alone.
-/
import Derived.Test.YtffobakdngbadaaTKX
namespace Go.Proofs.Ytffobakdngbadaa
open Go Go.Lk
/-! ### TracksLeast -/
theorem Bok.ok.more {w0 : World} {n m : Nat} {k : Bok} (h : k.ok w0 n) (hnm : n ≤ m) : k.ok w0 m :=
 ⟨h.B, h.mb, h.each, h.ents, h.low, h.next1, h.next2, fun o ho => by have := h.hist o ho; omega, h.rul, h.cnt⟩
theorem filt_at {α : Type} {l : List α} {p : α → Bool} {j q : Nat} {o : α} (hj : l[j]? = some o) (hp : p o = true) (h : (l.take j).filter p = (l.filter p).take q) (hq : q ≤ (l.filter p).length) : (l.filter p)[q]? = some o ∧ (l.take (j + 1)).filter p = (l.filter p).take (q + 1) := by
 have h1 : (l.take (j + 1)).filter p = (l.filter p).take q ++ [o] := by
  rw [take_snoc hj, List.filter_append, h, List.filter_cons_of_pos hp]; rfl
 have h2 : l.filter p = (l.filter p).take q ++ (o :: (l.drop (j + 1)).filter p) := by
  have h3 : l.filter p = (l.take (j + 1)).filter p ++ (l.drop (j + 1)).filter p := by rw [← List.filter_append, List.take_append_drop]
  rw [h1, List.append_assoc] at h3
  exact h3
 have hl : ((l.filter p).take q).length = q := by rw [List.length_take]; omega
 have h4 : (l.filter p)[q]? = some o := by
  rw [h2, List.getElem?_append_right (by omega), hl, Nat.sub_self]; rfl
 exact ⟨h4, by rw [h1, take_snoc h4]⟩
theorem Trk.xat (t : Trk) : ∀ (z : Nat) (v : Value), t.x.cells[z]? = some v → t.cells[2 + z]? = some v
 | 0, _, h => h
 | 1, _, h => h
 | 2, _, h => h
 | 3, _, h => h
 | 4, _, h => h
 | _ + 5, _, h => by simp [Stt.cells] at h
theorem Trk.yat (t : Trk) : ∀ (z : Nat) (v : Value), t.y.cells[z]? = some v → t.cells[7 + z]? = some v
 | 0, _, h => h
 | 1, _, h => h
 | 2, _, h => h
 | 3, _, h => h
 | 4, _, h => h
 | _ + 5, _, h => by simp [Stt.cells] at h
theorem trk_x {w : World} {a : Option Addr} {ts : List Trk} (h : SlC w a (tcs ts)) {j : Nat} (hj : j < ts.length) : CellsAt w ((aD a).add (j * 15 + 2)) (ts.getD j trk0).x.cells :=
 h.sub fun z v hv => by rw [Nat.add_assoc]; exact tcs_get hj (Trk.xat _ z v hv)
theorem trk_y {w : World} {a : Option Addr} {ts : List Trk} (h : SlC w a (tcs ts)) {j : Nat} (hj : j < ts.length) : CellsAt w ((aD a).add (j * 15 + 7)) (ts.getD j trk0).y.cells :=
 h.sub fun z v hv => by rw [Nat.add_assoc]; exact tcs_get hj (Trk.yat _ z v hv)
structure RulLt (r : Rul) : Prop where
 noise : r.noise < 18446744073709551616
 sway : r.sway < 18446744073709551616
 gate : r.gate < 18446744073709551616
set_option maxHeartbeats 4000000 in
theorem tracksLeast_law (r : Rul) (hr : RulLt r) (a : Option Addr) (n c : Nat) (l : List Mv) (w0 : World) (ha : SlC w0 a (mcs l)) (hn : l.length = n) (hn2 : n ≤ 1000000000000000) (hm : ∀ i, i < n → MvOk w0 (l.getD i mv0)) :
  Ret Try.prog 4 [.agg r.cells.toArray, .slice a n c] w0 fun v w' => v = .bool true ∧ HS w0 w' [] := by
 refine Ret.start fun w hs => ?_
 refine calls_of_W Try.func4 rfl rfl rfl (W_seq (W_region (L_box rfl hs rfl ?_)))
 intro b2 w hb2 hnb2 hs
 dsimp only [List.set_cons_succ, List.set_cons_zero, List.cons_append, List.nil_append] at hs
 refine L_assign rfl rfl (RL_then (W_seq (W_seq (W_region (L_move rfl rfl ?_)))))
 replace hs : HS w0 w [(b2, Row 49 r.cells)] := hs
 have hb2o : Own w0 [(b2, Row 49 r.cells)] := Own.cons hb2 Own.nil
 refine L_call rfl Try.fun14 rfl (great_ok a n c l w (ha.old hs hb2o) hn hn2 (fun i hi => (hm i hi).len)) ?_
 rintro _ w1 ⟨g, rfl, hs', hg⟩
 replace hs := hs.nil hs'
 clear hs'
 cases g
 ·
  obtain ⟨hn300, hpl⟩ := hg rfl
  clear hg
  refine RL_then (W_if_false rfl (W_skip' (Nx_then (W_seq (W_region (L_loadA rfl Try.agg49 Try.ti49 rfl (by exact cellsAt_whole (cs := r.cells) (hs.get (i := 0) rfl)) ?_))))))
  refine L_call rfl Try.fun15 rfl (new_ok r hr.noise hr.sway hr.gate w1) ?_
  rintro _ w2 (⟨hne, rfl, hs'⟩ | ⟨_, B, mb, rfl, hs', hk'⟩)
  ·
   replace hs := hs.nil hs'
   clear hs'
   obtain ⟨er, her⟩ : ∃ er, er = newE r := ⟨_, rfl⟩
   rw [← her] at hne ⊢
   refine L_move rfl rfl (L_extract rfl rfl rfl (L_extract rfl rfl rfl (L_assign rfl rfl (L_assign rfl rfl (RL_then (W_seq (W_seq (W_region (L_move rfl rfl (L_neq rfl rfl rfl (dtrue (by omega)) ?_))))))))))
   refine L_move rfl rfl (RL_skip rfl rfl rfl rfl (RL_skip rfl rfl rfl rfl (L_pick_t rfl rfl rfl (RL_then (W_if_true rfl (W_seq (W_region (L_move rfl rfl (L_neq rfl rfl rfl (dtrue (by omega)) ?_)))))))))
   refine L_move rfl rfl (RL_want rfl rfl (L_move rfl rfl (RL_want rfl rfl (L_ptrNil rfl Try.underlying26 rfl rfl (L_pick_t rfl rfl rfl (L_move rfl rfl (RL_want rfl rfl (L_call rfl Try.fun13 rfl (wakes_ok w2) ?_))))))))
   rintro _ w3 ⟨rfl, hs'⟩
   replace hs := hs.nil hs'
   refine L_pick_t rfl rfl rfl (L_assign rfl rfl (RL_then (W_ret' (Ex_then_ret (Ex_done1 rfl rfl ?_)))))
   exact ⟨_, rfl, rfl, hs.forget hb2o⟩
  ·
   have hk0 := hk'.mono hs.size
   obtain ⟨k0, hk0e⟩ : ∃ k0, k0 = bok0 r B mb := ⟨_, rfl⟩
   rw [← hk0e] at hk0 hs' hk'
   have hs1 : HS w0 w2 (k0.bks ++ [(b2, Row 49 r.cells)]) := by
    have h1 := hs.call hs' hk'.own
    exact HS.re (L := [(b2, Row 49 r.cells)] ++ k0.bks) h1 (fun c => by simp only [List.map_append, List.map_cons, List.map_nil, List.sum_append, List.sum_cons, List.sum_nil]; omega)
   clear hs hs' hk'
   have hs := hs1
   clear hs1
   refine L_move rfl rfl (L_extract rfl rfl rfl (L_extract rfl rfl rfl (L_assign rfl rfl (L_assign rfl rfl (RL_then (W_seq (W_seq (W_region (L_move rfl rfl (L_neq rfl rfl rfl (dfalse (by omega)) ?_))))))))))
   refine L_move rfl rfl (RL_want rfl rfl (L_move rfl rfl (RL_want rfl rfl (L_ptrNil rfl Try.underlying26 rfl rfl (L_pick_f rfl rfl rfl (RL_then (W_if_false rfl (W_skip' (Nx_then (W_seq (W_seq (W_region ?_))))))))))))
   refine L_assign rfl rfl (RL_then (W_block ?_))
   refine W_loop3 (fun (k : Bok) (i : Nat) (w : World) => [(1, .slice a n c), (2, .pointer (some ⟨b2, 0, none⟩)), (5, bv B), (7, .int .i64 i)]) (fun (k : Bok) (i : Nat) (w : World) => w) (fun (k : Bok) (i : Nat) (w : World) => (i ≤ n) ∧ (k.B = B ∧ k.r = r) ∧ (k.ok w0 i) ∧ (k.next ≤ 1 + 256 * i) ∧ (HS w0 w (k.bks ++ [(b2, Row 49 r.cells)]))) (fun (k : Bok) (i : Nat) (w : World) => n - i) (k0) (0) (_) (is := [1, 2, 5, 7]) rfl rfl ?_ ?_
   ·
    exact ⟨Nat.zero_le _, by rw [hk0e]; exact ⟨rfl, rfl⟩, hk0, by rw [hk0e]; show (1 : Int) ≤ 1 + 256 * ((0 : Nat) : Int); decide, hs⟩
   ·
    clear hs
    intro k i w hI
    show W _ _ _ _ [(1, .slice a n c), (2, .pointer (some ⟨b2, 0, none⟩)), (5, bv B), (7, .int .i64 i)] w
    obtain ⟨hi, ⟨hkB, hkr⟩, hk, hnx, hs⟩ := hI
    by_cases hlt : i < n
    ·
     obtain ⟨m, hme⟩ : ∃ m, m = l.getD i mv0 := ⟨_, rfl⟩
     have hmk := hm i hlt
     have hml := hpl i hlt
     rw [← hme] at hmk hml
     refine W_seq (W_seq (W_region (L_move rfl rfl (L_move rfl rfl (L_len rfl Try.underlying50 rfl (L_lss rfl rfl rfl (dtrue (by omega)) ?_))))))
     refine RL_then (W_if_true rfl ?_)
     have hT := tracks_ok w0 w i k [(b2, Row 49 r.cells)] hs hk hb2o
     rw [hkB] at hT
     refine W_skip' (Nx_then (W_seq (W_block (W_seq (W_region (L_move rfl rfl (L_call rfl Try.fun12 rfl (hT) ?_)))))))
     rintro _ w1 ⟨Mt, hs1, hbt⟩
     clear hs hT
     obtain ⟨at', ct, rfl, _⟩ := hbt.slice
     obtain ⟨L1, hL1⟩ : ∃ L1, L1 = [(b2, Row 49 r.cells)] ++ Mt := ⟨_, rfl⟩
     have hL1o : Own w0 L1 := by rw [hL1]; exact hb2o.app hbt.own
     have hs : HS w0 w1 (k.bks ++ L1) := by rw [hL1, ← List.append_assoc]; exact hs1
     clear hs1
     have hAo : Own w0 (k.bks ++ L1) := hk.own.app hL1o
     refine L_assign rfl rfl (RL_then (W_seq (W_sg Try.mixed ?_)))
     replace hs := hs.drewN 1
     refine SG_stage [0, 1, 2, 3, 4, 6, 7, 8, 9] [5, 10] [11, 12] (fun _ _ _ => False) (g' := 4) (by kernel_rfl) (by kernel_rfl) (fun _ _ _ _ _ h => h) hs ?_
     refine PL_val rfl (fun w => R_move rfl) ?_
     refine PL_val rfl (fun w => R_move rfl) ?_
     refine PL_val rfl (fun w => R_move rfl) ?_
     refine PL_val rfl (fun w => R_idxN Try.underlying50 Try.ti25 rfl rfl (natc_k _) (by omega) ((ha.old hs hAo).ao (by rw [mcs_len]; omega))) ?_
     refine PL_val rfl (fun w => R_fieldAddr (off := 1) Try.underlying25 rfl rfl Try.ti22 rfl) ?_
     refine PL_val rfl (fun w => R_move rfl) ?_
     refine PL_val rfl (fun w => R_move rfl) ?_
     refine PL_val rfl (fun w => R_idxN Try.underlying50 Try.ti25 rfl rfl (natc_k _) (by omega) ((ha.old hs hAo).ao (by rw [mcs_len]; omega))) ?_
     refine PL_val rfl (fun w => R_fieldAddr (off := 2) Try.underlying25 rfl rfl Try.ti23 rfl) ?_
     refine PL_end ?_
     refine HL_val rfl (fun w hs => R_load Try.one22 rfl (by (rw [add_add]; exact (ha.old hs hAo).2 _ _ (mcs_get (ts := l) (i := i) (q := 1) (v := .float .f64 m.time) (by omega) (by rw [← hme]; rfl))))) ?_
     refine HL_val rfl (fun w hs => R_load Try.one23 rfl (by (rw [add_add]; exact (ha.old hs hAo).2 _ _ (mcs_get (ts := l) (i := i) (q := 2) (v := .slice m.a m.ps.length m.c) (by omega) (by rw [← hme]; rfl))))) ?_
     refine HL_tail ?_
     intro w hs
     have hI : StepIn w0 i m.ps.length k m.time m.a m.ps L1 := ⟨hk, by omega, hL1o, fun w' L' h1 h2 _ => hmk.pl.old h1 h2, rfl, by omega, hmk.lt, hmk.time, by omega⟩
     have hS := step_ok w0 w i m.ps.length k m.time m.a m.c m.ps L1 hs hI
     rw [hkB] at hS
     clear hI
     obtain ⟨er, her⟩ : ∃ er, er = refE k.last m.time m.ps := ⟨_, rfl⟩
     rw [← her] at hS
     refine L_call rfl Try.fun7 rfl (hS) ?_
     rintro _ w1 (⟨hne, rfl, hs1⟩ | ⟨hre, k', vt, M1, told, os2, ps, ms, os3, rfl, hs1, hb1, htl, hk', hst⟩)
     ·
      clear hs hS
      have hs := hs1
      clear hs1
      refine L_move rfl rfl (RL_sg (SG_stage [13, 14, 15, 16] [] [] (fun _ _ _ => False) (g' := 0) (by kernel_rfl) (by kernel_rfl) (fun _ _ _ _ _ h => h) hs ?_))
      refine PL_val rfl (fun w => R_extract rfl rfl) ?_
      refine PL_val rfl (fun w => R_extract rfl rfl) ?_
      refine PL_val rfl (fun w => R_assign rfl) ?_
      refine PL_val rfl (fun w => R_assign rfl) ?_
      refine PL_end (HL_tail ?_)
      intro w hs
      refine RL_sg (SG_end (by kernel_rfl) ?_)
      refine Nx_then (W_seq (W_seq (W_region (L_move rfl rfl (L_neq rfl rfl rfl (dtrue (by omega)) ?_)))))
      refine RL_then (W_if_true rfl (W_exit' (Ex_then_exit (Ex_block_hit (Nx_then (W_region (L_move rfl rfl (L_add rfl rfl rfl (wrp_i64 (by omega)) ?_))))))))
      refine L_assign rfl rfl (RL_nil' ?_)
      refine Nx_loopP (k, i + 1, _) (is := [1, 2, 5, 7]) (I' := (fun (k : Bok) (i : Nat) (w : World) => (i ≤ n) ∧ (k.B = B ∧ k.r = r) ∧ (k.ok w0 i) ∧ (k.next ≤ 1 + 256 * i) ∧ (HS w0 w (k.bks ++ [(b2, Row 49 r.cells)]))) (k) (i + 1) (_)) rfl rfl rfl ?_ ?_
      ·
       refine ⟨by omega, ⟨hkB, hkr⟩, hk.more (by omega), by omega, ?_⟩
       rw [hL1] at hs
       have h1 := HS.re (L' := Mt ++ (k.bks ++ [(b2, Row 49 r.cells)])) hs (fun c => by simp only [List.map_append, List.map_cons, List.map_nil, List.sum_append, List.sum_cons, List.sum_nil]; omega)
       exact HS.dropL h1 hbt.own
      ·
       show n - (i + 1) < n - i; omega
     ·
      clear hs hS
      have hre' : refE k.last m.time m.ps = 0 := by rw [← her]; exact hre
      subst hre
      have hlp := ref_len hre'
      have hL := step_least hk hlp hst
      have hk'B : k'.B = B := by rw [hst.sameB, hkB]
      have hk'r : k'.r = r := by rw [hst.samer, hkr]
      have hnx' : k'.next ≤ 1 + 256 * ((i + 1 : Nat) : Int) := by
       have h1 : k'.next ≤ k.next + (m.ps.length : Int) := (hst.news.facts hk.next1).2.2.1
       omega
      obtain ⟨cnt, tt, hans⟩ := hst.most
      have hpsl : ps.length = m.ps.length := hst.pts.len
      have hahead := hst.ahead
      have hal := hahead.len
      have hptok := hst.pts
      have hlenm := hst.lenm
      rw [hkr] at hahead hans
      have hosl : os2.length ≤ 256 := by rw [hal]; exact Nat.le_trans (List.length_filter_le ..) hk.cnt
      have hcnt := hk.cnt
      clear hst
      obtain ⟨a1, c1, rfl, _⟩ := hb1.slice
      obtain ⟨A, hA⟩ : ∃ A, A = k'.bks ++ (L1 ++ M1) := ⟨_, rfl⟩
      have hs : HS w0 w1 (A ++ ([] ++ ([] ++ []))) := by rw [hA, List.append_nil, List.append_nil, List.append_nil, ← List.append_assoc]; exact hs1
      clear hs1
      have hAo : Own w0 A := by rw [hA]; exact hk'.own.app (hL1o.app hb1.own)
      have hb2A : (b2, Row 49 r.cells) ∈ A := by rw [hA, hL1]; exact List.mem_append_right _ (List.mem_append_left _ (List.mem_cons_self ..))
      have hMtA : ∀ p ∈ Mt, p ∈ A := fun p hp => by rw [hA, hL1]; exact List.mem_append_right _ (List.mem_append_left _ (List.mem_append_right _ hp))
      have hM1A : ∀ p ∈ M1, p ∈ A := fun p hp => by rw [hA]; exact List.mem_append_right _ (List.mem_append_right _ hp)
      have hid2 : ∀ q, q < os2.length → (os2.getD q on0).t.id = ((k.os.filter aliveB).getD q on0).t.id := fun q hq => (hahead.at (i := q) (by omega)).tid
      refine L_move rfl rfl (RL_sg (SG_stage [13, 14, 15, 16] [] [] (fun _ _ _ => False) (g' := 0) (by kernel_rfl) (by kernel_rfl) (fun _ _ _ _ _ h => h) hs ?_))
      refine PL_val rfl (fun w => R_extract rfl rfl) ?_
      refine PL_val rfl (fun w => R_extract rfl rfl) ?_
      refine PL_val rfl (fun w => R_assign rfl) ?_
      refine PL_val rfl (fun w => R_assign rfl) ?_
      refine PL_end (HL_tail ?_)
      intro w hs
      refine RL_sg (SG_end (by kernel_rfl) ?_)
      refine Nx_then (W_seq (W_seq (W_region (L_move rfl rfl (L_neq rfl rfl rfl (dfalse (by omega)) ?_)))))
      refine RL_then (W_if_false rfl (W_skip' (Nx_then (W_seq (W_region (L_assign rfl rfl (RL_then (W_seq (W_region (L_assign rfl rfl (RL_then (W_seq ?_))))))))))))
      refine W_seq (W_region (L_assign rfl rfl (RL_then (W_block ?_))))
      refine W_loop6 (fun (cb : VB) (rr : List RR) (ib : VB) (q : Nat) (j : Nat) (w : World) => [(1, .slice a n c), (2, .pointer (some ⟨b2, 0, none⟩)), (5, bv B), (7, .int .i64 i), (8, .slice at' k.os.length ct), (9, .slice a1 m.ps.length c1), (11, cb.v), (12, ib.v), (13, .int .i64 j)]) (fun (cb : VB) (rr : List RR) (ib : VB) (q : Nat) (j : Nat) (w : World) => w) (fun (cb : VB) (rr : List RR) (ib : VB) (q : Nat) (j : Nat) (w : World) => (j ≤ k.os.length ∧ q ≤ os2.length) ∧ ((k.os.take j).filter aliveB = (k.os.filter aliveB).take q) ∧ (rr.map RR.xs = costRows r ps (os2.take q)) ∧ (∀ z ∈ rr, z.ok w0) ∧ (Bl w0 56 1 cb.v q (rvs rr) cb.M) ∧ (Bl w0 3 1 ib.v q (il ((os2.take q).map fun o => o.t.id)) ib.M) ∧ (HS w0 w (A ++ (rbs rr ++ (cb.M ++ ib.M))))) (fun (cb : VB) (rr : List RR) (ib : VB) (q : Nat) (j : Nat) (w : World) => k.os.length - j) (⟨.slice none 0 0, []⟩) ([]) (⟨.slice none 0 0, []⟩) (0) (0) (_) (is := [1, 2, 5, 7, 8, 9, 11, 12, 13]) rfl rfl ?_ ?_
      ·
       exact ⟨⟨Nat.zero_le _, Nat.zero_le _⟩, rfl, rfl, fun z hz => (by cases hz), .nil, .nil, hs⟩
      ·
       clear hs
       intro cb rr ib q j w hI
       show W _ _ _ _ [(1, .slice a n c), (2, .pointer (some ⟨b2, 0, none⟩)), (5, bv B), (7, .int .i64 i), (8, .slice at' k.os.length ct), (9, .slice a1 m.ps.length c1), (11, cb.v), (12, ib.v), (13, .int .i64 j)] w
       obtain ⟨⟨hj, hq⟩, htk, hrx, hro, hbc, hbi, hs⟩ := hI
       by_cases hlt2 : j < k.os.length
       ·
        obtain ⟨o, hoe⟩ : ∃ o, o = k.os.getD j on0 := ⟨_, rfl⟩
        have hoj : k.os[j]? = some o := by rw [hoe, List.getD_eq_getElem?_getD, List.getElem?_eq_getElem hlt2]; rfl
        have hto : (k.os.map On.t).getD j trk0 = o.t := by rw [List.getD_eq_getElem?_getD, List.getElem?_map, hoj]; rfl
        have hst : SlC w at' (tcs (k.os.map On.t)) := Bl.slcM hbt hs (fun p hp => List.mem_append_left _ (hMtA p hp))
        have hsnoc : k.os.take (j + 1) = k.os.take j ++ [o] := take_snoc hoj
        have htget : ∀ {z : Nat} {v : Value}, o.t.cells[z]? = some v → w.cell? ((aD at').add (j * 15 + z)) = some v := fun {z v} hv => hst.2 _ _ (tcs_get (ts := k.os.map On.t) (i := j) (by rw [List.length_map]; exact hlt2) (by rw [hto]; exact hv))
        refine W_seq (W_seq (W_region (L_move rfl rfl (L_move rfl rfl (L_len rfl Try.underlying44 rfl (L_lss rfl rfl rfl (dtrue (by omega)) ?_))))))
        refine RL_then (W_if_true rfl ?_)
        by_cases hkd : o.t.kind = 2
        ·
         refine W_skip' (Nx_then (W_seq (W_block (W_seq (W_seq (W_region (L_move rfl rfl (L_move rfl rfl ?_))))))))
         refine L_idxN rfl Try.underlying44 Try.ti36 rfl rfl (natc_k _) (by omega) (hst.ao (by rw [tcs_len, List.length_map]; omega)) ?_
         refine L_fieldAddr rfl (off := 1) Try.underlying36 rfl rfl Try.ti31 rfl ?_
         refine L_load rfl Try.one31 rfl (by (rw [add_add]; exact htget (z := 1) rfl)) ?_
         refine L_eql rfl rfl rfl (dtrue (by omega)) ?_
         refine RL_then (W_if_true rfl (W_exit' (Ex_then_exit (Ex_block_hit (Nx_then (W_region (L_move rfl rfl (L_add rfl rfl rfl (wrp_i64 (by omega)) ?_))))))))
         refine L_assign rfl rfl (RL_nil' ?_)
         refine Nx_loopP (cb, rr, ib, q, j + 1, _) (is := [1, 2, 5, 7, 8, 9, 11, 12, 13]) (I' := (fun (cb : VB) (rr : List RR) (ib : VB) (q : Nat) (j : Nat) (w : World) => (j ≤ k.os.length ∧ q ≤ os2.length) ∧ ((k.os.take j).filter aliveB = (k.os.filter aliveB).take q) ∧ (rr.map RR.xs = costRows r ps (os2.take q)) ∧ (∀ z ∈ rr, z.ok w0) ∧ (Bl w0 56 1 cb.v q (rvs rr) cb.M) ∧ (Bl w0 3 1 ib.v q (il ((os2.take q).map fun o => o.t.id)) ib.M) ∧ (HS w0 w (A ++ (rbs rr ++ (cb.M ++ ib.M))))) (cb) (rr) (ib) (q) (j + 1) (_)) rfl rfl rfl ?_ ?_
         ·
          refine ⟨⟨by omega, hq⟩, ?_, hrx, hro, hbc, hbi, hs⟩
          rw [hsnoc, List.filter_append, htk]
          have : [o].filter aliveB = [] := by rw [List.filter_cons_of_neg (by unfold aliveB; rw [hkd]; decide)]; rfl
          rw [this, List.append_nil]
         ·
          show k.os.length - (j + 1) < k.os.length - j; omega
        ·
         have hav : aliveB o = true := by unfold aliveB; rw [decide_eq_false hkd]; rfl
         obtain ⟨hFq, htk'⟩ := filt_at hoj hav htk (by omega)
         have hqF := (List.getElem?_eq_some_iff.1 hFq).1
         obtain ⟨u, hue⟩ : ∃ u, u = os2.getD q on0 := ⟨_, rfl⟩
         have huq : os2[q]? = some u := by rw [hue, List.getD_eq_getElem?_getD, List.getElem?_eq_getElem (by omega)]; rfl
         have hAu : AheadR m.time r.sway o u := by
          have h1 := hahead.at (i := q) (da := on0) (db := on0) hqF
          rw [← hue, show (k.os.filter aliveB).getD q on0 = o by rw [List.getD_eq_getElem?_getD, hFq]; rfl] at h1
          exact h1
         have huid := hAu.tid
         obtain ⟨xa, ya, hxa, hya, hu⟩ := hAu
         have hux : u.t.x = xa := by rw [hu]
         have huy : u.t.y = ya := by rw [hu]
         clear hu
         refine W_skip' (Nx_then (W_seq (W_block (W_seq (W_seq (W_region (L_move rfl rfl (L_move rfl rfl ?_))))))))
         refine L_idxN rfl Try.underlying44 Try.ti36 rfl rfl (natc_k _) (by omega) (hst.ao (by rw [tcs_len, List.length_map]; omega)) ?_
         refine L_fieldAddr rfl (off := 1) Try.underlying36 rfl rfl Try.ti31 rfl ?_
         refine L_load rfl Try.one31 rfl (by (rw [add_add]; exact htget (z := 1) rfl)) ?_
         refine L_eql rfl rfl rfl (dfalse (by omega)) ?_
         refine RL_then (W_if_false rfl (W_skip' (Nx_then (W_seq (W_region (L_move rfl rfl (L_move rfl rfl (L_move rfl rfl ?_))))))))
         refine L_idxN rfl Try.underlying44 Try.ti36 rfl rfl (natc_k _) (by omega) (hst.ao (by rw [tcs_len, List.length_map]; omega)) ?_
         refine L_fieldAddr rfl (off := 0) Try.underlying36 rfl rfl Try.ti3 rfl ?_
         refine L_load rfl Try.one3 rfl (by (rw [add_add]; exact htget (z := 0) rfl)) ?_
         refine L_buildSlice1 rfl hs Try.underlying27 Try.ti3 rfl (by decide) rfl rfl ?_
         intro b94 w hb94 hnb94 hs
         simp only [List.map_cons, List.map_nil] at hs
         have h0 : HS w0 w ((A ++ (rbs rr ++ (cb.M ++ ib.M))) ++ [(b94, Row 3 [.int .i64 o.t.id])]) := hs
         clear hs
         have hs : HS w0 w (((A ++ (rbs rr ++ cb.M)) ++ ib.M) ++ [(b94, Row 3 [.int .i64 o.t.id])]) := HS.re h0 (fun c => by simp only [List.map_append, List.map_cons, List.map_nil, List.sum_append, List.sum_cons, List.sum_nil]; omega)
         clear h0
         refine L_appendT (L := A ++ (rbs rr ++ cb.M)) rfl Try.underlying27 Try.ti3 rfl hs hb94 hbi rfl rfl rfl (by simp [Value.oneCell']) (by omega) (by omega) ?_
         intro vi' w Mi' hs hbi'
         refine L_assign rfl rfl (RL_then (W_seq ?_))
         obtain ⟨D, hD⟩ : ∃ D, D = (A ++ (rbs rr ++ cb.M)) ++ Mi' := ⟨_, rfl⟩
         rw [← hD] at hs
         have hDo : Own w0 D := by rw [hD]; exact (hAo.app ((rbs_own hro).app hbc.own)).app hbi'.own
         have hDA : ∀ p ∈ A, p ∈ D := fun p hp => by rw [hD]; exact List.mem_append_left _ (List.mem_append_left _ hp)
         have hTr : ∀ {w' : World} {L' : Bks}, HS w0 w' L' → (∀ p ∈ A, p ∈ L') → SlC w' at' (tcs (k.os.map On.t)) := fun h1 h2 => Bl.slcM hbt h1 (fun p hp => h2 p (hMtA p hp))
         have hjl : j < (k.os.map On.t).length := by rw [List.length_map]; exact hlt2
         have hmem : ∀ {R : Bks}, ∀ p ∈ A, p ∈ D ++ R := fun p hp => List.mem_append_left _ (hDA p hp)
         have haoT : at' = some (aD at') := hst.ao (by rw [tcs_len]; omega)
         have haoL : a = some (aD a) := (ha.old hs hDo).ao (by rw [mcs_len]; omega)
         clear htget hst
         refine W_sg Try.mixed ?_
         replace hs := hs.drewN 1
         refine SG_stageB [0, 1, 2, 3, 5, 6, 7, 8, 10, 11, 12, 13, 16] [4, 9, 14, 15, 17, 18, 19] [20] (noBk SPC) (g' := 0) (by kernel_rfl) (by kernel_rfl) (fun _ _ _ _ _ h => h) hs ?_
         refine PL_val rfl (fun w => R_move rfl) ?_
         refine PL_val rfl (fun w => R_move rfl) ?_
         refine PL_val rfl (fun w => R_idxN Try.underlying44 Try.ti36 rfl rfl (natc_k _) (by omega) haoT) ?_
         refine PL_val rfl (fun w => R_fieldAddr (off := 2) Try.underlying36 rfl rfl Try.ti33 rfl) ?_
         refine PL_val rfl (fun w => R_move rfl) ?_
         refine PL_val rfl (fun w => R_move rfl) ?_
         refine PL_val rfl (fun w => R_idxN Try.underlying50 Try.ti25 rfl rfl (natc_k _) (by omega) haoL) ?_
         refine PL_val rfl (fun w => R_fieldAddr (off := 1) Try.underlying25 rfl rfl Try.ti22 rfl) ?_
         refine PL_val rfl (fun w => R_move rfl) ?_
         refine PL_val rfl (fun w => R_move rfl) ?_
         refine PL_val rfl (fun w => R_idxN Try.underlying44 Try.ti36 rfl rfl (natc_k _) (by omega) haoT) ?_
         refine PL_val rfl (fun w => R_fieldAddr (off := 14) Try.underlying36 rfl rfl Try.ti22 rfl) ?_
         refine PL_val rfl (fun w => R_fieldAddr (off := 1) Try.underlying49 rfl rfl Try.ti22 rfl) ?_
         refine PL_endB ?_
         refine HB_val rfl (fun w R hR hs => R_loadA Try.agg33 Try.ti33 rfl (by (rw [add_add]; exact (show CellsAt w ((aD at').add (j * 15 + 2)) o.t.x.cells by rw [← hto]; exact trk_x (hTr hs hmem) hjl)))) ?_
         refine HB_val rfl (fun w R hR hs => R_load Try.one22 rfl (by (rw [add_add]; exact (ha.old hs (hDo.app hR)).2 _ _ (mcs_get (ts := l) (i := i) (q := 1) (v := .float .f64 m.time) (by omega) (by rw [← hme]; rfl))))) ?_
         refine HB_val rfl (fun w R hR hs => R_load Try.one22 rfl (by (rw [add_add]; exact (hTr hs hmem).2 _ _ (tcs_get (ts := k.os.map On.t) (i := j) (q := 14) hjl (by rw [hto]; rfl))))) ?_
         refine HB_farith rfl (op := .sub) rfl rfl rfl ?_
         intro r111 hr111
         refine HB_val rfl (fun w R hR hs => R_load Try.one22 rfl (by exact cellAM hs (hmem _ hb2A) (j := 1) rfl)) ?_
         refine HB_callH rfl Try.fun16 rfl (fun w R hR hs => aheadH hs o.t.x r111 r.sway) ?_
         rintro _ hd
         obtain ⟨xb, rfl, hxb⟩ := hd _ rfl
         refine HB_alloc rfl Try.ti33 ?_
         intro b14 hb14
         refine HB_tail ?_
         intro w hs
         replace hs : HS w0 w ((b14, Row 33 stt0.cells) :: D) := HS.push hs; refine L_storeA hs (i := 0) rfl Try.ti33 rfl rfl rfl (by simp [Stt.cells, stt0]) (by simp [Stt.cells, Value.oneCell']) ?_; intro w hs
         refine RL_sg (SG_end (by kernel_rfl) ?_)
         refine Nx_then (W_seq ?_)
         have hs1 : HS w0 w ((b14, Row 33 xb.cells) :: D) := hs
         clear hs
         have hs := hs1
         clear hs1
         have het1 : cn r111 = cn (fop .sub m.time o.t.last) := (Fs.cn hr111).trans (cn_fop ..).symm
         have hxbu : xb.c = u.t.x.c := by rw [hux, hxa]; exact hxb.trans (aheadF_congr rfl het1)
         obtain ⟨E, hE⟩ : ∃ E, E = (b14, Row 33 xb.cells) :: D := ⟨_, rfl⟩
         rw [← hE] at hs
         have hEo : Own w0 E := by rw [hE]; exact Own.cons hb14 hDo
         have hEA : ∀ p ∈ A, p ∈ E := fun p hp => by rw [hE]; exact List.mem_cons_of_mem _ (hDA p hp)
         have hmem2 : ∀ {R : Bks}, ∀ p ∈ A, p ∈ E ++ R := fun p hp => List.mem_append_left _ (hEA p hp)
         clear hr111
         refine W_sg Try.mixed ?_
         replace hs := hs.drewN 1
         refine SG_stageB [0, 1, 2, 3, 5, 6, 7, 8, 10, 11, 12, 13, 16] [4, 9, 14, 15, 17, 18, 19] [20] (noBk SPC) (g' := 0) (by kernel_rfl) (by kernel_rfl) (fun _ _ _ _ _ h => h) hs ?_
         refine PL_val rfl (fun w => R_move rfl) ?_
         refine PL_val rfl (fun w => R_move rfl) ?_
         refine PL_val rfl (fun w => R_idxN Try.underlying44 Try.ti36 rfl rfl (natc_k _) (by omega) haoT) ?_
         refine PL_val rfl (fun w => R_fieldAddr (off := 7) Try.underlying36 rfl rfl Try.ti33 rfl) ?_
         refine PL_val rfl (fun w => R_move rfl) ?_
         refine PL_val rfl (fun w => R_move rfl) ?_
         refine PL_val rfl (fun w => R_idxN Try.underlying50 Try.ti25 rfl rfl (natc_k _) (by omega) haoL) ?_
         refine PL_val rfl (fun w => R_fieldAddr (off := 1) Try.underlying25 rfl rfl Try.ti22 rfl) ?_
         refine PL_val rfl (fun w => R_move rfl) ?_
         refine PL_val rfl (fun w => R_move rfl) ?_
         refine PL_val rfl (fun w => R_idxN Try.underlying44 Try.ti36 rfl rfl (natc_k _) (by omega) haoT) ?_
         refine PL_val rfl (fun w => R_fieldAddr (off := 14) Try.underlying36 rfl rfl Try.ti22 rfl) ?_
         refine PL_val rfl (fun w => R_fieldAddr (off := 1) Try.underlying49 rfl rfl Try.ti22 rfl) ?_
         refine PL_endB ?_
         refine HB_val rfl (fun w R hR hs => R_loadA Try.agg33 Try.ti33 rfl (by (rw [add_add]; exact (show CellsAt w ((aD at').add (j * 15 + 7)) o.t.y.cells by rw [← hto]; exact trk_y (hTr hs hmem2) hjl)))) ?_
         refine HB_val rfl (fun w R hR hs => R_load Try.one22 rfl (by (rw [add_add]; exact (ha.old hs (hEo.app hR)).2 _ _ (mcs_get (ts := l) (i := i) (q := 1) (v := .float .f64 m.time) (by omega) (by rw [← hme]; rfl))))) ?_
         refine HB_val rfl (fun w R hR hs => R_load Try.one22 rfl (by (rw [add_add]; exact (hTr hs hmem2).2 _ _ (tcs_get (ts := k.os.map On.t) (i := j) (q := 14) hjl (by rw [hto]; rfl))))) ?_
         refine HB_farith rfl (op := .sub) rfl rfl rfl ?_
         intro r130 hr130
         refine HB_val rfl (fun w R hR hs => R_load Try.one22 rfl (by exact cellAM hs (hmem2 _ hb2A) (j := 1) rfl)) ?_
         refine HB_callH rfl Try.fun16 rfl (fun w R hR hs => aheadH hs o.t.y r130 r.sway) ?_
         rintro _ hd
         obtain ⟨yb, rfl, hyb⟩ := hd _ rfl
         refine HB_alloc rfl Try.ti33 ?_
         intro b15 hb15
         refine HB_tail ?_
         intro w hs
         replace hs : HS w0 w ((b15, Row 33 stt0.cells) :: E) := HS.push hs; refine L_storeA hs (i := 0) rfl Try.ti33 rfl rfl rfl (by simp [Stt.cells, stt0]) (by simp [Stt.cells, Value.oneCell']) ?_; intro w hs
         refine RL_sg (SG_end (by kernel_rfl) ?_)
         refine Nx_then (W_seq ?_)
         have hs1 : HS w0 w ((b15, Row 33 yb.cells) :: E) := hs
         clear hs
         have hs := hs1
         clear hs1
         have het2 : cn r130 = cn (fop .sub m.time o.t.last) := (Fs.cn hr130).trans (cn_fop ..).symm
         have hybu : yb.c = u.t.y.c := by rw [huy, hya]; exact hyb.trans (aheadF_congr rfl het2)
         clear hr130
         obtain ⟨G, hG⟩ : ∃ G, G = (b15, Row 33 yb.cells) :: E := ⟨_, rfl⟩
         rw [← hG] at hs
         have hGo : Own w0 G := by rw [hG]; exact Own.cons hb15 hEo
         have hGA : ∀ p ∈ A, p ∈ G := fun p hp => by rw [hG]; exact List.mem_cons_of_mem _ (hEA p hp)
         have hG14 : (b14, Row 33 xb.cells) ∈ G := by rw [hG, hE]; exact List.mem_cons_of_mem _ (List.mem_cons_self ..)
         have hG15 : (b15, Row 33 yb.cells) ∈ G := by rw [hG]; exact List.mem_cons_self ..
         clear hmem hmem2
         refine W_region (L_assign rfl rfl (RL_then (W_seq (W_seq (W_region (L_assign rfl rfl (RL_then (W_block ?_))))))))
         refine W_loop3 (fun (rb : VB) (kk : Nat) (w : World) => [(1, .slice a n c), (2, .pointer (some ⟨b2, 0, none⟩)), (5, bv B), (7, .int .i64 i), (8, .slice at' k.os.length ct), (9, .slice a1 m.ps.length c1), (11, cb.v), (12, vi'), (13, .int .i64 j), (14, .pointer (some ⟨b14, 0, none⟩)), (15, .pointer (some ⟨b15, 0, none⟩)), (16, rb.v), (17, .int .i64 kk)]) (fun (rb : VB) (kk : Nat) (w : World) => w) (fun (rb : VB) (kk : Nat) (w : World) => (kk ≤ m.ps.length) ∧ (Bl w0 2 1 rb.v kk (il (costRow r (ps.take kk) u)) rb.M) ∧ (HS w0 w (G ++ rb.M))) (fun (rb : VB) (kk : Nat) (w : World) => m.ps.length - kk) (⟨.slice none 0 0, []⟩) (0) (_) (is := [1, 2, 5, 7, 8, 9, 11, 12, 13, 14, 15, 16, 17]) rfl rfl ?_ ?_
         ·
          exact ⟨Nat.zero_le _, .nil, by show HS w0 w (G ++ []); rw [List.append_nil]; exact hs⟩
         ·
          clear hs
          intro rb kk w hI
          show W _ _ _ _ [(1, .slice a n c), (2, .pointer (some ⟨b2, 0, none⟩)), (5, bv B), (7, .int .i64 i), (8, .slice at' k.os.length ct), (9, .slice a1 m.ps.length c1), (11, cb.v), (12, vi'), (13, .int .i64 j), (14, .pointer (some ⟨b14, 0, none⟩)), (15, .pointer (some ⟨b15, 0, none⟩)), (16, rb.v), (17, .int .i64 kk)] w
          obtain ⟨hkk, hbr, hs⟩ := hI
          have hGr : Own w0 (G ++ rb.M) := hGo.app hbr.own
          have hlA : SlC w a (mcs l) := ha.old hs hGr
          have hl2 : w.cell? ((aD a).add (i * 4 + 2)) = some (.slice m.a m.ps.length m.c) := hlA.2 _ _ (mcs_get (ts := l) (i := i) (q := 2) (by omega) (by rw [← hme]; rfl))
          by_cases hlt3 : kk < m.ps.length
          ·
           obtain ⟨pl, hple⟩ : ∃ pl, pl = m.ps.getD kk plt0 := ⟨_, rfl⟩
           obtain ⟨p, hpe⟩ : ∃ p, p = ps.getD kk pq0 := ⟨_, rfl⟩
           have hpp : PtOk pl p := by rw [hple, hpe]; exact hptok.at hlt3
           have hplt : PltLt pl := by rw [hple]; exact hmk.lt kk hlt3
           have hpA : SlC w m.a (pcs m.ps) := hmk.pl.old hs hGr
           have hrow : costRow r (ps.take (kk + 1)) u = costRow r (ps.take kk) u ++ [costT r.noise r.gate u.t.x u.t.y p.x p.y] := by
            unfold costRow
            rw [take_snoc (j := kk) (x := p) (by rw [hpe, List.getElem?_eq_getElem (by omega), List.getD_eq_getElem?_getD, List.getElem?_eq_getElem (by omega)]; rfl), List.map_append]; rfl
           refine W_seq (W_seq (W_region (L_move rfl rfl (L_move rfl rfl (L_move rfl rfl (L_idxN rfl Try.underlying50 Try.ti25 rfl rfl (natc_k _) (by omega) haoL ?_))))))
           refine L_fieldAddr rfl (off := 2) Try.underlying25 rfl rfl Try.ti23 rfl ?_
           refine L_load rfl Try.one23 rfl (by (rw [add_add]; exact hl2)) ?_
           refine L_len rfl Try.underlying23 rfl (L_lss rfl rfl rfl (dtrue (by omega)) ?_)
           refine RL_then (W_if_true rfl (W_skip' (Nx_then (W_seq (W_block (W_seq (W_region (L_move rfl rfl (L_move rfl rfl (L_idxN rfl Try.underlying50 Try.ti25 rfl rfl (natc_k _) (by omega) haoL ?_))))))))))
           refine L_fieldAddr rfl (off := 2) Try.underlying25 rfl rfl Try.ti23 rfl ?_
           refine L_load rfl Try.one23 rfl (by (rw [add_add]; exact hl2)) ?_
           refine L_move rfl rfl ?_
           refine L_idxN rfl Try.underlying23 Try.ti58 rfl rfl (natc_k _) (by omega) (hpA.ao (by rw [pcs_len]; omega)) ?_
           refine L_loadA rfl Try.agg58 Try.ti58 rfl (by exact (show CellsAt w ((aD m.a).add (kk * 5)) pl.cells by rw [hple]; exact plt_at hpA hlt3)) ?_
           refine L_alloc rfl hs Try.ti58 ?_; intro b18 w hb18 _ hs; replace hs := HS.push hs
           refine L_storeA hs (i := 0) rfl Try.ti58 rfl rfl (by rfl) (by simp [Plt.cells]) (by exact Plt.one _) ?_
           intro w hs
           dsimp only [List.set_cons_succ, List.set_cons_zero, List.cons_append, List.nil_append] at hs
           refine RL_then (W_seq ?_)
           have hs1 : HS w0 w ((b18, Row 58 pl.cells) :: (G ++ rb.M)) := hs
           clear hs
           have hs := hs1
           clear hs1
           refine W_region (L_fieldAddr rfl (off := 3) Try.underlying58 rfl rfl Try.ti22 rfl (L_load rfl Try.one22 rfl (by exact hs.cellA (i := 0) (j := 3) rfl rfl) ?_))
           refine L_call rfl Try.fun17 rfl (turn_ok pl.b hplt.b w) ?_
           rintro _ w1 ⟨re, im, rfl, hs', hre, him⟩
           replace hs := hs.nil hs'
           clear hs'
           refine L_assign rfl rfl (RL_then (W_seq ?_))
           have hm3 : ∀ {R : Bks} {z : Nat × Obj}, ∀ x ∈ G, x ∈ (z :: (G ++ rb.M)) ++ R := fun x hx => List.mem_append_left _ (List.mem_cons_of_mem _ (List.mem_append_left _ hx))
           refine W_sg Try.mixed ?_
           replace hs := hs.drewN 1
           refine SG_stageB [1, 3, 4, 6, 10, 12, 13, 15] [0, 2, 5, 7, 8, 9, 11, 14, 16, 17, 18, 19] [] (noBk SPC) (g' := 0) (by kernel_rfl) (by kernel_rfl) (fun _ _ _ _ _ h => h) hs ?_
           refine PL_val rfl (fun w => R_fieldAddr (off := 0) Try.underlying58 rfl rfl Try.ti22 rfl) ?_
           refine PL_val rfl (fun w => R_move rfl) ?_
           refine PL_val rfl (fun w => R_imag rfl) ?_
           refine PL_val rfl (fun w => R_fieldAddr (off := 0) Try.underlying49 rfl rfl Try.ti22 rfl) ?_
           refine PL_val rfl (fun w => R_fieldAddr (off := 0) Try.underlying58 rfl rfl Try.ti22 rfl) ?_
           refine PL_val rfl (fun w => R_move rfl) ?_
           refine PL_val rfl (fun w => R_real rfl) ?_
           refine PL_val rfl (fun w => R_fieldAddr (off := 0) Try.underlying49 rfl rfl Try.ti22 rfl) ?_
           refine PL_endB ?_
           refine HB_val rfl (fun w R hR hs => R_loadA Try.agg33 Try.ti33 rfl (by exact cellsAt_whole (cs := xb.cells) (hs.has _ (hm3 _ hG14)))) ?_
           refine HB_val rfl (fun w R hR hs => R_load Try.one22 rfl (by exact hs.cellA (i := 0) (j := 0) rfl rfl)) ?_
           refine HB_farith rfl (op := .mul) rfl rfl rfl ?_
           intro r160 hr160
           refine HB_val rfl (fun w R hR hs => R_load Try.one22 rfl (by exact cellAM hs (hm3 _ (hGA _ hb2A)) (j := 0) rfl)) ?_
           refine HB_callH rfl Try.fun18 rfl (fun w R hR hs => farH hs xb r160 r.noise) ?_
           rintro _ hd
           obtain ⟨d1, rfl, hd1⟩ := hd _ rfl
           refine HB_val rfl (fun w R hR hs => R_loadA Try.agg33 Try.ti33 rfl (by exact cellsAt_whole (cs := yb.cells) (hs.has _ (hm3 _ hG15)))) ?_
           refine HB_val rfl (fun w R hR hs => R_load Try.one22 rfl (by exact hs.cellA (i := 0) (j := 0) rfl rfl)) ?_
           refine HB_farith rfl (op := .mul) rfl rfl rfl ?_
           intro r169 hr169
           refine HB_val rfl (fun w R hR hs => R_load Try.one22 rfl (by exact cellAM hs (hm3 _ (hGA _ hb2A)) (j := 0) rfl)) ?_
           refine HB_callH rfl Try.fun18 rfl (fun w R hR hs => farH hs yb r169 r.noise) ?_
           rintro _ hd
           obtain ⟨d2, rfl, hd2⟩ := hd _ rfl
           refine HB_farith rfl (op := .add) rfl rfl rfl ?_
           intro r173 hr173
           refine HB_val rfl (fun w R hR hs => R_assign rfl) ?_
           refine HB_tail ?_
           intro w hs
           refine RL_sg (SG_end (by kernel_rfl) ?_)
           refine Nx_then (W_seq ?_)
           rw [List.append_nil] at hs
           have hgate : GateOk r.gate := by rw [← hkr]; exact hk.rul.gate
           obtain ⟨dF, hdF⟩ : ∃ dF, dF = dstF r.noise u.t.x u.t.y p.x p.y := ⟨_, rfl⟩
           have c160 : cn r160 = cn p.x := ((Fs.cn hr160).trans (fop_congr rfl him)).trans hpp.1.symm
           have c169 : cn r169 = cn p.y := ((Fs.cn hr169).trans (fop_congr rfl hre)).trans hpp.2.symm
           have c173 : cn r173 = cn dF := by
            rw [hdF, ← dstF_congr hxbu hybu c160 c169]
            exact (Fs.cn hr173).trans ((fop_congr hd1 hd2).trans (cn_fop ..).symm)
           have hlr : leB r173 r.gate = leB dF r.gate := by unfold leB; rw [order_congr c173 rfl]
           have hdpos : isnan dF = false → dF ≤ 9218868437227405312 := by rw [hdF]; exact dstF_pos
           have hctE : costT r.noise r.gate u.t.x u.t.y p.x p.y = costD r.gate dF := by unfold costT; rw [hdF]
           clear hr160 hr169 hr173 hd1 hd2
           cases hle : leB dF r.gate
           ·
            rw [hle] at hlr
            have hct : costT r.noise r.gate u.t.x u.t.y p.x p.y = -1 := by rw [hctE]; unfold costD; rw [hle, if_neg (by decide)]
            refine W_region (L_assign rfl rfl (RL_then (W_seq (W_seq (W_region (L_move rfl rfl (L_fieldAddr rfl (off := 2) Try.underlying49 rfl rfl Try.ti22 rfl (L_load rfl Try.one22 rfl (by exact cellAM hs (List.mem_cons_of_mem _ (List.mem_append_left _ (hGA _ hb2A))) (j := 2) rfl) ?_))))))))
            refine L_fcmp rfl rfl rfl (fun _ => by rw [binOp_float_cmp_leq]; rfl) ?_
            refine RL_then (W_set 177 (v' := .bool false) rfl ((congrArg Value.bool hlr)) (W_if_false rfl (W_skip' (Nx_then (W_region (L_move rfl rfl (L_move rfl rfl (L_buildSlice rfl hs Try.underlying56 Try.ti2 rfl (by decide) rfl (by simp [Value.cells]) ?_))))))))
            intro b184 w hb184 hnb184 hs
            simp only [List.flatMap_cons, List.flatMap_nil, cells_int, List.append_nil, List.cons_append] at hs
            skip
            have h0 : HS w0 w (((b18, Row 58 pl.cells) :: (G ++ rb.M)) ++ [(b184, Row 2 [.int .i64 (-1)])]) := hs
            clear hs
            have hs : HS w0 w ((((b18, Row 58 pl.cells) :: G) ++ rb.M) ++ [(b184, Row 2 [.int .i64 (-1)])]) := HS.re h0 (fun c => by simp only [List.map_append, List.map_cons, List.map_nil, List.sum_append, List.sum_cons, List.sum_nil]; omega)
            clear h0
            refine L_appendT (L := (b18, Row 58 pl.cells) :: G) rfl Try.underlying56 Try.ti2 rfl hs hb184 hbr rfl rfl rfl (by simp [Value.oneCell']) (by omega) (by omega) ?_
            intro vr' w Mr' hs hbr'
            refine L_assign rfl rfl (RL_nil' (Nx_block (Nx_then (W_region (L_move rfl rfl (L_add rfl rfl rfl (wrp_i64 (by omega)) ?_))))))
            refine L_assign rfl rfl (RL_nil' ?_)
            refine Nx_loopP (⟨vr', Mr'⟩, kk + 1, _) (is := [1, 2, 5, 7, 8, 9, 11, 12, 13, 14, 15, 16, 17]) (I' := (fun (rb : VB) (kk : Nat) (w : World) => (kk ≤ m.ps.length) ∧ (Bl w0 2 1 rb.v kk (il (costRow r (ps.take kk) u)) rb.M) ∧ (HS w0 w (G ++ rb.M))) (⟨vr', Mr'⟩) (kk + 1) (_)) rfl rfl rfl ?_ ?_
            ·
             refine ⟨by omega, ?_, HS.pop hs hb18⟩
             rw [hrow, ← il_snoc, hct]
             exact hbr'
            ·
             show m.ps.length - (kk + 1) < m.ps.length - kk; omega
           ·
            rw [hle] at hlr
            obtain ⟨h1, h3, mm, h4, h5⟩ := cost_some hgate hdpos hle
            have hct : costT r.noise r.gate u.t.x u.t.y p.x p.y = (mm : Int) := by rw [hctE]; unfold costD; rw [hle, if_pos rfl, h5]; rfl
            refine W_region (L_assign rfl rfl (RL_then (W_seq (W_seq (W_region (L_move rfl rfl (L_fieldAddr rfl (off := 2) Try.underlying49 rfl rfl Try.ti22 rfl (L_load rfl Try.one22 rfl (by exact cellAM hs (List.mem_cons_of_mem _ (List.mem_append_left _ (hGA _ hb2A))) (j := 2) rfl) ?_))))))))
            refine L_fcmp rfl rfl rfl (fun _ => by rw [binOp_float_cmp_leq]; rfl) ?_
            refine RL_then (W_set 177 (v' := .bool true) rfl ((congrArg Value.bool hlr)) (W_if_true rfl (W_region (L_move rfl rfl (L_farith rfl (op := .mul) rfl rfl rfl ?_)))))
            intro r179 k179 hr179
            replace hs := hs.drewN k179
            have eQ : cn r179 = cn (fop .mul dF 4697254411347427328) := (Fs.cn hr179).trans ((fop_congr c173 rfl).trans (cn_fop ..).symm)
            obtain rfl : r179 = fop .mul dF 4697254411347427328 := cn_same eQ h3
            refine L_call rfl Try.fun19 rfl (floor_ok _ _ h3 rfl _) ?_
            rintro _ _ ⟨rfl, rfl⟩
            refine RL_val rfl (R_ftoi Try.underlying22 Try.underlying2 rfl h5) (L_assign rfl rfl (RL_then (W_region (L_move rfl rfl (L_move rfl rfl (L_buildSlice1 rfl hs Try.underlying56 Try.ti2 rfl (by decide) rfl rfl ?_))))))
            intro b184 w hb184 hnb184 hs
            simp only [List.map_cons, List.map_nil] at hs
            dsimp only [List.set_cons_succ, List.set_cons_zero, List.cons_append, List.nil_append] at hs
            skip
            have h0 : HS w0 w (((b18, Row 58 pl.cells) :: (G ++ rb.M)) ++ [(b184, Row 2 [.int .i64 (mm : Int)])]) := hs
            clear hs
            have hs : HS w0 w ((((b18, Row 58 pl.cells) :: G) ++ rb.M) ++ [(b184, Row 2 [.int .i64 (mm : Int)])]) := HS.re h0 (fun c => by simp only [List.map_append, List.map_cons, List.map_nil, List.sum_append, List.sum_cons, List.sum_nil]; omega)
            clear h0
            refine L_appendT (L := (b18, Row 58 pl.cells) :: G) rfl Try.underlying56 Try.ti2 rfl hs hb184 hbr rfl rfl rfl (by simp [Value.oneCell']) (by omega) (by omega) ?_
            intro vr' w Mr' hs hbr'
            refine L_assign rfl rfl (RL_nil' (Nx_block (Nx_then (W_region (L_move rfl rfl (L_add rfl rfl rfl (wrp_i64 (by omega)) ?_))))))
            refine L_assign rfl rfl (RL_nil' ?_)
            refine Nx_loopP (⟨vr', Mr'⟩, kk + 1, _) (is := [1, 2, 5, 7, 8, 9, 11, 12, 13, 14, 15, 16, 17]) (I' := (fun (rb : VB) (kk : Nat) (w : World) => (kk ≤ m.ps.length) ∧ (Bl w0 2 1 rb.v kk (il (costRow r (ps.take kk) u)) rb.M) ∧ (HS w0 w (G ++ rb.M))) (⟨vr', Mr'⟩) (kk + 1) (_)) rfl rfl rfl ?_ ?_
            ·
             refine ⟨by omega, ?_, HS.pop hs hb18⟩
             rw [hrow, ← il_snoc, hct]
             exact hbr'
            ·
             show m.ps.length - (kk + 1) < m.ps.length - kk; omega
          ·
           have hke : kk = m.ps.length := by omega
           subst hke
           rw [show ps.take m.ps.length = ps by rw [← hpsl, List.take_length]] at hbr
           obtain ⟨rv, rM⟩ := rb
           obtain ⟨ab, cbb, hbv, _⟩ := hbr.slice
           obtain rfl : rv = .slice ab m.ps.length cbb := hbv
           refine W_seq (W_seq (W_region (L_move rfl rfl (L_move rfl rfl (L_move rfl rfl (L_idxN rfl Try.underlying50 Try.ti25 rfl rfl (natc_k _) (by omega) haoL ?_))))))
           refine L_fieldAddr rfl (off := 2) Try.underlying25 rfl rfl Try.ti23 rfl ?_
           refine L_load rfl Try.one23 rfl (by (rw [add_add]; exact hl2)) ?_
           refine L_len rfl Try.underlying23 rfl (L_lss rfl rfl rfl (dfalse (by omega)) ?_)
           refine RL_then (W_if_false rfl (W_exit' (Ex_then_exit (Ex_loop_exit (Ex_block_hit (Nx_then (W_region (L_move rfl rfl (L_move rfl rfl (L_buildSlice1 rfl hs Try.underlying54 Try.ti56 rfl (by decide) rfl rfl ?_))))))))))
           intro b188 w hb188 hnb188 hs
           simp only [List.map_cons, List.map_nil] at hs
           have h0 : HS w0 w ((G ++ rM) ++ [(b188, Row 56 [(.slice ab m.ps.length cbb)])]) := hs
           clear hs
           have hs : HS w0 w ((((b15, Row 33 yb.cells) :: (b14, Row 33 xb.cells) :: (A ++ (rbs rr ++ (Mi' ++ rM)))) ++ cb.M) ++ [(b188, Row 56 [(.slice ab m.ps.length cbb)])]) := by
            rw [hG, hE, hD] at h0
            exact HS.re h0 (fun c => by simp only [List.map_append, List.map_cons, List.map_nil, List.sum_append, List.sum_cons, List.sum_nil]; omega)
           clear h0
           refine L_appendT (L := (b15, Row 33 yb.cells) :: (b14, Row 33 xb.cells) :: (A ++ (rbs rr ++ (Mi' ++ rM)))) rfl Try.underlying54 Try.ti56 rfl hs hb188 hbc rfl rfl rfl (fun x hx => by rw [List.mem_singleton.1 hx]; rfl) (by omega) (by omega) ?_
           intro vc' w Mc' hs hbc'
           refine L_assign rfl rfl (RL_nil' (Nx_block (Nx_then (W_region (L_move rfl rfl (L_add rfl rfl rfl (wrp_i64 (by omega)) ?_))))))
           refine L_assign rfl rfl (RL_nil' ?_)
           refine Nx_loopP (⟨vc', Mc'⟩, rr ++ [⟨costRow r ps u, (.slice ab m.ps.length cbb), rM⟩], ⟨vi', Mi'⟩, q + 1, j + 1, _) (is := [1, 2, 5, 7, 8, 9, 11, 12, 13]) (I' := (fun (cb : VB) (rr : List RR) (ib : VB) (q : Nat) (j : Nat) (w : World) => (j ≤ k.os.length ∧ q ≤ os2.length) ∧ ((k.os.take j).filter aliveB = (k.os.filter aliveB).take q) ∧ (rr.map RR.xs = costRows r ps (os2.take q)) ∧ (∀ z ∈ rr, z.ok w0) ∧ (Bl w0 56 1 cb.v q (rvs rr) cb.M) ∧ (Bl w0 3 1 ib.v q (il ((os2.take q).map fun o => o.t.id)) ib.M) ∧ (HS w0 w (A ++ (rbs rr ++ (cb.M ++ ib.M))))) (⟨vc', Mc'⟩) (rr ++ [⟨costRow r ps u, (.slice ab m.ps.length cbb), rM⟩]) (⟨vi', Mi'⟩) (q + 1) (j + 1) (_)) rfl rfl rfl ?_ ?_
           ·
            refine ⟨⟨by omega, by omega⟩, htk', ?_, fun z hz => ?_, ?_, ?_, ?_⟩
            ·
             rw [List.map_append, hrx, take_snoc huq]; unfold costRows; rw [List.map_append]; rfl
            ·
             rcases List.mem_append.1 hz with hz | hz
             ·
              exact hro z hz
             ·
              rw [List.mem_singleton.1 hz]
              show Bl w0 2 1 (.slice ab m.ps.length cbb) (costRow r ps u).length (il (costRow r ps u)) rM
              rw [show (costRow r ps u).length = m.ps.length by unfold costRow; rw [List.length_map, hpsl]]
              exact hbr
            ·
             show Bl w0 56 1 vc' (q + 1) (rvs (rr ++ [⟨costRow r ps u, (.slice ab m.ps.length cbb), rM⟩])) Mc'
             rw [show rvs (rr ++ [⟨costRow r ps u, (.slice ab m.ps.length cbb), rM⟩]) = rvs rr ++ [(.slice ab m.ps.length cbb)] by unfold rvs; rw [List.map_append]; rfl]
             exact hbc'
            ·
             show Bl w0 3 1 vi' (q + 1) (il ((os2.take (q + 1)).map fun o => o.t.id)) Mi'
             rw [take_snoc huq, List.map_append, List.map_cons, List.map_nil, huid, ← il_snoc]
             exact hbi'
            ·
             have h1 : HS w0 w ((A ++ (rbs rr ++ (Mi' ++ rM))) ++ Mc') := HS.pop (HS.pop hs hb15) hb14
             have e2 : rbs (rr ++ [⟨costRow r ps u, (.slice ab m.ps.length cbb), rM⟩]) = rbs rr ++ rM := by unfold rbs; rw [List.flatMap_append]; simp
             have h2 : HS w0 w (A ++ ((rbs rr ++ rM) ++ (Mc' ++ Mi'))) := HS.re h1 (fun c => by simp only [List.map_append, List.sum_append]; omega)
             rw [← e2] at h2
             exact h2
           ·
            show k.os.length - (j + 1) < k.os.length - j; omega
       ·
        have hje : j = k.os.length := by omega
        have hqe : q = os2.length := by
         rw [hje, List.take_length] at htk
         have h1 := congrArg List.length htk
         rw [List.length_take] at h1
         omega
        rw [hqe, List.take_length] at hrx hbi
        rw [hqe] at hbc
        obtain ⟨cv, cM⟩ := cb
        obtain ⟨iv, iM⟩ := ib
        obtain ⟨ac, cc, hcv, _⟩ := hbc.slice
        obtain rfl : cv = .slice ac os2.length cc := hcv
        obtain ⟨ai, ci, hiv, _⟩ := hbi.slice
        obtain rfl : iv = .slice ai os2.length ci := hiv
        subst hje
        refine W_seq (W_seq (W_region (L_move rfl rfl (L_move rfl rfl (L_len rfl Try.underlying44 rfl (L_lss rfl rfl rfl (dfalse (by omega)) ?_))))))
        refine RL_then (W_if_false rfl (W_exit' (Ex_then_exit (Ex_loop_exit (Ex_block_hit (Nx_then (W_seq (W_region (L_move rfl rfl ?_)))))))))
        have hrI : RowsI w ac (rr.map RR.xs) (rvs rr) :=
         rowsI_sl (n := 256) hs (Bl.slcM hbc hs (fun p hp => List.mem_append_right _ (List.mem_append_right _ (List.mem_append_left _ hp)))) hro (fun p hp => List.mem_append_right _ (List.mem_append_left _ hp)) (fun z hz => by
          have h1 : z.xs ∈ costRows r ps os2 := by rw [← hrx]; exact List.mem_map.2 ⟨z, hz, rfl⟩
          have h2 := costRows_get _ h1
          omega) (by decide)
        rw [hrx] at hrI
        refine L_call rfl Try.fun20 rfl (most_ok ac os2.length cc (costRows r ps os2) (rvs rr) w hrI (costRows_len ..) (by omega)) ?_
        rintro _ w1 ⟨vm, Nm, ms2, cnt2, tt2, e2, rfl, hs', hbm, hans2⟩
        obtain ⟨rfl, rfl, rfl, rfl⟩ := MostAns.uniq hans2 hans
        have hs1 := hs.call hs' hbm.own
        replace hbm := hbm.mono hs.size
        clear hs hs' hrI
        have hs := hs1
        clear hs1
        obtain ⟨am, cm, rfl, _⟩ := hbm.slice
        have hWo : Own w0 ((A ++ (rbs rr ++ (cM ++ iM))) ++ Nm) := (hAo.app ((rbs_own hro).app (hbc.own.app hbi.own))).app hbm.own
        have hAW : ∀ p ∈ A, p ∈ (A ++ (rbs rr ++ (cM ++ iM))) ++ Nm := fun p hp => List.mem_append_left _ (List.mem_append_left _ hp)
        have hiW : ∀ p ∈ iM, p ∈ (A ++ (rbs rr ++ (cM ++ iM))) ++ Nm := fun p hp => List.mem_append_left _ (List.mem_append_right _ (List.mem_append_right _ (List.mem_append_right _ hp)))
        have hmW : ∀ p ∈ Nm, p ∈ (A ++ (rbs rr ++ (cM ++ iM))) ++ Nm := fun p hp => List.mem_append_right _ hp
        obtain ⟨WW, hW⟩ : ∃ WW, WW = (A ++ (rbs rr ++ (cM ++ iM))) ++ Nm := ⟨_, rfl⟩
        have hs1 : HS w0 w1 WW := by rw [hW]; exact hs
        clear hs
        have hs := hs1
        clear hs1
        rw [← hW] at hWo hAW hiW hmW
        have haoL : a = some (aD a) := (ha.old hs hWo).ao (by rw [mcs_len]; omega)
        have hl2 : w1.cell? ((aD a).add (i * 4 + 2)) = some (.slice m.a m.ps.length m.c) := (ha.old hs hWo).2 _ _ (mcs_get (ts := l) (i := i) (q := 2) (by omega) (by rw [← hme]; rfl))
        refine L_move rfl rfl (L_extract rfl rfl rfl (L_extract rfl rfl rfl (L_extract rfl rfl rfl (L_extract rfl rfl rfl (L_assign rfl rfl (L_assign rfl rfl (L_assign rfl rfl (L_assign rfl rfl (RL_then (W_seq (W_seq (W_region ?_))))))))))))
        refine L_move rfl rfl (L_neq rfl rfl rfl (dfalse (by omega)) ?_)
        refine L_move rfl rfl (RL_want rfl rfl (L_move rfl rfl (RL_want rfl rfl (L_len rfl Try.underlying27 rfl (RL_want rfl rfl (L_move rfl rfl (RL_want rfl rfl (L_len rfl Try.underlying54 rfl (RL_want rfl rfl (L_neq rfl rfl rfl (dfalse (by omega)) ?_))))))))))
        refine L_pick_f rfl rfl rfl (L_move rfl rfl (RL_want rfl rfl (L_move rfl rfl (RL_want rfl rfl (L_len rfl Try.underlying27 rfl (RL_want rfl rfl (L_move rfl rfl (RL_want rfl rfl (L_move rfl rfl (RL_want rfl rfl (L_idxN rfl Try.underlying50 Try.ti25 rfl rfl (natc_k _) (by omega) haoL ?_)))))))))))
        refine RL_want rfl rfl (L_fieldAddr rfl (off := 2) Try.underlying25 rfl rfl Try.ti23 rfl (RL_want rfl rfl ?_))
        refine L_load rfl Try.one23 rfl (by (rw [add_add]; exact hl2)) ?_
        refine RL_want rfl rfl (L_len rfl Try.underlying23 rfl (RL_want rfl rfl (L_neq rfl rfl rfl (dfalse (by omega)) ?_)))
        refine L_pick_f rfl rfl rfl (RL_then (W_if_false rfl (W_skip' (Nx_then (W_seq (W_region (L_assign rfl rfl (RL_then (W_block ?_)))))))))
        obtain ⟨_, hml2, hmr2⟩ := most_len (by rw [← hkr]; exact hk.rul.gate) (by omega) hosl hans2
        have hTs : ∀ {w' : World} {R : Bks}, HS w0 w' (WW ++ R) → SlC w' a1 (il told) := fun h => Bl.slcM hb1 h (fun p hp => List.mem_append_left _ (hAW _ (hM1A p hp)))
        have hIs : ∀ {w' : World} {R : Bks}, HS w0 w' (WW ++ R) → SlC w' ai (il (os2.map fun o => o.t.id)) := fun h => Bl.slcM hbi h (fun p hp => List.mem_append_left _ (hiW p hp))
        have hMs : ∀ {w' : World} {R : Bks}, HS w0 w' (WW ++ R) → SlC w' am (il ms2) := fun h => Bl.slcM hbm h (fun p hp => List.mem_append_left _ (hmW p hp))
        clear haoL hl2
        refine W_loop2 (fun (kk : Nat) (w : World) => [(1, .slice a n c), (2, .pointer (some ⟨b2, 0, none⟩)), (5, bv B), (7, .int .i64 i), (9, .slice a1 m.ps.length c1), (12, .slice ai os2.length ci), (22, .slice am ms2.length cm), (26, .int .i64 kk)]) (fun (kk : Nat) (w : World) => w) (fun (kk : Nat) (w : World) => (kk ≤ os2.length) ∧ (HS w0 w (WW ++ []))) (fun (kk : Nat) (w : World) => os2.length - kk) (0) (_) (is := [1, 2, 5, 7, 9, 12, 22, 26]) rfl rfl ?_ ?_
        ·
         exact ⟨Nat.zero_le _, by rw [List.append_nil]; exact hs⟩
        ·
         clear hs
         intro kk w hI
         show W _ _ _ _ [(1, .slice a n c), (2, .pointer (some ⟨b2, 0, none⟩)), (5, bv B), (7, .int .i64 i), (9, .slice a1 m.ps.length c1), (12, .slice ai os2.length ci), (22, .slice am ms2.length cm), (26, .int .i64 kk)] w
         obtain ⟨hkk, hs⟩ := hI
         by_cases hlt3 : kk < os2.length
         ·
          obtain ⟨mk, hmke⟩ : ∃ mk, mk = ms2.getD kk 0 := ⟨_, rfl⟩
          have hmkR := hmr2 mk (by rw [hmke]; exact getD_mem (by omega))
          have hmG : (il ms2)[kk]? = some (.int .i64 mk) := by rw [hmke]; exact il_get (by omega)
          have hiG : (il (os2.map fun o => o.t.id))[kk]? = some (.int .i64 (os2.getD kk on0).t.id) := by unfold il; rw [List.getElem?_map, get_of_map rfl hlt3]; rfl
          have haoM : am = some (aD am) := (hMs hs).ao (by rw [il_length]; omega)
          have haoI : ai = some (aD ai) := (hIs hs).ao (by rw [il_length, List.length_map]; omega)
          obtain ⟨idk, hidk⟩ : ∃ idk, idk = (os2.getD kk on0).t.id := ⟨_, rfl⟩
          rw [← hidk] at hiG
          refine W_seq (W_seq (W_region (L_move rfl rfl (L_move rfl rfl (L_len rfl Try.underlying27 rfl (L_lss rfl rfl rfl (dtrue (by omega)) ?_))))))
          refine RL_then (W_if_true rfl (W_skip' (Nx_then (W_seq (W_block (W_seq (W_seq ?_)))))))
          by_cases h0 : 0 ≤ mk
          ·
           obtain ⟨z, hz⟩ : ∃ z : Nat, mk = (z : Int) := ⟨mk.toNat, by omega⟩
           subst hz
           have hzl : z < m.ps.length := by omega
           have hmate : told.getD z 0 = idk := by
            have h1 := hL.mate kk hlt3
            rw [← hmke] at h1
            rw [hidk]; exact h1 h0
           have hzT : (il told)[z]? = some (.int .i64 idk) := by rw [← hmate]; exact il_get (by omega)
           have haoT : a1 = some (aD a1) := (hTs hs).ao (by rw [il_length]; omega)
           refine W_pht [0, 1, 2, 4, 5] [3, 6, 7, 8, 9, 10, 11, 12, 13, 14, 15, 16, 17, 18, 19, 20, 21, 22, 23, 24, 25, 26, 27] [] (fun _ _ _ => False) Try.mixed (by kernel_rfl) (fun _ _ _ _ _ h => h) hs ?_
           refine PL_val rfl (fun w => R_move rfl) ?_
           refine PL_val rfl (fun w => R_move rfl) ?_
           refine PL_val rfl (fun w => R_idx1 Try.underlying27 Try.ti3 rfl rfl (natc_k _) (by omega) haoM) ?_
           refine PL_val rfl (fun w => R_move rfl) ?_
           refine PL_val rfl (fun w => R_len Try.underlying27 rfl) ?_
           refine PL_end (HL_val rfl (fun w hs => R_load Try.one3 rfl (by exact (hMs hs).2 _ _ hmG)) ?_)
           refine HL_val rfl (fun w hs => R_geq rfl rfl (dfalse (by omega))) ?_
           refine HL_val rfl (fun w hs => R_move rfl) ?_
           refine HL_want rfl rfl (HL_val rfl (fun w hs => R_move rfl) ?_)
           refine HL_want rfl rfl (HL_val rfl (fun w hs => R_move rfl) ?_)
           refine HL_want rfl rfl (HL_val rfl (fun w hs => R_idx1 Try.underlying27 Try.ti3 rfl rfl (natc_k _) (by omega) haoM) ?_)
           refine HL_want rfl rfl (HL_val rfl (fun w hs => R_load Try.one3 rfl (by exact (hMs hs).2 _ _ hmG)) ?_)
           refine HL_want rfl rfl (HL_val rfl (fun w hs => R_geq rfl rfl (dtrue (by omega))) ?_)
           refine HL_want rfl rfl (HL_val rfl (fun w hs => R_move rfl) ?_)
           refine HL_want rfl rfl (HL_val rfl (fun w hs => R_move rfl) ?_)
           refine HL_want rfl rfl (HL_val rfl (fun w hs => R_move rfl) ?_)
           refine HL_want rfl rfl (HL_val rfl (fun w hs => R_move rfl) ?_)
           refine HL_want rfl rfl (HL_val rfl (fun w hs => R_idx1 Try.underlying27 Try.ti3 rfl rfl (natc_k _) (by omega) haoM) ?_)
           refine HL_want rfl rfl (HL_val rfl (fun w hs => R_load Try.one3 rfl (by exact (hMs hs).2 _ _ hmG)) ?_)
           refine HL_want rfl rfl (HL_val rfl (fun w hs => R_idx1 Try.underlying27 Try.ti3 rfl rfl (natc_k _) (by omega) haoT) ?_)
           refine HL_want rfl rfl (HL_val rfl (fun w hs => R_load Try.one3 rfl (by exact (hTs hs).2 _ _ hzT)) ?_)
           refine HL_want rfl rfl (HL_val rfl (fun w hs => R_move rfl) ?_)
           refine HL_want rfl rfl (HL_val rfl (fun w hs => R_move rfl) ?_)
           refine HL_want rfl rfl (HL_val rfl (fun w hs => R_idx1 Try.underlying27 Try.ti3 rfl rfl (natc_k _) (by omega) haoI) ?_)
           refine HL_want rfl rfl (HL_val rfl (fun w hs => R_load Try.one3 rfl (by exact (hIs hs).2 _ _ hiG)) ?_)
           refine HL_want rfl rfl (HL_val rfl (fun w hs => R_neq rfl rfl (dfalse (by omega))) ?_)
           refine HL_want rfl rfl (HL_val rfl (fun w hs => R_pick_t rfl rfl) ?_)
           refine HL_val rfl (fun w hs => R_pick_f rfl rfl) ?_
           refine HL_tail ?_
           intro w hs
           refine RL_then (W_if_false rfl (W_skip' (Nx_then (W_seq (W_region (L_assign rfl rfl (RL_then (W_block ?_))))))))
           refine W_loop2 (fun (jj : Nat) (w : World) => [(1, .slice a n c), (2, .pointer (some ⟨b2, 0, none⟩)), (5, bv B), (7, .int .i64 i), (9, .slice a1 m.ps.length c1), (12, .slice ai os2.length ci), (22, .slice am ms2.length cm), (26, .int .i64 kk), (27, .int .i64 jj)]) (fun (jj : Nat) (w : World) => w) (fun (jj : Nat) (w : World) => (jj ≤ m.ps.length) ∧ (HS w0 w (WW ++ []))) (fun (jj : Nat) (w : World) => m.ps.length - jj) (0) (_) (is := [1, 2, 5, 7, 9, 12, 22, 26, 27]) rfl rfl ?_ ?_
           ·
            exact ⟨Nat.zero_le _, hs⟩
           ·
            clear hs
            intro jj w hI
            show W _ _ _ _ [(1, .slice a n c), (2, .pointer (some ⟨b2, 0, none⟩)), (5, bv B), (7, .int .i64 i), (9, .slice a1 m.ps.length c1), (12, .slice ai os2.length ci), (22, .slice am ms2.length cm), (26, .int .i64 kk), (27, .int .i64 jj)] w
            obtain ⟨hjj, hs⟩ := hI
            by_cases hlt4 : jj < m.ps.length
            ·
             obtain ⟨tj, htj⟩ : ∃ tj, tj = told.getD jj 0 := ⟨_, rfl⟩
             have hjT : (il told)[jj]? = some (.int .i64 tj) := by rw [htj]; exact il_get (by omega)
             have haoT : a1 = some (aD a1) := (hTs hs).ao (by rw [il_length]; omega)
             refine W_seq (W_seq (W_region (L_move rfl rfl (L_move rfl rfl (L_len rfl Try.underlying27 rfl (L_lss rfl rfl rfl (dtrue (by omega)) ?_))))))
             refine RL_then (W_if_true rfl (W_skip' (Nx_then (W_seq (W_block (W_seq ?_))))))
             by_cases hte : tj = idk
             ·
              have hmj : (z : Int) = (jj : Int) := by
               rw [hmke]
               exact hL.told kk jj hlt3 (by omega) (by rw [← htj, hte, hidk])
              refine W_pht [0, 1, 2, 4, 5, 6] [3, 7, 8, 9, 10, 11, 12, 13, 14, 15, 16] [] (fun _ _ _ => False) Try.mixed (by kernel_rfl) (fun _ _ _ _ _ h => h) hs ?_
              refine PL_val rfl (fun w => R_move rfl) ?_
              refine PL_val rfl (fun w => R_move rfl) ?_
              refine PL_val rfl (fun w => R_idx1 Try.underlying27 Try.ti3 rfl rfl (natc_k _) (by omega) haoT) ?_
              refine PL_val rfl (fun w => R_move rfl) ?_
              refine PL_val rfl (fun w => R_move rfl) ?_
              refine PL_val rfl (fun w => R_idx1 Try.underlying27 Try.ti3 rfl rfl (natc_k _) (by omega) haoI) ?_
              refine PL_end (HL_val rfl (fun w hs => R_load Try.one3 rfl (by exact (hTs hs).2 _ _ hjT)) ?_)
              refine HL_val rfl (fun w hs => R_load Try.one3 rfl (by exact (hIs hs).2 _ _ hiG)) ?_
              refine HL_val rfl (fun w hs => R_eql rfl rfl (dtrue (by omega))) ?_
              refine HL_val rfl (fun w hs => R_move rfl) ?_
              refine HL_want rfl rfl (HL_val rfl (fun w hs => R_move rfl) ?_)
              refine HL_want rfl rfl (HL_val rfl (fun w hs => R_move rfl) ?_)
              refine HL_want rfl rfl (HL_val rfl (fun w hs => R_idx1 Try.underlying27 Try.ti3 rfl rfl (natc_k _) (by omega) haoM) ?_)
              refine HL_want rfl rfl (HL_val rfl (fun w hs => R_load Try.one3 rfl (by exact (hMs hs).2 _ _ hmG)) ?_)
              refine HL_want rfl rfl (HL_val rfl (fun w hs => R_move rfl) ?_)
              refine HL_want rfl rfl (HL_val rfl (fun w hs => R_neq rfl rfl (dfalse (by omega))) ?_)
              refine HL_val rfl (fun w hs => R_pick_t rfl rfl) ?_
              refine HL_tail ?_
              intro w hs
              refine RL_then (W_if_false rfl (W_skip' (Nx_block (Nx_then (W_region (L_move rfl rfl (L_add rfl rfl rfl (wrp_i64 (by omega)) ?_)))))))
              refine L_assign rfl rfl (RL_nil' ?_)
              refine Nx_loopP (jj + 1, _) (is := [1, 2, 5, 7, 9, 12, 22, 26, 27]) (I' := (fun (jj : Nat) (w : World) => (jj ≤ m.ps.length) ∧ (HS w0 w (WW ++ []))) (jj + 1) (_)) rfl rfl rfl ?_ ?_
              ·
               exact ⟨by omega, hs⟩
              ·
               show m.ps.length - (jj + 1) < m.ps.length - jj; omega
             ·
              refine W_pht [0, 1, 2, 4, 5, 6] [3, 7, 8, 9, 10, 11, 12, 13, 14, 15, 16] [] (fun _ _ _ => False) Try.mixed (by kernel_rfl) (fun _ _ _ _ _ h => h) hs ?_
              refine PL_val rfl (fun w => R_move rfl) ?_
              refine PL_val rfl (fun w => R_move rfl) ?_
              refine PL_val rfl (fun w => R_idx1 Try.underlying27 Try.ti3 rfl rfl (natc_k _) (by omega) haoT) ?_
              refine PL_val rfl (fun w => R_move rfl) ?_
              refine PL_val rfl (fun w => R_move rfl) ?_
              refine PL_val rfl (fun w => R_idx1 Try.underlying27 Try.ti3 rfl rfl (natc_k _) (by omega) haoI) ?_
              refine PL_end (HL_val rfl (fun w hs => R_load Try.one3 rfl (by exact (hTs hs).2 _ _ hjT)) ?_)
              refine HL_val rfl (fun w hs => R_load Try.one3 rfl (by exact (hIs hs).2 _ _ hiG)) ?_
              refine HL_val rfl (fun w hs => R_eql rfl rfl (dfalse (by omega))) ?_
              refine HL_val rfl (fun w hs => R_move rfl) ?_
              refine HL_skip rfl rfl rfl rfl (HL_skip rfl rfl rfl rfl (HL_skip rfl rfl rfl rfl (HL_skip rfl rfl rfl rfl (HL_skip rfl rfl rfl rfl (HL_skip rfl rfl rfl rfl (HL_val rfl (fun w hs => R_pick_f rfl rfl) ?_))))))
              refine HL_tail ?_
              intro w hs
              refine RL_then (W_if_false rfl (W_skip' (Nx_block (Nx_then (W_region (L_move rfl rfl (L_add rfl rfl rfl (wrp_i64 (by omega)) ?_)))))))
              refine L_assign rfl rfl (RL_nil' ?_)
              refine Nx_loopP (jj + 1, _) (is := [1, 2, 5, 7, 9, 12, 22, 26, 27]) (I' := (fun (jj : Nat) (w : World) => (jj ≤ m.ps.length) ∧ (HS w0 w (WW ++ []))) (jj + 1) (_)) rfl rfl rfl ?_ ?_
              ·
               exact ⟨by omega, hs⟩
              ·
               show m.ps.length - (jj + 1) < m.ps.length - jj; omega
            ·
             refine W_seq (W_seq (W_region (L_move rfl rfl (L_move rfl rfl (L_len rfl Try.underlying27 rfl (L_lss rfl rfl rfl (dfalse (by omega)) ?_))))))
             refine RL_then (W_if_false rfl (W_exit' (Ex_then_exit (Ex_loop_exit (Ex_block_hit (Nx_block (Nx_then (W_region (L_move rfl rfl (L_add rfl rfl rfl (wrp_i64 (by omega)) ?_))))))))))
             refine L_assign rfl rfl (RL_nil' ?_)
             refine Nx_loopP (kk + 1, _) (is := [1, 2, 5, 7, 9, 12, 22, 26]) (I' := (fun (kk : Nat) (w : World) => (kk ≤ os2.length) ∧ (HS w0 w (WW ++ []))) (kk + 1) (_)) rfl rfl rfl ?_ ?_
             ·
              exact ⟨by omega, hs⟩
             ·
              show os2.length - (kk + 1) < os2.length - kk; omega
          ·
           skip
           refine W_pht [0, 1, 2, 4, 5] [3, 6, 7, 8, 9, 10, 11, 12, 13, 14, 15, 16, 17, 18, 19, 20, 21, 22, 23, 24, 25, 26, 27] [] (fun _ _ _ => False) Try.mixed (by kernel_rfl) (fun _ _ _ _ _ h => h) hs ?_
           refine PL_val rfl (fun w => R_move rfl) ?_
           refine PL_val rfl (fun w => R_move rfl) ?_
           refine PL_val rfl (fun w => R_idx1 Try.underlying27 Try.ti3 rfl rfl (natc_k _) (by omega) haoM) ?_
           refine PL_val rfl (fun w => R_move rfl) ?_
           refine PL_val rfl (fun w => R_len Try.underlying27 rfl) ?_
           refine PL_end (HL_val rfl (fun w hs => R_load Try.one3 rfl (by exact (hMs hs).2 _ _ hmG)) ?_)
           refine HL_val rfl (fun w hs => R_geq rfl rfl (dfalse (by omega))) ?_
           refine HL_val rfl (fun w hs => R_move rfl) ?_
           refine HL_want rfl rfl (HL_val rfl (fun w hs => R_move rfl) ?_)
           refine HL_want rfl rfl (HL_val rfl (fun w hs => R_move rfl) ?_)
           refine HL_want rfl rfl (HL_val rfl (fun w hs => R_idx1 Try.underlying27 Try.ti3 rfl rfl (natc_k _) (by omega) haoM) ?_)
           refine HL_want rfl rfl (HL_val rfl (fun w hs => R_load Try.one3 rfl (by exact (hMs hs).2 _ _ hmG)) ?_)
           refine HL_want rfl rfl (HL_val rfl (fun w hs => R_geq rfl rfl (dfalse (by omega))) ?_)
           refine HL_want rfl rfl (HL_val rfl (fun w hs => R_move rfl) ?_)
           refine HL_skip rfl rfl rfl rfl (HL_skip rfl rfl rfl rfl (HL_skip rfl rfl rfl rfl (HL_skip rfl rfl rfl rfl (HL_skip rfl rfl rfl rfl (HL_skip rfl rfl rfl rfl (HL_skip rfl rfl rfl rfl (HL_skip rfl rfl rfl rfl (HL_skip rfl rfl rfl rfl (HL_skip rfl rfl rfl rfl (HL_skip rfl rfl rfl rfl (HL_skip rfl rfl rfl rfl (HL_want rfl rfl ?_))))))))))))
           refine HL_val rfl (fun w hs => R_pick_f rfl rfl) ?_
           refine HL_val rfl (fun w hs => R_pick_f rfl rfl) ?_
           refine HL_tail ?_
           intro w hs
           refine RL_then (W_if_false rfl (W_skip' (Nx_then (W_seq (W_region (L_assign rfl rfl (RL_then (W_block ?_))))))))
           refine W_loop2 (fun (jj : Nat) (w : World) => [(1, .slice a n c), (2, .pointer (some ⟨b2, 0, none⟩)), (5, bv B), (7, .int .i64 i), (9, .slice a1 m.ps.length c1), (12, .slice ai os2.length ci), (22, .slice am ms2.length cm), (26, .int .i64 kk), (27, .int .i64 jj)]) (fun (jj : Nat) (w : World) => w) (fun (jj : Nat) (w : World) => (jj ≤ m.ps.length) ∧ (HS w0 w (WW ++ []))) (fun (jj : Nat) (w : World) => m.ps.length - jj) (0) (_) (is := [1, 2, 5, 7, 9, 12, 22, 26, 27]) rfl rfl ?_ ?_
           ·
            exact ⟨Nat.zero_le _, hs⟩
           ·
            clear hs
            intro jj w hI
            show W _ _ _ _ [(1, .slice a n c), (2, .pointer (some ⟨b2, 0, none⟩)), (5, bv B), (7, .int .i64 i), (9, .slice a1 m.ps.length c1), (12, .slice ai os2.length ci), (22, .slice am ms2.length cm), (26, .int .i64 kk), (27, .int .i64 jj)] w
            obtain ⟨hjj, hs⟩ := hI
            by_cases hlt4 : jj < m.ps.length
            ·
             obtain ⟨tj, htj⟩ : ∃ tj, tj = told.getD jj 0 := ⟨_, rfl⟩
             have hjT : (il told)[jj]? = some (.int .i64 tj) := by rw [htj]; exact il_get (by omega)
             have haoT : a1 = some (aD a1) := (hTs hs).ao (by rw [il_length]; omega)
             refine W_seq (W_seq (W_region (L_move rfl rfl (L_move rfl rfl (L_len rfl Try.underlying27 rfl (L_lss rfl rfl rfl (dtrue (by omega)) ?_))))))
             refine RL_then (W_if_true rfl (W_skip' (Nx_then (W_seq (W_block (W_seq ?_))))))
             by_cases hte : tj = idk
             ·
              have hmj : mk = (jj : Int) := by
               rw [hmke]
               exact hL.told kk jj hlt3 (by omega) (by rw [← htj, hte, hidk])
              exfalso
              omega
             ·
              refine W_pht [0, 1, 2, 4, 5, 6] [3, 7, 8, 9, 10, 11, 12, 13, 14, 15, 16] [] (fun _ _ _ => False) Try.mixed (by kernel_rfl) (fun _ _ _ _ _ h => h) hs ?_
              refine PL_val rfl (fun w => R_move rfl) ?_
              refine PL_val rfl (fun w => R_move rfl) ?_
              refine PL_val rfl (fun w => R_idx1 Try.underlying27 Try.ti3 rfl rfl (natc_k _) (by omega) haoT) ?_
              refine PL_val rfl (fun w => R_move rfl) ?_
              refine PL_val rfl (fun w => R_move rfl) ?_
              refine PL_val rfl (fun w => R_idx1 Try.underlying27 Try.ti3 rfl rfl (natc_k _) (by omega) haoI) ?_
              refine PL_end (HL_val rfl (fun w hs => R_load Try.one3 rfl (by exact (hTs hs).2 _ _ hjT)) ?_)
              refine HL_val rfl (fun w hs => R_load Try.one3 rfl (by exact (hIs hs).2 _ _ hiG)) ?_
              refine HL_val rfl (fun w hs => R_eql rfl rfl (dfalse (by omega))) ?_
              refine HL_val rfl (fun w hs => R_move rfl) ?_
              refine HL_skip rfl rfl rfl rfl (HL_skip rfl rfl rfl rfl (HL_skip rfl rfl rfl rfl (HL_skip rfl rfl rfl rfl (HL_skip rfl rfl rfl rfl (HL_skip rfl rfl rfl rfl (HL_val rfl (fun w hs => R_pick_f rfl rfl) ?_))))))
              refine HL_tail ?_
              intro w hs
              refine RL_then (W_if_false rfl (W_skip' (Nx_block (Nx_then (W_region (L_move rfl rfl (L_add rfl rfl rfl (wrp_i64 (by omega)) ?_)))))))
              refine L_assign rfl rfl (RL_nil' ?_)
              refine Nx_loopP (jj + 1, _) (is := [1, 2, 5, 7, 9, 12, 22, 26, 27]) (I' := (fun (jj : Nat) (w : World) => (jj ≤ m.ps.length) ∧ (HS w0 w (WW ++ []))) (jj + 1) (_)) rfl rfl rfl ?_ ?_
              ·
               exact ⟨by omega, hs⟩
              ·
               show m.ps.length - (jj + 1) < m.ps.length - jj; omega
            ·
             refine W_seq (W_seq (W_region (L_move rfl rfl (L_move rfl rfl (L_len rfl Try.underlying27 rfl (L_lss rfl rfl rfl (dfalse (by omega)) ?_))))))
             refine RL_then (W_if_false rfl (W_exit' (Ex_then_exit (Ex_loop_exit (Ex_block_hit (Nx_block (Nx_then (W_region (L_move rfl rfl (L_add rfl rfl rfl (wrp_i64 (by omega)) ?_))))))))))
             refine L_assign rfl rfl (RL_nil' ?_)
             refine Nx_loopP (kk + 1, _) (is := [1, 2, 5, 7, 9, 12, 22, 26]) (I' := (fun (kk : Nat) (w : World) => (kk ≤ os2.length) ∧ (HS w0 w (WW ++ []))) (kk + 1) (_)) rfl rfl rfl ?_ ?_
             ·
              exact ⟨by omega, hs⟩
             ·
              show os2.length - (kk + 1) < os2.length - kk; omega
         ·
          refine W_seq (W_seq (W_region (L_move rfl rfl (L_move rfl rfl (L_len rfl Try.underlying27 rfl (L_lss rfl rfl rfl (dfalse (by omega)) ?_))))))
          refine RL_then (W_if_false rfl (W_exit' (Ex_then_exit (Ex_loop_exit (Ex_block_hit (Nx_block (Nx_then (W_region (L_move rfl rfl (L_add rfl rfl rfl (wrp_i64 (by omega)) ?_))))))))))
          refine L_assign rfl rfl (RL_nil' ?_)
          refine Nx_loopP (k', i + 1, _) (is := [1, 2, 5, 7]) (I' := (fun (k : Bok) (i : Nat) (w : World) => (i ≤ n) ∧ (k.B = B ∧ k.r = r) ∧ (k.ok w0 i) ∧ (k.next ≤ 1 + 256 * i) ∧ (HS w0 w (k.bks ++ [(b2, Row 49 r.cells)]))) (k') (i + 1) (_)) rfl rfl rfl ?_ ?_
          ·
           refine ⟨by omega, ⟨hk'B, hk'r⟩, hk', hnx', ?_⟩
           have h1 : HS w0 w ((rbs rr ++ (cM ++ (iM ++ (Nm ++ (M1 ++ Mt))))) ++ (k'.bks ++ [(b2, Row 49 r.cells)])) := by
            rw [hW, hA, hL1] at hs
            exact HS.re hs (fun c => by simp only [List.map_append, List.map_cons, List.map_nil, List.sum_append, List.sum_cons, List.sum_nil]; omega)
           exact HS.dropL h1 ((rbs_own hro).app (hbc.own.app (hbi.own.app (hbm.own.app (hb1.own.app hbt.own)))))
          ·
           show n - (i + 1) < n - i; omega
    ·
     obtain rfl : n = i := by omega
     refine W_seq (W_seq (W_region (L_move rfl rfl (L_move rfl rfl (L_len rfl Try.underlying50 rfl (L_lss rfl rfl rfl (dfalse (by omega)) ?_))))))
     refine RL_then (W_if_false rfl (W_exit' (Ex_then_exit (Ex_loop_exit (Ex_block_hit (Nx_then (W_seq (W_region (L_call rfl Try.fun13 rfl (wakes_ok w) ?_)))))))))
     rintro _ w3 ⟨rfl, hs'⟩
     replace hs := hs.nil hs'
     refine L_assign rfl rfl (RL_then (W_ret' (Ex_done1 rfl rfl ?_)))
     exact ⟨_, rfl, rfl, hs.forget (hk.own.app hb2o)⟩
 ·
  refine RL_then (W_if_true rfl (W_seq (W_region (L_call rfl Try.fun13 rfl (wakes_ok w1) ?_))))
  rintro _ w3 ⟨rfl, hs'⟩
  replace hs := hs.nil hs'
  refine L_assign rfl rfl (RL_then (W_ret' (Ex_then_ret (Ex_done1 rfl rfl ?_))))
  exact ⟨_, rfl, rfl, hs.forget hb2o⟩
end Go.Proofs.Ytffobakdngbadaa
