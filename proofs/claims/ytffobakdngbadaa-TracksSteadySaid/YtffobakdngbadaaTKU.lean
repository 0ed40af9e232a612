/-
 A part of the proof: what functions that the statement reaches do, or a plain law on what they do. Each theorem holds under its own premises alone.
-/
import Derived.Test.YtffobakdngbadaaTKT
namespace Go.Proofs.Ytffobakdngbadaa
open Go Go.Lk
/-! ### wakes -/
theorem On.ok.mono {w0 w : World} {o : On} (h : o.ok w) (hle : w0.heap.size ≤ w.heap.size) : o.ok w0 := ⟨Nat.le_trans hle h.p, h.bx.mono hle, h.by'.mono hle, h.seen⟩
theorem Bok.ok.mono {w0 w : World} {n : Nat} {k : Bok} (h : k.ok w n) (hle : w0.heap.size ≤ w.heap.size) : k.ok w0 n :=
 ⟨Nat.le_trans hle h.B, Nat.le_trans hle h.mb, fun o ho => (h.each o ho).mono hle, h.ents, h.low, h.next1, h.next2, h.hist, h.rul, h.cnt⟩
theorem pcs_sl {w : World} {b : Nat} {l : List Plt} (h : w.heap[b]? = some (Row 58 (pcs l))) : SlC w (some ⟨b, 0, none⟩) (pcs l) := SlC.of_row (sp := []) (by rw [List.append_nil]; exact h)
theorem pltA : PltLt pA := ⟨by decide, by decide⟩
theorem pltB : PltLt pB := ⟨by decide, by decide⟩
theorem new_rW : newE rW = 0 := by decide +kernel
theorem ref_1 : refE ninf 0 [pA] = 0 := by decide +kernel
theorem ref_2 : refE 0 4607182418800017408 [pA, pB] = 0 := by decide +kernel
set_option maxHeartbeats 1000000 in
theorem wakes_ok (w0 : World) : Ret Try.prog 13 [] w0 fun v w' => v = .bool true ∧ HS w0 w' [] := by
 refine Ret.start fun w hs => ?_
 refine calls_of_W Try.func13 rfl rfl rfl (W_seq (W_region (L_assign rfl rfl (RL_then (W_seq (W_region (L_call rfl Try.fun39 rfl (rule_ok w) ?_)))))))
 rintro _ w1 ⟨rfl, hs'⟩
 replace hs := hs.nil hs'
 clear hs'
 skip
 refine L_call rfl Try.fun15 rfl (new_ok rW (by decide) (by decide) (by decide) w1) ?_
 rintro _ w2 (⟨hne, _⟩ | ⟨_, B, mb, rfl, hs', hk'⟩)
 ·
  exact absurd new_rW hne
 have hk0 := hk'.mono hs.size
 have hs1 : HS w0 w2 (bok0 rW B mb).bks := by have := hs.call hs' hk'.own; simpa using this
 clear hs hs' hk'
 have hs := hs1
 clear hs1
 refine L_move rfl rfl (L_extract rfl rfl rfl (L_extract rfl rfl rfl (L_assign rfl rfl (L_assign rfl rfl (RL_then (W_seq (W_seq (W_region (L_move rfl rfl (L_neq rfl rfl rfl (dfalse (by omega)) ?_))))))))))
 refine L_move rfl rfl (RL_want rfl rfl (L_move rfl rfl (RL_want rfl rfl (L_ptrNil rfl Try.underlying26 rfl rfl (L_pick_f rfl rfl rfl (RL_then (W_if_false rfl (W_skip' (Nx_then (W_seq (W_region (L_move rfl rfl ?_))))))))))))
 refine L_build rfl rfl (Pl.builtN Try.pl58 rfl) (L_buildSlice rfl hs Try.underlying23 Try.ti58 rfl (by decide) rfl (by simp [Value.cells]) ?_)
 intro b26 w hb26 hnb26 hs
 simp only [List.flatMap_cons, List.flatMap_nil, cells_int, cells_float, cells_complex, cells_bool, cells_string, cells_pointer, cells_slice, cells_map, cells_agg, List.append_nil, List.set_cons_succ, List.set_cons_zero, List.cons_append, List.nil_append] at hs
 obtain ⟨k0, hk0e⟩ : ∃ k0, k0 = bok0 rW B mb := ⟨_, rfl⟩
 rw [← hk0e] at hk0
 have hs1 : HS w0 w (k0.bks ++ [(b26, Row 58 (pcs [pA]))]) := by rw [hk0e]; exact hs
 clear hs
 have hs := hs1
 clear hs1
 have hI1 : StepIn w0 0 1 k0 0 (some ⟨b26, 0, none⟩) [pA] [(b26, Row 58 (pcs [pA]))] :=
  ⟨hk0, by decide, Own.cons hb26 Own.nil, fun w' L' h1 _ h2 => pcs_sl (h1.has _ (h2 _ (List.mem_singleton.2 rfl))), rfl, by decide, fun i hi => (by match i, hi with | 0, _ => exact pltA), by decide, by rw [hk0e]; show (1 : Int) + 256 ≤ 1000000; decide⟩
 have hS1 := step_ok w0 w 0 1 k0 0 (some ⟨b26, 0, none⟩) 1 [pA] _ hs hI1
 rw [show k0.B = B by rw [hk0e]] at hS1
 refine L_call rfl Try.fun7 rfl (hS1) ?_
 rintro _ w1 (⟨hne, _⟩ | ⟨_, k1, v1, M1, told1, os2, ps, ms, os3, rfl, hs1, hb1, _, hk1, hst⟩)
 ·
  exact absurd (by rw [hk0e]; exact ref_1) hne
 have hk1B : k1.B = B := by rw [hst.sameB, hk0e]
 obtain ⟨rfl, hr1, hl1, hn1, o, ho1, hoi, hok, hose, host, hola, hox, hoy, hoxs, hoys⟩ := wake1 (by rw [hk0e]) (by rw [hk0e]) (by rw [hk0e]) hst
 clear hs hst hS1 hI1
 have hs : HS w0 w1 (k1.bks ++ ([(b26, Row 58 (pcs [pA]))] ++ M1)) := by rw [← List.append_assoc]; exact hs1
 clear hs1
 have hM1 := hb1.own
 obtain ⟨a1, c1, rfl, _⟩ := hb1.slice
 obtain ⟨L1, hL1⟩ : ∃ L1, L1 = [(b26, Row 58 (pcs [pA]))] ++ M1 := ⟨_, rfl⟩
 have hL1o : Own w0 L1 := by rw [hL1]; exact (Own.cons hb26 Own.nil).app hM1
 have hM1L : ∀ p ∈ M1, p ∈ L1 := fun p hp => by rw [hL1]; exact List.mem_append_right _ hp
 rw [← hL1] at hs
 refine L_move rfl rfl (L_extract rfl rfl rfl (L_extract rfl rfl rfl (L_assign rfl rfl (L_assign rfl rfl (RL_then (W_seq (W_region (L_move rfl rfl (L_build rfl rfl (Pl.builtN Try.pl58 rfl) (L_build rfl rfl (Pl.builtN Try.pl58 rfl) (L_buildSlice rfl hs Try.underlying23 Try.ti58 rfl (by decide) rfl (by simp [Value.cells]) ?_)))))))))))
 intro b34 w hb34 hnb34 hs
 simp only [List.flatMap_cons, List.flatMap_nil, cells_int, cells_float, cells_complex, cells_bool, cells_string, cells_pointer, cells_slice, cells_map, cells_agg, List.append_nil, List.set_cons_succ, List.set_cons_zero, List.cons_append, List.nil_append] at hs
 have hs1 : HS w0 w (k1.bks ++ (L1 ++ [(b34, Row 58 (pcs [pA, pB]))])) := by rw [← List.append_assoc]; exact hs
 clear hs
 have hs := hs1
 clear hs1
 have hI2 : StepIn w0 1 2 k1 4607182418800017408 (some ⟨b34, 0, none⟩) [pA, pB] (L1 ++ [(b34, Row 58 (pcs [pA, pB]))]) :=
  ⟨hk1, by decide, hL1o.app (Own.cons hb34 Own.nil), fun w' L' h1 _ h2 => pcs_sl (h1.has _ (h2 _ (List.mem_append_right _ (List.mem_singleton.2 rfl)))), rfl, by decide, fun i hi => (by match i, hi with | 0, _ => exact pltA | 1, _ => exact pltB), by decide, by rw [hn1]; decide⟩
 have hS2 := step_ok w0 w 1 2 k1 4607182418800017408 (some ⟨b34, 0, none⟩) 2 [pA, pB] _ hs hI2
 rw [hk1B] at hS2
 refine L_call rfl Try.fun7 rfl (hS2) ?_
 rintro _ w1 (⟨hne, _⟩ | ⟨_, k2, v2, M2, told2, os2', ps', ms', os3', rfl, hs1, hb2, _, hk2, hst⟩)
 ·
  exact absurd (by rw [hl1]; exact ref_2) hne
 have hk2B : k2.B = B := by rw [hst.sameB, hk1B]
 obtain ⟨rfl, hn2, o1, o2, ho2, h1i, h2i, h1k, h2k, h1s, h1x, h1y⟩ := wake2 ho1 hr1 hn1 ⟨hoi, hok, hose, host, hola⟩ hox hoy ⟨hoxs, hoys⟩ hst
 clear hs hst hS2 hI2
 obtain ⟨L2, hL2⟩ : ∃ L2, L2 = (L1 ++ [(b34, Row 58 (pcs [pA, pB]))]) ++ M2 := ⟨_, rfl⟩
 have hM2 := hb2.own
 have hL2o : Own w0 L2 := by rw [hL2]; exact (hL1o.app (Own.cons hb34 Own.nil)).app hM2
 have hM1L2 : ∀ p ∈ M1, p ∈ L2 := fun p hp => by rw [hL2]; exact List.mem_append_left _ (List.mem_append_left _ (hM1L p hp))
 have hM2L2 : ∀ p ∈ M2, p ∈ L2 := fun p hp => by rw [hL2]; exact List.mem_append_right _ hp
 have hs : HS w0 w1 (k2.bks ++ L2) := by rw [hL2, ← List.append_assoc]; exact hs1
 clear hs1
 obtain ⟨a2, c2, rfl, _⟩ := hb2.slice
 refine L_move rfl rfl (L_extract rfl rfl rfl (L_extract rfl rfl rfl (L_assign rfl rfl (L_assign rfl rfl (RL_then (W_seq (W_region (L_move rfl rfl ?_))))))))
 have hT := tracks_ok w0 w1 2 k2 L2 hs hk2 hL2o
 rw [hk2B, ho2] at hT
 refine L_call rfl Try.fun12 rfl (hT) ?_
 rintro _ w1 ⟨M3, hs1, hb3⟩
 clear hs hT
 rw [show ([o1, o2] : List On).length = 2 from rfl] at hb3
 obtain ⟨a3, c3, rfl, _⟩ := hb3.slice
 obtain ⟨L3, hL3⟩ : ∃ L3, L3 = L2 ++ M3 := ⟨_, rfl⟩
 have hL3o : Own w0 L3 := by rw [hL3]; exact hL2o.app hb3.own
 have hs : HS w0 w1 (k2.bks ++ L3) := by rw [hL3, ← List.append_assoc]; exact hs1
 clear hs1
 have hM3 : ∀ p ∈ M3, p ∈ L3 := fun p hp => by rw [hL3]; exact List.mem_append_right _ hp
 have hL23 : ∀ p ∈ L2, p ∈ L3 := fun p hp => by rw [hL3]; exact List.mem_append_left _ hp
 have hq1 : SlC w1 a1 (il [1]) := Bl.slcM hb1 hs (fun p hp => List.mem_append_right _ (hL23 _ (hM1L2 p hp)))
 have hq2 : SlC w1 a2 (il [1, 2]) := Bl.slcM hb2 hs (fun p hp => List.mem_append_right _ (hL23 _ (hM2L2 p hp)))
 refine L_assign rfl rfl (RL_then (W_seq (W_seq (W_region (L_move rfl rfl (L_neq rfl rfl rfl (dfalse (by omega)) ?_))))))
 refine L_move rfl rfl (RL_want rfl rfl (L_move rfl rfl (RL_want rfl rfl (L_neq rfl rfl rfl (dfalse (by omega)) ?_))))
 refine L_pick_f rfl rfl rfl (L_move rfl rfl (RL_want rfl rfl (L_move rfl rfl (RL_want rfl rfl (L_len rfl Try.underlying27 rfl (RL_want rfl rfl (L_neq rfl rfl rfl (dfalse (by omega)) ?_)))))))
 refine L_pick_f rfl rfl rfl (L_move rfl rfl (RL_want rfl rfl (L_move rfl rfl (RL_want rfl rfl (L_idx1 rfl Try.underlying27 Try.ti3 rfl rfl natc_0 (by omega) (hq1.ao (by decide)) ?_)))))
 refine RL_want rfl rfl (L_load rfl Try.one3 rfl (by exact hq1.2 0 _ rfl) ?_)
 refine RL_want rfl rfl (L_neq rfl rfl rfl (dfalse (by omega)) ?_)
 refine L_pick_f rfl rfl rfl (L_move rfl rfl (RL_want rfl rfl (L_move rfl rfl (RL_want rfl rfl (L_len rfl Try.underlying27 rfl (RL_want rfl rfl (L_neq rfl rfl rfl (dfalse (by omega)) ?_)))))))
 refine L_pick_f rfl rfl rfl (L_move rfl rfl (RL_want rfl rfl (L_move rfl rfl (RL_want rfl rfl (L_idx1 rfl Try.underlying27 Try.ti3 rfl rfl natc_0 (by omega) (hq2.ao (by decide)) ?_)))))
 refine RL_want rfl rfl (L_load rfl Try.one3 rfl (by exact hq2.2 0 _ rfl) ?_)
 refine RL_want rfl rfl (L_neq rfl rfl rfl (dfalse (by omega)) ?_)
 refine L_pick_f rfl rfl rfl (L_move rfl rfl (RL_want rfl rfl (L_move rfl rfl (RL_want rfl rfl (L_idx1 rfl Try.underlying27 Try.ti3 rfl rfl natc_1 (by omega) (hq2.ao (by decide)) ?_)))))
 refine RL_want rfl rfl (L_load rfl Try.one3 rfl (by exact hq2.2 1 _ rfl) ?_)
 refine RL_want rfl rfl (L_neq rfl rfl rfl (dfalse (by omega)) ?_)
 refine L_pick_f rfl rfl rfl (L_move rfl rfl (RL_want rfl rfl (L_move rfl rfl (RL_want rfl rfl (L_len rfl Try.underlying44 rfl (RL_want rfl rfl (L_neq rfl rfl rfl (dfalse (by omega)) ?_)))))))
 refine L_pick_f rfl rfl rfl (RL_then (W_if_false rfl ?_))
 have hmem1 : o1 ∈ k2.os := by rw [ho2]; simp
 refine W_skip' (Nx_then (W_seq (W_region (L_move rfl rfl ?_))))
 have hP := past_some w0 w1 2 k2 L3 o1 hs hk2 hmem1 hL3o (by decide)
 rw [hk2B, h1i] at hP
 refine L_call rfl Try.fun9 rfl (hP) ?_
 rintro _ w1 ⟨vx, Mx, vy, My, rfl, hs1, hbx, hby⟩
 clear hs hP
 rw [h1x] at hbx
 rw [h1y] at hby
 obtain ⟨ax, cx, rfl, _⟩ := hbx.slice
 obtain ⟨ay, cy, rfl, _⟩ := hby.slice
 obtain ⟨L4, hL4⟩ : ∃ L4, L4 = L3 ++ (Mx ++ My) := ⟨_, rfl⟩
 have hL4o : Own w0 L4 := by rw [hL4]; exact hL3o.app (hbx.own.app hby.own)
 have hs : HS w0 w1 (k2.bks ++ L4) := by rw [hL4, ← List.append_assoc]; exact hs1
 clear hs1
 have hM3' : ∀ p ∈ M3, p ∈ L4 := fun p hp => by rw [hL4]; exact List.mem_append_left _ (hM3 p hp)
 have hno : ∀ u ∈ k2.os, u.t.id ≠ 9 := by
  rw [ho2]
  intro u hu
  simp only [List.mem_cons, List.not_mem_nil, or_false] at hu
  rcases hu with rfl | rfl <;> omega
 refine L_move rfl rfl (L_extract rfl rfl rfl (L_extract rfl rfl rfl (L_assign rfl rfl (L_assign rfl rfl (RL_then (W_seq (W_region (L_move rfl rfl ?_))))))))
 have hG := get_none w0 w1 2 k2 L4 9 hs hk2 hno
 rw [hk2B] at hG
 refine L_call rfl Try.fun8 rfl (hG) ?_
 rintro _ w1 ⟨rfl, hs1⟩
 clear hs hG
 have hs := hs1
 clear hs1
 refine L_move rfl rfl (L_extract rfl rfl rfl (L_extract rfl rfl rfl ?_))
 refine L_alloc rfl hs Try.ti36 ?_; intro b10 w hb10 _ hs; replace hs := HS.push (L := k2.bks ++ L4) hs
 refine L_storeA hs (i := 0) rfl Try.ti36 rfl rfl (by rfl) (by simp [Trk.cells]) (by exact Trk.one trk0) ?_
 intro w hs
 dsimp only [List.set_cons_succ, List.set_cons_zero, List.cons_append, List.nil_append] at hs
 refine L_assign rfl rfl (RL_then (W_seq ?_))
 have hs1 : HS w0 w (k2.bks ++ L4) := HS.pop hs hb10
 clear hs
 have hs := hs1
 clear hs1
 have hq3 : SlC w a3 (tcs [o1.t, o2.t]) := Bl.slcM hb3 hs (fun p hp => List.mem_append_right _ (hM3' p hp))
 have c00 : w.cell? ((aD a3).add 0) = some (.int .i64 o1.t.id) := hq3.2 0 _ rfl
 have c01 : w.cell? ((aD a3).add 1) = some (.int .i8 o1.t.kind) := hq3.2 1 _ rfl
 have c11 : w.cell? ((aD a3).add 16) = some (.int .i8 o2.t.kind) := hq3.2 16 _ rfl
 have c05 : w.cell? ((aD a3).add 13) = some (.int .i64 o1.t.steps) := hq3.2 13 _ rfl
 refine W_region (L_move rfl rfl ?_)
 refine L_idxN rfl Try.underlying44 Try.ti36 rfl rfl natc_0 (by omega) (hq3.ao (by rw [tcs_len]; show 0 < 2 * 15; decide)) ?_
 refine L_fieldAddr rfl (off := 0) Try.underlying36 rfl rfl Try.ti3 rfl ?_
 refine L_load rfl Try.one3 rfl (by (rw [add_add]; exact c00)) ?_
 refine L_eql rfl rfl rfl (dtrue (by omega)) ?_
 refine L_move rfl rfl (RL_want rfl rfl (L_move rfl rfl (RL_want rfl rfl ?_)))
 refine L_idxN rfl Try.underlying44 Try.ti36 rfl rfl natc_0 (by omega) (hq3.ao (by rw [tcs_len]; show 0 < 2 * 15; decide)) ?_
 refine RL_want rfl rfl (L_fieldAddr rfl (off := 1) Try.underlying36 rfl rfl Try.ti31 rfl (RL_want rfl rfl ?_))
 refine L_load rfl Try.one31 rfl (by (rw [add_add]; exact c01)) ?_
 refine RL_want rfl rfl (L_eql rfl rfl rfl (dtrue (by omega)) ?_)
 refine L_pick_t rfl rfl rfl (L_move rfl rfl (RL_want rfl rfl (L_move rfl rfl (RL_want rfl rfl ?_))))
 refine L_idxN rfl Try.underlying44 Try.ti36 rfl rfl natc_1 (by omega) (hq3.ao (by rw [tcs_len]; show 0 < 2 * 15; decide)) ?_
 refine RL_want rfl rfl (L_fieldAddr rfl (off := 1) Try.underlying36 rfl rfl Try.ti31 rfl (RL_want rfl rfl ?_))
 refine L_load rfl Try.one31 rfl (by (rw [add_add]; exact c11)) ?_
 refine RL_want rfl rfl (L_eql rfl rfl rfl (dtrue (by omega)) ?_)
 refine L_pick_t rfl rfl rfl (L_move rfl rfl (RL_want rfl rfl (L_move rfl rfl (RL_want rfl rfl ?_))))
 refine L_idxN rfl Try.underlying44 Try.ti36 rfl rfl natc_0 (by omega) (hq3.ao (by rw [tcs_len]; show 0 < 2 * 15; decide)) ?_
 refine RL_want rfl rfl (L_fieldAddr rfl (off := 13) Try.underlying36 rfl rfl Try.ti3 rfl (RL_want rfl rfl ?_))
 refine L_load rfl Try.one3 rfl (by (rw [add_add]; exact c05)) ?_
 refine RL_want rfl rfl (L_eql rfl rfl rfl (dtrue (by omega)) ?_)
 refine L_pick_t rfl rfl rfl (L_move rfl rfl (RL_want rfl rfl (L_move rfl rfl (RL_want rfl rfl (L_len rfl Try.underlying39 rfl (RL_want rfl rfl (L_eql rfl rfl rfl (dtrue (by omega)) ?_)))))))
 refine L_pick_t rfl rfl rfl (L_move rfl rfl (RL_want rfl rfl (L_move rfl rfl (RL_want rfl rfl (L_len rfl Try.underlying39 rfl (RL_want rfl rfl (L_eql rfl rfl rfl (dtrue (by omega)) ?_)))))))
 refine L_pick_t rfl rfl rfl (L_move rfl rfl (RL_want rfl rfl (L_move rfl rfl (RL_want rfl rfl (L_not rfl rfl (L_pick_t rfl rfl rfl (L_move rfl rfl (RL_want rfl rfl (L_move rfl rfl ?_)))))))))
 have hD := drop_none w0 w 2 k2 L4 9 hs hk2 hno
 rw [hk2B] at hD
 refine RL_want rfl rfl (L_call rfl Try.fun11 rfl (hD) ?_)
 rintro _ w1 ⟨rfl, hs1⟩
 refine RL_want rfl rfl (L_eql rfl rfl rfl (dtrue (by omega)) ?_)
 refine L_pick_t rfl rfl rfl (L_assign rfl rfl (RL_then (W_ret' (Ex_done1 rfl rfl ?_))))
 exact ⟨_, rfl, rfl, hs1.forget (hk2.own.app hL4o)⟩
end Go.Proofs.Ytffobakdngbadaa
