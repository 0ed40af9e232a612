/-
  A part of the proof: what functions that the statement reaches do, or a plain law on what they do. Each theorem holds under its own premises alone.
-/
import Derived.Test.YtfehgelggjpaaaaTM3
import Derived.Test.YtfehgelggjpaaaaTW3
namespace Go.Proofs.Ytfehgelggjpaaaa
open Go Go.Lk
theorem cn_eq {x v : Nat} (h : cn x = v) (hv : v ≠ qnan) : x = v := by
  cases hx : isnan x with
  | true => rw [cn_nan hx] at h; exact absurd h.symm hv
  | false => rw [cn_num hx] at h; exact h
def cRows : List (List (Nat × Nat)) := [[(4607182418800017408, 0), (4611686018427387904, 0)], [(4616189618054758400, 0), (4611686018427387904, 0)], [(4621256167635550208, 0), (4611686018427387904, 0)]]
theorem cRows_can : dIter (cRows.map crow) 1 = [[(4613937818241073152, 0), (0, 0)], [(4617315517961601024, 0), (0, 0)]] := by decide +kernel
theorem cn2_eq {x : Nat × Nat} {a b : Nat} (h : cn2 x = (a, b)) (ha : a ≠ qnan) (hb : b ≠ qnan) : x = (a, b) := by
  obtain ⟨u, v⟩ := x
  have h' : (cn u, cn v) = (a, b) := h
  injection h' with h1 h2
  rw [cn_eq h1 ha, cn_eq h2 hb]
theorem crow_two {r : List (Nat × Nat)} {a b c d : Nat} (h : crow r = [(a, b), (c, d)]) (ha : a ≠ qnan) (hb : b ≠ qnan) (hc : c ≠ qnan) (hd : d ≠ qnan) : r = [(a, b), (c, d)] := by
  match r, h with
  | [x, y], h =>
    have h' : [cn2 x, cn2 y] = [(a, b), (c, d)] := h
    injection h' with h1 h2
    injection h2 with h2 _
    rw [cn2_eq h1 ha hb, cn2_eq h2 hc hd]
  | [], h => cases h
  | [x], h => simp [crow] at h
  | _ :: _ :: _ :: _, h => simp [crow] at h
theorem cancel_wake (a : Option Addr) (c : Nat) (rvs : List Value) (w0 : World) (hr : RowsC w0 a cRows rvs) :
    Ret Try.prog 12 [.slice a 3 c, .int .i64 1] w0 fun v w' => ∃ b cap a0 c0 a1 c1, v = .tuple #[.slice b 2 cap, .int .i64 0] ∧ HS w0 w' [] ∧ SlC w' b [.slice a0 2 c0, .slice a1 2 c1] ∧ SlC w' a0 (cl [(4613937818241073152, 0), (0, 0)]) ∧ SlC w' a1 (cl [(4617315517961601024, 0), (0, 0)]) := by
  have h := cancel_ok a c cRows rvs 2 1 w0 hr (by decide) (by decide) (by decide) (by decide) (by decide) (by decide)
  refine Calls.mono h fun e w' hR => ?_
  obtain ⟨v, rfl, b, cap, vs, rs, rfl, hs, hl, hro, hrl, hcan⟩ := hR
  rw [cRows_can] at hcan
  have hl2 : rs.length = 2 := hl
  match rs, hl2, hcan, hro with
  | [r0, r1], _, hcan, hro =>
    have h' : [crow r0, crow r1] = _ := hcan
    injection h' with e0 e1
    injection e1 with e1 _
    have e0' := crow_two e0 (by decide) (by decide) (by decide) (by decide)
    have e1' := crow_two e1 (by decide) (by decide) (by decide) (by decide)
    subst e0' e1'
    obtain ⟨a0, c0, h01, h02⟩ := hro.row 0 (by decide)
    obtain ⟨a1, c1, h11, h12⟩ := hro.row 1 (by decide)
    have hvl : vs.length = 2 := hro.len
    match vs, hvl, h01, h11, hro with
    | [v0, v1], _, h01, h11, hro =>
      simp at h01 h11
      subst h01 h11
      exact ⟨_, rfl, b, cap, a0, c0, a1, c1, rfl, hs, hro.sl, h02, h12⟩
theorem wakes_ok : Wakes := by
  intro w0
  refine Ret.start fun w hs => ?_
  refine calls_of_W Try.func10 rfl rfl rfl ?_
  refine W_seq ?_
  refine W_region ?_
  refine L_assign rfl rfl ?_
  refine RL_then ?_
  refine W_seq ?_
  refine W_region ?_
  refine L_buildSlice rfl hs Try.underlying36 Try.ti34 rfl (by decide) rfl (by simp [Value.cells]) ?_
  intro b12 w hb12 hnb12 hs
  try simp only [List.flatMap_cons, List.flatMap_nil, cells_int, cells_float, cells_complex, cells_bool, cells_string, cells_pointer, cells_slice, cells_map, cells_agg, List.append_nil, List.set_cons_succ, List.set_cons_zero, List.cons_append, List.nil_append] at hs
  refine L_buildSlice rfl hs Try.underlying36 Try.ti34 rfl (by decide) rfl (by simp [Value.cells]) ?_
  intro b13 w hb13 hnb13 hs
  try simp only [List.flatMap_cons, List.flatMap_nil, cells_int, cells_float, cells_complex, cells_bool, cells_string, cells_pointer, cells_slice, cells_map, cells_agg, List.append_nil, List.set_cons_succ, List.set_cons_zero, List.cons_append, List.nil_append] at hs
  refine L_buildSlice rfl hs Try.underlying36 Try.ti34 rfl (by decide) rfl (by simp [Value.cells]) ?_
  intro b14 w hb14 hnb14 hs
  try simp only [List.flatMap_cons, List.flatMap_nil, cells_int, cells_float, cells_complex, cells_bool, cells_string, cells_pointer, cells_slice, cells_map, cells_agg, List.append_nil, List.set_cons_succ, List.set_cons_zero, List.cons_append, List.nil_append] at hs
  refine L_buildSlice rfl hs Try.underlying29 Try.ti36 rfl (by decide) rfl (by simp [Value.cells]) ?_
  intro b15 w hb15 hnb15 hs
  try simp only [List.flatMap_cons, List.flatMap_nil, cells_int, cells_float, cells_complex, cells_bool, cells_string, cells_pointer, cells_slice, cells_map, cells_agg, List.append_nil, List.set_cons_succ, List.set_cons_zero, List.cons_append, List.nil_append] at hs
  have hr : RowsC w (some ⟨b15, 0, none⟩) cRows [.slice (some ⟨b12, 0, none⟩) 2 2, .slice (some ⟨b13, 0, none⟩) 2 2, .slice (some ⟨b14, 0, none⟩) 2 2] := by
    refine ⟨SlC.of_row (sp := []) (hs.get (i := 3) rfl), rfl, fun i hi => ?_⟩
    match i, hi with
    | 0, _ => exact ⟨_, _, rfl, SlC.of_row (sp := []) (hs.get (i := 0) rfl)⟩
    | 1, _ => exact ⟨_, _, rfl, SlC.of_row (sp := []) (hs.get (i := 1) rfl)⟩
    | 2, _ => exact ⟨_, _, rfl, SlC.of_row (sp := []) (hs.get (i := 2) rfl)⟩
  refine L_call rfl Try.fun12 rfl (cancel_wake (some ⟨b15, 0, none⟩) 3 _ w hr) ?_
  rintro _ w1 ⟨ab, cap, a0, c0, a1, c1, rfl, hs1, hsl, hsl0, hsl1⟩
  replace hs1 := (hs.forget (Own.cons hb12 (Own.cons hb13 (Own.cons hb14 (Own.cons hb15 Own.nil))))).nil hs1
  clear hs
  have hs := HS.refl w1
  refine L_move rfl rfl ?_
  refine L_extract rfl rfl rfl ?_
  refine L_extract rfl rfl rfl ?_
  refine L_assign rfl rfl ?_
  refine L_assign rfl rfl ?_
  refine RL_then ?_
  refine W_seq ?_
  refine W_region ?_
  refine L_call rfl Try.fun13 rfl (new_ok 2 4602678819172646912 w1 (by decide) (by decide) (by decide +kernel)) ?_
  rintro _ w ⟨g, b, rfl, hs', hg, hb⟩
  replace hs := hs.call hs' (Own.cons hg (Own.cons hb Own.nil))
  simp only [List.nil_append] at hs
  have hgb : g ≠ b := by have := hs.nodup; simp at this; exact this
  have hmp : IsMap w 60 b g 2 4602678819172646912 false (List.replicate 2 0) := ⟨hs.get (i := 1) rfl, hs.get (i := 0) rfl, by simp⟩
  have hown : ∀ {ls : List Nat} {fed : Bool} {N : List (Nat × Obj)}, Own w1 N → Own w1 (MapL 60 g b 2 4602678819172646912 fed ls ++ N) := fun h => (Own.cons hg (Own.cons hb Own.nil)).app h
  refine L_move rfl rfl ?_
  refine L_extract rfl rfl rfl ?_
  refine L_extract rfl rfl rfl ?_
  refine L_assign rfl rfl ?_
  refine L_assign rfl rfl ?_
  refine RL_then ?_
  refine W_seq ?_
  refine W_seq ?_
  refine W_region ?_
  refine L_move rfl rfl ?_
  first | refine L_neq rfl rfl rfl (dtrue (by omega)) ?_ | refine L_neq rfl rfl rfl (dfalse (by omega)) ?_ | refine L_neq rfl rfl rfl rfl ?_
  refine L_move rfl rfl ?_
  first | (refine RL_want rfl rfl ?_; refine L_move rfl rfl ?_) | refine RL_skip rfl rfl rfl rfl ?_ | refine RL_skipU rfl rfl rfl ?_
  first | (refine RL_want rfl rfl ?_; refine L_len rfl Try.underlying29 rfl ?_) | refine RL_skip rfl rfl rfl rfl ?_ | refine RL_skipU rfl rfl rfl ?_
  first | (refine RL_want rfl rfl ?_; (first | refine L_neq rfl rfl rfl (dtrue (by omega)) ?_ | refine L_neq rfl rfl rfl (dfalse (by omega)) ?_ | refine L_neq rfl rfl rfl rfl ?_)) | refine RL_skip rfl rfl rfl rfl ?_ | refine RL_skipU rfl rfl rfl ?_
  first | refine L_pick_t rfl rfl rfl ?_ | refine L_pick_f rfl rfl rfl ?_
  refine L_move rfl rfl ?_
  first | (refine RL_want rfl rfl ?_; refine L_move rfl rfl ?_) | refine RL_skip rfl rfl rfl rfl ?_ | refine RL_skipU rfl rfl rfl ?_
  first | (refine RL_want rfl rfl ?_; refine L_idx1 rfl Try.underlying29 Try.ti36 rfl rfl (by with_reducible first | exact natc_k _ | exact natc_a1 _ | exact natc_0 | exact natc_1 | exact natc_2 | exact natc_s1 _ (by omega) | exact natc_a2 _ | exact natc_add _ _ | exact natc_mul _ _ | exact natc (by omega)) (by omega) (hsl.ao (by simp)) ?_) | refine RL_skip rfl rfl rfl rfl ?_ | refine RL_skipU rfl rfl rfl ?_
  first | (refine RL_want rfl rfl ?_; refine L_load rfl Try.one36 rfl (by exact (hsl.old hs (hown (N := []) Own.nil)).get (j := 0) rfl) ?_) | refine RL_skip rfl rfl rfl rfl ?_ | refine RL_skipU rfl rfl rfl ?_
  first | (refine RL_want rfl rfl ?_; refine L_len rfl Try.underlying36 rfl ?_) | refine RL_skip rfl rfl rfl rfl ?_ | refine RL_skipU rfl rfl rfl ?_
  first | (refine RL_want rfl rfl ?_; (first | refine L_neq rfl rfl rfl (dtrue (by omega)) ?_ | refine L_neq rfl rfl rfl (dfalse (by omega)) ?_ | refine L_neq rfl rfl rfl rfl ?_)) | refine RL_skip rfl rfl rfl rfl ?_ | refine RL_skipU rfl rfl rfl ?_
  first | refine L_pick_t rfl rfl rfl ?_ | refine L_pick_f rfl rfl rfl ?_
  refine L_move rfl rfl ?_
  first | (refine RL_want rfl rfl ?_; refine L_move rfl rfl ?_) | refine RL_skip rfl rfl rfl rfl ?_ | refine RL_skipU rfl rfl rfl ?_
  first | (refine RL_want rfl rfl ?_; (first | refine L_neq rfl rfl rfl (dtrue (by omega)) ?_ | refine L_neq rfl rfl rfl (dfalse (by omega)) ?_ | refine L_neq rfl rfl rfl rfl ?_)) | refine RL_skip rfl rfl rfl rfl ?_ | refine RL_skipU rfl rfl rfl ?_
  first | refine L_pick_t rfl rfl rfl ?_ | refine L_pick_f rfl rfl rfl ?_
  refine L_move rfl rfl ?_
  first | (refine RL_want rfl rfl ?_; refine L_move rfl rfl ?_) | refine RL_skip rfl rfl rfl rfl ?_ | refine RL_skipU rfl rfl rfl ?_
  first | (refine RL_want rfl rfl ?_; refine L_ptrNil rfl Try.underlying40 rfl rfl ?_) | refine RL_skip rfl rfl rfl rfl ?_ | refine RL_skipU rfl rfl rfl ?_
  first | refine L_pick_t rfl rfl rfl ?_ | refine L_pick_f rfl rfl rfl ?_
  refine RL_then ?_
  refine W_if_false rfl ?_
  refine W_skip' ?_
  refine Nx_then ?_
  refine W_seq ?_
  refine W_region ?_
  refine L_move rfl rfl ?_
  refine L_buildSlice rfl hs Try.underlying39 Try.ti35 rfl (by decide) rfl (by simp [Value.cells]) ?_
  intro b47 w hb47 hnb47 hs
  try simp only [List.flatMap_cons, List.flatMap_nil, cells_int, cells_float, cells_complex, cells_bool, cells_string, cells_pointer, cells_slice, cells_map, cells_agg, List.append_nil, List.set_cons_succ, List.set_cons_zero, List.cons_append, List.nil_append] at hs
  have hmp : IsMap w 60 b g 2 4602678819172646912 false (List.replicate 2 0) := ⟨hs.get (i := 1) rfl, hs.get (i := 0) rfl, by simp⟩
  have hne : b47 ≠ g ∧ b47 ≠ b := by have := hs.nodup; simp at this; exact ⟨fun h => this.1.2 h.symm, fun h => this.2 h.symm⟩
  refine L_call rfl Try.fun16 rfl (feed_ok b g 2 4602678819172646912 false (List.replicate 2 0) [4616189618054758400, 4620693217682128896] [4616189618054758400, 4620693217682128896] (some ⟨b47, 0, none⟩) 2 w hmp hgb (SlC.of_row (sp := []) (hs.get (i := 2) rfl)) rfl (by decide) (by decide) hne rfl) ?_
  rintro _ w' ⟨q, out, ls1, rfl, hs', hq, hol, hll, hD, hL⟩
  have hq2 : w1.heap.size ≤ q := Nat.le_trans hs.size hq
  replace hq : Own w [(q, Row 35 (fl out))] := Own.cons hq Own.nil
  replace hs := hs.callU (A := MapL 60 g b 2 4602678819172646912 false (List.replicate 2 0)) (U := MapL 60 g b 2 4602678819172646912 true ls1) (L2 := [(b47, _)]) rfl hs' hq
  have eo : out.getD 0 0 = 0 := cn_eq ((hD 0 (by decide)).trans (by decide +kernel)) (by decide)
  have el0 : ls1.getD 0 0 = 4616189618054758400 := cn_eq ((hL 0 (by decide)).trans (by decide +kernel)) (by decide)
  have el1 : ls1.getD 1 0 = 4620693217682128896 := cn_eq ((hL 1 (by decide)).trans (by decide +kernel)) (by decide)
  replace hs : HS w1 w' [(g, Row 35 (fl ls1)), (b, Row 60 [.slice (some ⟨g, 0, none⟩) 2 2, .float .f64 4602678819172646912, .bool true]), (b47, Row 35 [.float .f64 4616189618054758400, .float .f64 4620693217682128896]), (q, Row 35 (fl out))] := hs
  refine L_move rfl rfl ?_
  refine L_extract rfl rfl rfl ?_
  refine L_extract rfl rfl rfl ?_
  refine L_assign rfl rfl ?_
  refine L_assign rfl rfl ?_
  refine RL_then ?_
  refine W_seq ?_
  refine W_region ?_
  refine L_move rfl rfl ?_
  refine L_buildSlice rfl hs Try.underlying39 Try.ti35 rfl (by decide) rfl (by simp [Value.cells]) ?_
  intro b53 w hb53 hnb53 hs
  try simp only [List.flatMap_cons, List.flatMap_nil, cells_int, cells_float, cells_complex, cells_bool, cells_string, cells_pointer, cells_slice, cells_map, cells_agg, List.append_nil, List.set_cons_succ, List.set_cons_zero, List.cons_append, List.nil_append] at hs
  have hmp : IsMap w 60 b g 2 4602678819172646912 true ls1 := ⟨hs.get (i := 1) rfl, hs.get (i := 0) rfl, hll⟩
  have hne : b53 ≠ g ∧ b53 ≠ b := by simp at hnb53; exact ⟨hnb53.1, hnb53.2.1⟩
  refine L_call rfl Try.fun16 rfl (feed_ok b g 2 4602678819172646912 true ls1 [4620693217682128896, 4620693217682128896] ls1 (some ⟨b53, 0, none⟩) 2 w hmp hgb (SlC.of_row (sp := []) (hs.get (i := 4) rfl)) rfl (by decide) (by decide) hne rfl) ?_
  rintro _ w' ⟨q2, out2, ls2, rfl, hs', hq', hol2, hll2, hD2, hL2⟩
  have hq22 : w1.heap.size ≤ q2 := Nat.le_trans hs.size hq'
  replace hq' : Own w [(q2, Row 35 (fl out2))] := Own.cons hq' Own.nil
  replace hs := hs.callU (A := MapL 60 g b 2 4602678819172646912 true ls1) (U := MapL 60 g b 2 4602678819172646912 true ls2) (L2 := [(b47, _), (q, _), (b53, _)]) rfl hs' hq'
  have eo2 : out2.getD 0 0 = 4616189618054758400 := cn_eq ((hD2 0 (by decide)).trans (by rw [gD, el0]; decide +kernel)) (by decide)
  have el2 : ls2.getD 0 0 = 4618441417868443648 := cn_eq ((hL2 0 (by decide)).trans (by rw [gL, gD, el0]; decide +kernel)) (by decide)
  replace hs : HS w1 w' [(g, Row 35 (fl ls2)), (b, Row 60 [.slice (some ⟨g, 0, none⟩) 2 2, .float .f64 4602678819172646912, .bool true]), (b47, Row 35 [.float .f64 4616189618054758400, .float .f64 4620693217682128896]), (q, Row 35 (fl out)), (b53, Row 35 [.float .f64 4620693217682128896, .float .f64 4620693217682128896]), (q2, Row 35 (fl out2))] := hs
  refine L_move rfl rfl ?_
  refine L_extract rfl rfl rfl ?_
  refine L_extract rfl rfl rfl ?_
  refine L_assign rfl rfl ?_
  refine L_assign rfl rfl ?_
  refine RL_then ?_
  refine W_seq ?_
  refine W_region ?_
  refine L_move rfl rfl ?_
  have hmp : IsMap w' 60 b g 2 4602678819172646912 true ls2 := ⟨hs.get (i := 1) rfl, hs.get (i := 0) rfl, hll2⟩
  refine L_call rfl Try.fun18 rfl (level_yes b g 2 4602678819172646912 ls2 0 w' hmp (by decide)) ?_
  rintro _ w ⟨rfl, rfl⟩
  rw [el2]
  have hO : Own w1 [(g, Row 35 (fl ls2)), (b, Row 60 [.slice (some ⟨g, 0, none⟩) 2 2, .float .f64 4602678819172646912, .bool true]), (b47, Row 35 [.float .f64 4616189618054758400, .float .f64 4620693217682128896]), (q, Row 35 (fl out)), (b53, Row 35 [.float .f64 4620693217682128896, .float .f64 4620693217682128896]), (q2, Row 35 (fl out2))] := Own.cons hg (Own.cons hb (Own.cons hb47 (Own.cons hq2 (Own.cons hb53 (Own.cons hq22 Own.nil)))))
  have k0 := hsl.old hs hO
  have k1 := hsl0.old hs hO
  have k2 := hsl1.old hs hO
  have g1 : (fl out)[0]? = some (.float .f64 0) := by rw [fl_get (by omega), eo]
  have g2 : (fl out2)[0]? = some (.float .f64 4616189618054758400) := by rw [fl_get (by omega), eo2]
  refine L_move rfl rfl ?_
  refine L_extract rfl rfl rfl ?_
  refine L_extract rfl rfl rfl ?_
  refine L_assign rfl rfl ?_
  refine L_assign rfl rfl ?_
  refine RL_then ?_
  refine W_seq ?_
  refine W_region ?_
  refine L_move rfl rfl ?_
  refine L_idx1 rfl Try.underlying29 Try.ti36 rfl rfl (by with_reducible first | exact natc_k _ | exact natc_a1 _ | exact natc_0 | exact natc_1 | exact natc_2 | exact natc_s1 _ (by omega) | exact natc_a2 _ | exact natc_add _ _ | exact natc_mul _ _ | exact natc (by omega)) (by omega) (by first | rfl | exact k0.ao (by simp) | exact k1.ao (by simp) | exact k2.ao (by simp)) ?_
  refine L_load rfl Try.one36 rfl (by first | exact k0.get (j := 0) rfl | exact k0.get (j := 1) rfl | exact k1.get (j := 0) rfl | exact k2.get (j := 0) rfl | exact k2.get (j := 1) rfl | exact hs.cellA (i := 3) rfl g1 | exact hs.cellA (i := 5) rfl g2) ?_
  refine L_idx1 rfl Try.underlying36 Try.ti34 rfl rfl (by with_reducible first | exact natc_k _ | exact natc_a1 _ | exact natc_0 | exact natc_1 | exact natc_2 | exact natc_s1 _ (by omega) | exact natc_a2 _ | exact natc_add _ _ | exact natc_mul _ _ | exact natc (by omega)) (by omega) (by first | rfl | exact k0.ao (by simp) | exact k1.ao (by simp) | exact k2.ao (by simp)) ?_
  refine L_load rfl Try.one34 rfl (by first | exact k0.get (j := 0) rfl | exact k0.get (j := 1) rfl | exact k1.get (j := 0) rfl | exact k2.get (j := 0) rfl | exact k2.get (j := 1) rfl | exact hs.cellA (i := 3) rfl g1 | exact hs.cellA (i := 5) rfl g2) ?_
  refine RL_val rfl (R_ceql rfl rfl) ?_
  refine L_move rfl rfl ?_
  first | (refine RL_want rfl rfl ?_; refine L_move rfl rfl ?_) | refine RL_skip rfl rfl rfl rfl ?_ | refine RL_skipU rfl rfl rfl ?_
  first | (refine RL_want rfl rfl ?_; refine L_idx1 rfl Try.underlying29 Try.ti36 rfl rfl (by with_reducible first | exact natc_k _ | exact natc_a1 _ | exact natc_0 | exact natc_1 | exact natc_2 | exact natc_s1 _ (by omega) | exact natc_a2 _ | exact natc_add _ _ | exact natc_mul _ _ | exact natc (by omega)) (by omega) (by first | rfl | exact k0.ao (by simp) | exact k1.ao (by simp) | exact k2.ao (by simp)) ?_) | refine RL_skip rfl rfl rfl rfl ?_ | refine RL_skipU rfl rfl rfl ?_
  first | (refine RL_want rfl rfl ?_; refine L_load rfl Try.one36 rfl (by first | exact k0.get (j := 0) rfl | exact k0.get (j := 1) rfl | exact k1.get (j := 0) rfl | exact k2.get (j := 0) rfl | exact k2.get (j := 1) rfl | exact hs.cellA (i := 3) rfl g1 | exact hs.cellA (i := 5) rfl g2) ?_) | refine RL_skip rfl rfl rfl rfl ?_ | refine RL_skipU rfl rfl rfl ?_
  first | (refine RL_want rfl rfl ?_; refine L_idx1 rfl Try.underlying36 Try.ti34 rfl rfl (by with_reducible first | exact natc_k _ | exact natc_a1 _ | exact natc_0 | exact natc_1 | exact natc_2 | exact natc_s1 _ (by omega) | exact natc_a2 _ | exact natc_add _ _ | exact natc_mul _ _ | exact natc (by omega)) (by omega) (by first | rfl | exact k0.ao (by simp) | exact k1.ao (by simp) | exact k2.ao (by simp)) ?_) | refine RL_skip rfl rfl rfl rfl ?_ | refine RL_skipU rfl rfl rfl ?_
  first | (refine RL_want rfl rfl ?_; refine L_load rfl Try.one34 rfl (by first | exact k0.get (j := 0) rfl | exact k0.get (j := 1) rfl | exact k1.get (j := 0) rfl | exact k2.get (j := 0) rfl | exact k2.get (j := 1) rfl | exact hs.cellA (i := 3) rfl g1 | exact hs.cellA (i := 5) rfl g2) ?_) | refine RL_skip rfl rfl rfl rfl ?_ | refine RL_skipU rfl rfl rfl ?_
  first | (refine RL_want rfl rfl ?_; refine RL_val rfl (R_ceql rfl rfl) ?_) | refine RL_skip rfl rfl rfl rfl ?_ | refine RL_skipU rfl rfl rfl ?_
  first | refine L_pick_t rfl rfl rfl ?_ | refine L_pick_f rfl rfl rfl ?_
  refine L_move rfl rfl ?_
  first | (refine RL_want rfl rfl ?_; refine L_move rfl rfl ?_) | refine RL_skip rfl rfl rfl rfl ?_ | refine RL_skipU rfl rfl rfl ?_
  first | (refine RL_want rfl rfl ?_; refine L_idx1 rfl Try.underlying29 Try.ti36 rfl rfl (by with_reducible first | exact natc_k _ | exact natc_a1 _ | exact natc_0 | exact natc_1 | exact natc_2 | exact natc_s1 _ (by omega) | exact natc_a2 _ | exact natc_add _ _ | exact natc_mul _ _ | exact natc (by omega)) (by omega) (by first | rfl | exact k0.ao (by simp) | exact k1.ao (by simp) | exact k2.ao (by simp)) ?_) | refine RL_skip rfl rfl rfl rfl ?_ | refine RL_skipU rfl rfl rfl ?_
  first | (refine RL_want rfl rfl ?_; refine L_load rfl Try.one36 rfl (by first | exact k0.get (j := 0) rfl | exact k0.get (j := 1) rfl | exact k1.get (j := 0) rfl | exact k2.get (j := 0) rfl | exact k2.get (j := 1) rfl | exact hs.cellA (i := 3) rfl g1 | exact hs.cellA (i := 5) rfl g2) ?_) | refine RL_skip rfl rfl rfl rfl ?_ | refine RL_skipU rfl rfl rfl ?_
  first | (refine RL_want rfl rfl ?_; refine L_idx1 rfl Try.underlying36 Try.ti34 rfl rfl (by with_reducible first | exact natc_k _ | exact natc_a1 _ | exact natc_0 | exact natc_1 | exact natc_2 | exact natc_s1 _ (by omega) | exact natc_a2 _ | exact natc_add _ _ | exact natc_mul _ _ | exact natc (by omega)) (by omega) (by first | rfl | exact k0.ao (by simp) | exact k1.ao (by simp) | exact k2.ao (by simp)) ?_) | refine RL_skip rfl rfl rfl rfl ?_ | refine RL_skipU rfl rfl rfl ?_
  first | (refine RL_want rfl rfl ?_; refine L_load rfl Try.one34 rfl (by first | exact k0.get (j := 0) rfl | exact k0.get (j := 1) rfl | exact k1.get (j := 0) rfl | exact k2.get (j := 0) rfl | exact k2.get (j := 1) rfl | exact hs.cellA (i := 3) rfl g1 | exact hs.cellA (i := 5) rfl g2) ?_) | refine RL_skip rfl rfl rfl rfl ?_ | refine RL_skipU rfl rfl rfl ?_
  first | (refine RL_want rfl rfl ?_; refine RL_val rfl (R_ceql rfl rfl) ?_) | refine RL_skip rfl rfl rfl rfl ?_ | refine RL_skipU rfl rfl rfl ?_
  first | refine L_pick_t rfl rfl rfl ?_ | refine L_pick_f rfl rfl rfl ?_
  refine L_move rfl rfl ?_
  first | (refine RL_want rfl rfl ?_; refine L_move rfl rfl ?_) | refine RL_skip rfl rfl rfl rfl ?_ | refine RL_skipU rfl rfl rfl ?_
  first | (refine RL_want rfl rfl ?_; (first | refine L_eql rfl rfl rfl (dtrue (by omega)) ?_ | refine L_eql rfl rfl rfl (dfalse (by omega)) ?_ | refine L_eql rfl rfl rfl rfl ?_)) | refine RL_skip rfl rfl rfl rfl ?_ | refine RL_skipU rfl rfl rfl ?_
  first | refine L_pick_t rfl rfl rfl ?_ | refine L_pick_f rfl rfl rfl ?_
  refine L_move rfl rfl ?_
  first | (refine RL_want rfl rfl ?_; refine L_move rfl rfl ?_) | refine RL_skip rfl rfl rfl rfl ?_ | refine RL_skipU rfl rfl rfl ?_
  first | (refine RL_want rfl rfl ?_; (first | refine L_eql rfl rfl rfl (dtrue (by omega)) ?_ | refine L_eql rfl rfl rfl (dfalse (by omega)) ?_ | refine L_eql rfl rfl rfl rfl ?_)) | refine RL_skip rfl rfl rfl rfl ?_ | refine RL_skipU rfl rfl rfl ?_
  first | refine L_pick_t rfl rfl rfl ?_ | refine L_pick_f rfl rfl rfl ?_
  refine L_move rfl rfl ?_
  first | (refine RL_want rfl rfl ?_; refine L_move rfl rfl ?_) | refine RL_skip rfl rfl rfl rfl ?_ | refine RL_skipU rfl rfl rfl ?_
  first | (refine RL_want rfl rfl ?_; refine L_len rfl Try.underlying39 rfl ?_) | refine RL_skip rfl rfl rfl rfl ?_ | refine RL_skipU rfl rfl rfl ?_
  first | (refine RL_want rfl rfl ?_; (first | refine L_eql rfl rfl rfl (dtrue (by omega)) ?_ | refine L_eql rfl rfl rfl (dfalse (by omega)) ?_ | refine L_eql rfl rfl rfl rfl ?_)) | refine RL_skip rfl rfl rfl rfl ?_ | refine RL_skipU rfl rfl rfl ?_
  first | refine L_pick_t rfl rfl rfl ?_ | refine L_pick_f rfl rfl rfl ?_
  refine L_move rfl rfl ?_
  first | (refine RL_want rfl rfl ?_; refine L_move rfl rfl ?_) | refine RL_skip rfl rfl rfl rfl ?_ | refine RL_skipU rfl rfl rfl ?_
  first | (refine RL_want rfl rfl ?_; refine L_len rfl Try.underlying39 rfl ?_) | refine RL_skip rfl rfl rfl rfl ?_ | refine RL_skipU rfl rfl rfl ?_
  first | (refine RL_want rfl rfl ?_; (first | refine L_eql rfl rfl rfl (dtrue (by omega)) ?_ | refine L_eql rfl rfl rfl (dfalse (by omega)) ?_ | refine L_eql rfl rfl rfl rfl ?_)) | refine RL_skip rfl rfl rfl rfl ?_ | refine RL_skipU rfl rfl rfl ?_
  first | refine L_pick_t rfl rfl rfl ?_ | refine L_pick_f rfl rfl rfl ?_
  refine L_move rfl rfl ?_
  first | (refine RL_want rfl rfl ?_; refine L_move rfl rfl ?_) | refine RL_skip rfl rfl rfl rfl ?_ | refine RL_skipU rfl rfl rfl ?_
  first | (refine RL_want rfl rfl ?_; refine L_idx1 rfl Try.underlying39 Try.ti35 rfl rfl (by with_reducible first | exact natc_k _ | exact natc_a1 _ | exact natc_0 | exact natc_1 | exact natc_2 | exact natc_s1 _ (by omega) | exact natc_a2 _ | exact natc_add _ _ | exact natc_mul _ _ | exact natc (by omega)) (by omega) (by first | rfl | exact k0.ao (by simp) | exact k1.ao (by simp) | exact k2.ao (by simp)) ?_) | refine RL_skip rfl rfl rfl rfl ?_ | refine RL_skipU rfl rfl rfl ?_
  first | (refine RL_want rfl rfl ?_; refine L_load rfl Try.one35 rfl (by first | exact k0.get (j := 0) rfl | exact k0.get (j := 1) rfl | exact k1.get (j := 0) rfl | exact k2.get (j := 0) rfl | exact k2.get (j := 1) rfl | exact hs.cellA (i := 3) rfl g1 | exact hs.cellA (i := 5) rfl g2) ?_) | refine RL_skip rfl rfl rfl rfl ?_ | refine RL_skipU rfl rfl rfl ?_
  first | (refine RL_want rfl rfl ?_; refine L_fcmp rfl rfl rfl (fun _ => by rw [binOp_float_cmp_eql]; rfl) ?_) | refine RL_skip rfl rfl rfl rfl ?_ | refine RL_skipU rfl rfl rfl ?_
  first | refine L_pick_t rfl rfl rfl ?_ | refine L_pick_f rfl rfl rfl ?_
  refine L_move rfl rfl ?_
  first | (refine RL_want rfl rfl ?_; refine L_move rfl rfl ?_) | refine RL_skip rfl rfl rfl rfl ?_ | refine RL_skipU rfl rfl rfl ?_
  first | (refine RL_want rfl rfl ?_; refine L_idx1 rfl Try.underlying39 Try.ti35 rfl rfl (by with_reducible first | exact natc_k _ | exact natc_a1 _ | exact natc_0 | exact natc_1 | exact natc_2 | exact natc_s1 _ (by omega) | exact natc_a2 _ | exact natc_add _ _ | exact natc_mul _ _ | exact natc (by omega)) (by omega) (by first | rfl | exact k0.ao (by simp) | exact k1.ao (by simp) | exact k2.ao (by simp)) ?_) | refine RL_skip rfl rfl rfl rfl ?_ | refine RL_skipU rfl rfl rfl ?_
  first | (refine RL_want rfl rfl ?_; refine L_load rfl Try.one35 rfl (by first | exact k0.get (j := 0) rfl | exact k0.get (j := 1) rfl | exact k1.get (j := 0) rfl | exact k2.get (j := 0) rfl | exact k2.get (j := 1) rfl | exact hs.cellA (i := 3) rfl g1 | exact hs.cellA (i := 5) rfl g2) ?_) | refine RL_skip rfl rfl rfl rfl ?_ | refine RL_skipU rfl rfl rfl ?_
  first | (refine RL_want rfl rfl ?_; refine L_fcmp rfl rfl rfl (fun _ => by rw [binOp_float_cmp_eql]; rfl) ?_) | refine RL_skip rfl rfl rfl rfl ?_ | refine RL_skipU rfl rfl rfl ?_
  first | refine L_pick_t rfl rfl rfl ?_ | refine L_pick_f rfl rfl rfl ?_
  refine L_move rfl rfl ?_
  first | (refine RL_want rfl rfl ?_; refine L_move rfl rfl ?_) | refine RL_skip rfl rfl rfl rfl ?_ | refine RL_skipU rfl rfl rfl ?_
  first | (refine RL_want rfl rfl ?_; refine L_fcmp rfl rfl rfl (fun _ => by rw [binOp_float_cmp_eql]; rfl) ?_) | refine RL_skip rfl rfl rfl rfl ?_ | refine RL_skipU rfl rfl rfl ?_
  first | refine L_pick_t rfl rfl rfl ?_ | refine L_pick_f rfl rfl rfl ?_
  refine L_move rfl rfl ?_
  first | (refine RL_want rfl rfl ?_; refine L_move rfl rfl ?_) | refine RL_skip rfl rfl rfl rfl ?_ | refine RL_skipU rfl rfl rfl ?_
  first | refine L_pick_t rfl rfl rfl ?_ | refine L_pick_f rfl rfl rfl ?_
  refine L_move rfl rfl ?_
  refine RL_want rfl rfl ?_
  refine L_call rfl Try.fun8 rfl (weights_some 2 w (by decide)) ?_
  rintro _ w ⟨bw, rfl, hbw, hs'⟩
  have hbw2 : w1.heap.size ≤ bw := Nat.le_trans hs.size hbw
  replace hs := (hs.forget hO).call hs' (Own.cons hbw Own.nil)
  first | (refine RL_want rfl rfl ?_; refine L_len rfl Try.underlying22 rfl ?_) | refine RL_skip rfl rfl rfl rfl ?_ | refine RL_skipU rfl rfl rfl ?_
  first | (refine RL_want rfl rfl ?_; (first | refine L_eql rfl rfl rfl (dtrue (by omega)) ?_ | refine L_eql rfl rfl rfl (dfalse (by omega)) ?_ | refine L_eql rfl rfl rfl rfl ?_)) | refine RL_skip rfl rfl rfl rfl ?_ | refine RL_skipU rfl rfl rfl ?_
  first | refine L_pick_t rfl rfl rfl ?_ | refine L_pick_f rfl rfl rfl ?_
  refine L_assign rfl rfl ?_
  refine RL_then ?_
  refine W_ret' ?_
  refine Ex_done1 rfl rfl ?_
  exact ⟨_, rfl, rfl, hs1.nil (hs.forget (Own.cons hbw2 Own.nil))⟩
end Go.Proofs.Ytfehgelggjpaaaa
