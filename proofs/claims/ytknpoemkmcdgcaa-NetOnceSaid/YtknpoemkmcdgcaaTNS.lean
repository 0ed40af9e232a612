/-
  A part of the proof: what functions that the statement reaches do, or a plain law on what they do. Each theorem holds under its own premises alone.
-/
import Derived.Test.YtknpoemkmcdgcaaTNR
namespace Go.Proofs.Ytknpoemkmcdgcaa
open Go Go.Lk
/-! ### Sites and what was told, as arguments -/
structure Si where
  x : Nat
  y : Nat
  t : Nat
def si0 : Si := ⟨0, 0, 0⟩
def Si.cells (s : Si) : List Value := [.float .f64 s.x, .float .f64 s.y, .float .f64 s.t]
structure Si.ok (s : Si) : Prop where
  x : s.x < 18446744073709551616
  y : s.y < 18446744073709551616
  t : s.t < 18446744073709551616
def scs (ss : List Si) : List Value := ss.flatMap Si.cells
theorem scs_len (ss : List Si) : (scs ss).length = ss.length * 3 := by
  induction ss with
  | nil => rfl
  | cons t ts ih =>
    show (t.cells ++ scs ts).length = _
    rw [List.length_append, ih, List.length_cons]
    show 3 + _ = _
    omega
theorem scs_get : ∀ {ts : List Si} {i q : Nat} {v : Value}, i < ts.length → (ts.getD i si0).cells[q]? = some v → (scs ts)[i * 3 + q]? = some v
  | t :: ts, 0, q, v, _, h => by
    show (t.cells ++ scs ts)[0 * 3 + q]? = some v
    rw [Nat.zero_mul, Nat.zero_add]
    have hq : q < t.cells.length := (List.getElem?_eq_some_iff.1 h).1
    rw [List.getElem?_append_left hq]; exact h
  | t :: ts, i + 1, q, v, hi, h => by
    show (t.cells ++ scs ts)[(i + 1) * 3 + q]? = some v
    have hl : t.cells.length = 3 := rfl
    rw [List.getElem?_append_right (by omega), show (i + 1) * 3 + q - t.cells.length = i * 3 + q by omega]
    exact scs_get (by simpa using hi) h
theorem si_at {w : World} {a : Option Addr} {ss : List Si} (h : SlC w a (scs ss)) {i : Nat} (hi : i < ss.length) : CellsAt w ((aD a).add (i * 3)) (ss.getD i si0).cells := h.sub fun _ _ hv => scs_get hi hv
structure TT where
  a : Option Addr
  c : Nat
  ts : List Tk
def tt0 : TT := ⟨none, 0, []⟩
def TT.v (t : TT) : Value := .slice t.a t.ts.length t.c
def tvs (l : List TT) : List Value := l.map TT.v
theorem tvs_len (l : List TT) : (tvs l).length = l.length := List.length_map ..
theorem tvs_get {l : List TT} {i : Nat} (h : i < l.length) : (tvs l)[i]? = some (.slice (l.getD i tt0).a (l.getD i tt0).ts.length (l.getD i tt0).c) := by
  unfold tvs
  rw [List.getElem?_map, List.getElem?_eq_getElem h, List.getD_eq_getElem?_getD, List.getElem?_eq_getElem h]; rfl
structure ToldAt (w : World) (a : Option Addr) (l : List TT) : Prop where
  sl : SlC w a (tvs l)
  each : ∀ i, i < l.length → SlC w (l.getD i tt0).a (tcs (l.getD i tt0).ts)
  lt : ∀ i, i < l.length → ∀ j, j < (l.getD i tt0).ts.length → TkLt ((l.getD i tt0).ts.getD j tk0)
  len : ∀ i, i < l.length → (l.getD i tt0).ts.length ≤ 1000000000000000
theorem ToldAt.old {w0 w : World} {a : Option Addr} {l : List TT} {L : Bks} (h : ToldAt w0 a l) (hs : HS w0 w L) (ho : Own w0 L) : ToldAt w a l := ⟨h.sl.old hs ho, fun i hi => (h.each i hi).old hs ho, h.lt, h.len⟩
def cntL (rs : List Rd) : List Int := rs.map fun r => (r.ts.length : Int)
set_option maxHeartbeats 1000000 in
theorem made_ok (far : Nat) (aS aT : Option Addr) (nS cS nT cT : Nat) (ss : List Si) (tt : List TT) (w0 : World) (hfl : far < 18446744073709551616)
    (hS : SlC w0 aS (scs ss)) (hSl : ss.length = nS) (hSm : nS ≤ 1000000000000000) (hSo : ∀ i, i < nS → (ss.getD i si0).ok) (hT : ToldAt w0 aT tt) (hTl : tt.length = nT) (hTm : nT ≤ 1000000000000000) :
    Ret Try.prog 23 [.float .f64 far, .slice aS nS cS, .slice aT nT cT] w0 fun v w' =>
      (v = .tuple #[.pointer none, .slice none 0 0] ∧ HS w0 w' []) ∨
      ∃ B v1 M ms vm Mm, FarOk far ∧ v = .tuple #[.pointer (some ⟨B, 0, none⟩), vm] ∧ HS w0 w' (nbs B far v1 M ms ++ Mm) ∧ NetOk w0 B v1 M ms ∧ Bl w0 3 1 vm ms.length (il (cntL (rds ms))) Mm := by
  refine Ret.start fun w hs => ?_
  refine calls_of_W Try.func23 rfl rfl rfl ?_
  refine W_seq ?_
  refine W_region ?_
  refine L_assign rfl rfl ?_
  refine L_assign rfl rfl ?_
  refine RL_then ?_
  refine W_seq ?_
  refine W_region ?_
  refine L_move rfl rfl ?_
  refine L_call rfl Try.fun12 rfl (newG far w hfl) ?_
  rintro _ w1 (⟨hE, B, rfl, hs', hB⟩ | ⟨hE, rfl, hs'⟩)
  · have hf := FarOk.of hfl hE
    have hBw := hB
    replace hB := Nat.le_trans hs.size hB
    replace hs : HS w0 w1 (nbs B far (.slice none 0 0) [] [] ++ []) := hs.call hs' (Own.cons hBw Own.nil)
    clear hs' hBw
    have hN : NetOk w0 B (.slice none 0 0) [] [] := ⟨hB, .nil, fun _ h => absurd h List.not_mem_nil, by decide⟩
    refine L_move rfl rfl ?_
    refine L_extract rfl rfl rfl ?_
    refine L_extract rfl rfl rfl ?_
    refine L_assign rfl rfl ?_
    refine L_assign rfl rfl ?_
    refine RL_then ?_
    refine W_seq ?_
    refine W_seq ?_
    refine W_region ?_
    refine L_move rfl rfl ?_
    first | refine L_neq rfl rfl rfl (dtrue (by omega)) ?_ | refine L_neq rfl rfl rfl (dfalse (by omega)) ?_ | refine L_neq rfl rfl rfl rfl ?_
    refine L_move rfl rfl ?_
    first | (refine RL_want rfl rfl ?_; refine L_move rfl rfl ?_) | refine RL_skip rfl rfl rfl rfl ?_ | refine RL_skipU rfl rfl rfl ?_
    first | (refine RL_want rfl rfl ?_; refine L_ptrNil rfl Try.underlying26 rfl rfl ?_) | refine RL_skip rfl rfl rfl rfl ?_ | refine RL_skipU rfl rfl rfl ?_
    first | refine L_pick_t rfl rfl rfl ?_ | refine L_pick_f rfl rfl rfl ?_
    refine RL_then ?_
    refine W_if_false rfl ?_
    refine W_skip' ?_
    refine Nx_then ?_
    refine W_seq ?_
    refine W_region ?_
    refine L_assign rfl rfl ?_
    refine RL_then ?_
    refine W_seq ?_
    refine W_seq ?_
    refine W_region ?_
    refine L_assign rfl rfl ?_
    refine RL_then ?_
    refine W_block ?_
    refine W_loop7 (fun (i : Nat) (v1 : Value) (M : Bks) (ms : List RM) (vm : Value) (Mm : Bks) (w : World) => [(1, .slice aS nS cS), (2, .slice aT nT cT), (8, .pointer (some ⟨B, 0, none⟩)), (10, vm), (11, .int .i64 i)]) (fun (i : Nat) (v1 : Value) (M : Bks) (ms : List RM) (vm : Value) (Mm : Bks) (w : World) => w) (fun (i : Nat) (v1 : Value) (M : Bks) (ms : List RM) (vm : Value) (Mm : Bks) (w : World) => (i ≤ 8) ∧ (ms.length ≤ i) ∧ (NetOk w0 B v1 M ms) ∧ (Bl w0 3 1 vm ms.length (il (cntL (rds ms))) Mm) ∧ (HS w0 w (nbs B far v1 M ms ++ Mm))) (fun (i : Nat) (v1 : Value) (M : Bks) (ms : List RM) (vm : Value) (Mm : Bks) (w : World) => 8 - i) (0) (.slice none 0 0) ([]) ([]) (.slice none 0 0) ([]) (_) (is := [1, 2, 8, 10, 11]) rfl rfl ?_ ?_
    · exact ⟨Nat.zero_le _, Nat.le_refl _, hN, .nil, hs⟩
    · clear hs
      intro i v1 M ms vm Mm w hI
      show W _ _ _ _ [(1, .slice aS nS cS), (2, .slice aT nT cT), (8, .pointer (some ⟨B, 0, none⟩)), (10, vm), (11, .int .i64 i)] w
      obtain ⟨hi, hmi, hN, hbm, hs⟩ := hI
      have hoL : Own w0 (nbs B far v1 M ms ++ Mm) := hN.owns.app hbm.own
      by_cases hin : i < nS ∧ i < 8
      · obtain ⟨hin, hi8⟩ := hin
        obtain ⟨s, hse⟩ : ∃ s, s = ss.getD i si0 := ⟨_, rfl⟩
        have hso := hSo i hin
        rw [← hse] at hso
        have hSw := hS.old hs hoL
        refine W_seq ?_
        refine W_seq ?_
        refine W_region ?_
        refine L_move rfl rfl ?_
        refine L_move rfl rfl ?_
        refine L_len rfl Try.underlying58 rfl ?_
        first | refine L_lss rfl rfl rfl (dtrue (by omega)) ?_ | refine L_lss rfl rfl rfl (dfalse (by omega)) ?_ | refine L_lss rfl rfl rfl rfl ?_
        refine L_move rfl rfl ?_
        first | (refine RL_want rfl rfl ?_; refine L_move rfl rfl ?_) | refine RL_skip rfl rfl rfl rfl ?_ | refine RL_skipU rfl rfl rfl ?_
        first | (refine RL_want rfl rfl ?_; (first | refine L_lss rfl rfl rfl (dtrue (by omega)) ?_ | refine L_lss rfl rfl rfl (dfalse (by omega)) ?_ | refine L_lss rfl rfl rfl rfl ?_)) | refine RL_skip rfl rfl rfl rfl ?_ | refine RL_skipU rfl rfl rfl ?_
        first | refine L_pick_t rfl rfl rfl ?_ | refine L_pick_f rfl rfl rfl ?_
        refine RL_then ?_
        refine W_if_true rfl ?_
        refine W_skip' ?_
        refine Nx_then ?_
        refine W_seq ?_
        refine W_block ?_
        refine W_seq ?_
        refine W_region ?_
        refine L_move rfl rfl ?_
        refine L_move rfl rfl ?_
        refine L_move rfl rfl ?_
        refine L_idxN rfl Try.underlying58 Try.ti37 rfl rfl (by with_reducible first | exact natc_k _ | exact natc_a1 _ | exact natc_0 | exact natc_1 | exact natc_2 | exact natc_s1 _ (by omega) | exact natc_a2 _ | exact natc_add _ _ | exact natc_mul _ _ | exact natc (by omega)) (by omega) (hSw.ao (by rw [scs_len]; omega)) ?_
        refine L_loadA rfl Try.agg37 Try.ti37 rfl (by exact hse ▸ si_at hSw (by omega)) ?_
        refine L_call rfl Try.fun20 rfl (addG w0 w B far v1 M Mm ms s.x s.y s.t hs hN hso.x hso.y hso.t) ?_
        rintro _ w2 (⟨_, v2, M2, rfl, hs2, hN2⟩ | ⟨hA, rfl, hs2⟩)
        · clear hs
          obtain ⟨ms1, hms1⟩ : ∃ ms1, ms1 = ms ++ [RM.mk ⟨s.x, s.y, s.t, none, 0, []⟩ []] := ⟨_, rfl⟩
          rw [← hms1] at hs2 hN2
          have hml1 : ms1.length = ms.length + 1 := by rw [hms1, List.length_append]; rfl
          have hmr1 : rds ms1 = rds ms ++ [⟨s.x, s.y, s.t, none, 0, []⟩] := by rw [hms1]; simp [rds]
          have hc1 : il (cntL (rds ms1)) = il (cntL (rds ms)) ++ [.int .i64 ((0 : Nat) : Int)] := by rw [hmr1, cntL, List.map_append, il_snoc]; rfl
          have hs := hs2
          clear hs2
          have hoL1 : Own w0 (nbs B far v2 M2 ms1 ++ Mm) := hN2.owns.app hbm.own
          refine L_move rfl rfl ?_
          refine L_extract rfl rfl rfl ?_
          refine L_extract rfl rfl rfl ?_
          refine L_assign rfl rfl ?_
          refine L_assign rfl rfl ?_
          refine RL_then ?_
          refine W_seq ?_
          refine W_seq ?_
          refine W_region ?_
          refine L_move rfl rfl ?_
          first | refine L_neq rfl rfl rfl (dtrue (by omega)) ?_ | refine L_neq rfl rfl rfl (dfalse (by omega)) ?_ | refine L_neq rfl rfl rfl rfl ?_
          refine RL_then ?_
          refine W_if_false rfl ?_
          refine W_skip' ?_
          refine Nx_then ?_
          refine W_seq ?_
          refine W_region ?_
          refine L_assign rfl rfl ?_
          refine RL_then ?_
          refine W_seq ?_
          refine W_seq ?_
          refine W_region ?_
          by_cases hiT : i < nT
          · obtain ⟨u, hue⟩ : ∃ u, u = tt.getD i tt0 := ⟨_, rfl⟩
            have hTw := hT.old hs hoL1
            have hu := hT.each i (by omega)
            have hul := hT.lt i (by omega)
            have hum := hT.len i (by omega)
            have huv := tvs_get (l := tt) (i := i) (by omega)
            rw [← hue] at hu hul hum huv
            by_cases h40 : u.ts.length ≤ 40
            · refine L_move rfl rfl ?_
              refine L_move rfl rfl ?_
              refine L_len rfl Try.underlying59 rfl ?_
              first | refine L_lss rfl rfl rfl (dtrue (by omega)) ?_ | refine L_lss rfl rfl rfl (dfalse (by omega)) ?_ | refine L_lss rfl rfl rfl rfl ?_
              refine L_move rfl rfl ?_
              first | (refine RL_want rfl rfl ?_; refine L_move rfl rfl ?_) | refine RL_skip rfl rfl rfl rfl ?_ | refine RL_skipU rfl rfl rfl ?_
              first | (refine RL_want rfl rfl ?_; refine L_move rfl rfl ?_) | refine RL_skip rfl rfl rfl rfl ?_ | refine RL_skipU rfl rfl rfl ?_
              first | (refine RL_want rfl rfl ?_; refine L_idx1 rfl Try.underlying59 Try.ti38 rfl rfl (by with_reducible first | exact natc_k _ | exact natc_a1 _ | exact natc_0 | exact natc_1 | exact natc_2 | exact natc_s1 _ (by omega) | exact natc_a2 _ | exact natc_add _ _ | exact natc_mul _ _ | exact natc (by omega)) (by omega) (hTw.sl.ao (by rw [tvs_len]; omega)) ?_) | refine RL_skip rfl rfl rfl rfl ?_ | refine RL_skipU rfl rfl rfl ?_
              first | (refine RL_want rfl rfl ?_; refine L_load rfl Try.one38 rfl (by exact hTw.sl.get huv) ?_) | refine RL_skip rfl rfl rfl rfl ?_ | refine RL_skipU rfl rfl rfl ?_
              first | (refine RL_want rfl rfl ?_; refine L_len rfl Try.underlying38 rfl ?_) | refine RL_skip rfl rfl rfl rfl ?_ | refine RL_skipU rfl rfl rfl ?_
              first | (refine RL_want rfl rfl ?_; (first | refine L_leq rfl rfl rfl (dtrue (by omega)) ?_ | refine L_leq rfl rfl rfl (dfalse (by omega)) ?_ | refine L_leq rfl rfl rfl rfl ?_)) | refine RL_skip rfl rfl rfl rfl ?_ | refine RL_skipU rfl rfl rfl ?_
              first | refine L_pick_t rfl rfl rfl ?_ | refine L_pick_f rfl rfl rfl ?_
              refine L_move rfl rfl ?_
              first | (refine RL_want rfl rfl ?_; refine L_move rfl rfl ?_) | refine RL_skip rfl rfl rfl rfl ?_ | refine RL_skipU rfl rfl rfl ?_
              first | (refine RL_want rfl rfl ?_; refine L_move rfl rfl ?_) | refine RL_skip rfl rfl rfl rfl ?_ | refine RL_skipU rfl rfl rfl ?_
              first | (refine RL_want rfl rfl ?_; refine L_move rfl rfl ?_) | refine RL_skip rfl rfl rfl rfl ?_ | refine RL_skipU rfl rfl rfl ?_
              first | (refine RL_want rfl rfl ?_; refine L_move rfl rfl ?_) | refine RL_skip rfl rfl rfl rfl ?_ | refine RL_skipU rfl rfl rfl ?_
              first | (refine RL_want rfl rfl ?_; refine L_idx1 rfl Try.underlying59 Try.ti38 rfl rfl (by with_reducible first | exact natc_k _ | exact natc_a1 _ | exact natc_0 | exact natc_1 | exact natc_2 | exact natc_s1 _ (by omega) | exact natc_a2 _ | exact natc_add _ _ | exact natc_mul _ _ | exact natc (by omega)) (by omega) (hTw.sl.ao (by rw [tvs_len]; omega)) ?_) | refine RL_skip rfl rfl rfl rfl ?_ | refine RL_skipU rfl rfl rfl ?_
              first | (refine RL_want rfl rfl ?_; refine L_load rfl Try.one38 rfl (by exact hTw.sl.get huv) ?_) | refine RL_skip rfl rfl rfl rfl ?_ | refine RL_skipU rfl rfl rfl ?_
              refine RL_want rfl rfl ?_
              refine L_call rfl Try.fun21 rfl (tellG w0 w2 B far v2 M2 Mm ms1 ms.length u.a u.ts.length u.c u.ts hs hN2 hbm.own (fun w' L' hs' ho _ => hu.old hs' ho) rfl (by omega) hul) ?_
              rintro _ w3 ⟨rfl, ⟨hE2, hs3⟩ | ⟨hE2, q', a3, c3, M3, ms3, hq', hqq, hs3, hN3, hr3⟩⟩
              · have hs := hs3
                first | (refine RL_want rfl rfl ?_; (first | refine L_eql rfl rfl rfl (dtrue (by omega)) ?_ | refine L_eql rfl rfl rfl (dfalse (by omega)) ?_ | refine L_eql rfl rfl rfl rfl ?_)) | refine RL_skip rfl rfl rfl rfl ?_ | refine RL_skipU rfl rfl rfl ?_
                first | refine L_pick_t rfl rfl rfl ?_ | refine L_pick_f rfl rfl rfl ?_
                refine RL_then ?_
                refine W_if_false rfl ?_
                refine W_skip' ?_
                refine Nx_then ?_
                refine W_region ?_
                refine L_move rfl rfl ?_
                refine L_move rfl rfl ?_
                refine L_buildSlice1 rfl hs Try.underlying60 Try.ti3 rfl (by decide) rfl rfl ?_
                intro b92 w hb92 hnb92 hs
                simp only [List.map_cons, List.map_nil] at hs
                try dsimp only [List.set_cons_succ, List.set_cons_zero, List.cons_append, List.nil_append] at hs
                replace hs : HS w0 w ((nbs B far v2 M2 ms1 ++ Mm) ++ [(b92, Row 3 [.int .i64 ((0 : Nat) : Int)])]) := hs
                refine L_appendT (L := nbs B far v2 M2 ms1) (M := Mm) rfl Try.underlying60 Try.ti3 rfl hs hb92 hbm rfl rfl rfl (by simp [Value.oneCell']) (by omega) (by omega) ?_
                intro v' w M' hs hbm'
                refine L_assign rfl rfl ?_
                refine RL_nil' ?_
                refine Nx_block ?_
                refine Nx_then ?_
                refine W_region ?_
                refine L_move rfl rfl ?_
                first | refine L_add rfl rfl rfl (wrp_i64 (by omega)) ?_ | refine L_add rfl rfl rfl rfl ?_
                refine L_assign rfl rfl ?_
                refine RL_nil' ?_
                refine Nx_loopP (i + 1, v2, M2, ms1, v', M', _) (is := [1, 2, 8, 10, 11]) (I' := (fun (i : Nat) (v1 : Value) (M : Bks) (ms : List RM) (vm : Value) (Mm : Bks) (w : World) => (i ≤ 8) ∧ (ms.length ≤ i) ∧ (NetOk w0 B v1 M ms) ∧ (Bl w0 3 1 vm ms.length (il (cntL (rds ms))) Mm) ∧ (HS w0 w (nbs B far v1 M ms ++ Mm))) (i + 1) (v2) (M2) (ms1) (v') (M') (_)) rfl rfl rfl ?_ ?_
                · exact ⟨by omega, by omega, hN2, by rw [hc1, hml1]; exact hbm', hs⟩
                · show 8 - (i + 1) < 8 - i; omega
              · obtain rfl : q' = ms.length := by omega
                rw [hmr1] at hr3
                have hrl : (rds ms).length = ms.length := rds_len ms
                have hr4 : rds ms3 = rds ms ++ [⟨s.x, s.y, s.t, a3, c3, firm u.ts⟩] := by
                  rw [hr3, ← hrl, List.set_append_right _ _ (Nat.le_refl _), Nat.sub_self, List.getD_eq_getElem?_getD, List.getElem?_append_right (Nat.le_refl _), Nat.sub_self]; rfl
                have hml3 : ms3.length = ms.length + 1 := by have := congrArg List.length hr4; rw [rds_len, List.length_append, rds_len] at this; exact this
                have hc3 : il (cntL (rds ms3)) = il (cntL (rds ms)) ++ [.int .i64 ((firm u.ts).length : Int)] := by rw [hr4, cntL, List.map_append, il_snoc]; rfl
                have hs := hs3
                clear hs3
                have hoL3 : Own w0 (nbs B far v2 M3 ms3 ++ Mm) := hN3.owns.app hbm.own
                first | (refine RL_want rfl rfl ?_; (first | refine L_eql rfl rfl rfl (dtrue (by omega)) ?_ | refine L_eql rfl rfl rfl (dfalse (by omega)) ?_ | refine L_eql rfl rfl rfl rfl ?_)) | refine RL_skip rfl rfl rfl rfl ?_ | refine RL_skipU rfl rfl rfl ?_
                first | refine L_pick_t rfl rfl rfl ?_ | refine L_pick_f rfl rfl rfl ?_
                refine RL_then ?_
                refine W_if_true rfl ?_
                refine W_seq ?_
                refine W_region ?_
                refine L_assign rfl rfl ?_
                refine RL_then ?_
                refine W_block ?_
                refine W_loop3 (fun (j : Nat) (fc : Nat) (w : World) => [(1, .slice aS nS cS), (2, .slice aT nT cT), (8, .pointer (some ⟨B, 0, none⟩)), (10, vm), (11, .int .i64 i), (14, .int .i64 fc), (15, .int .i64 j)]) (fun (j : Nat) (fc : Nat) (w : World) => w) (fun (j : Nat) (fc : Nat) (w : World) => (j ≤ u.ts.length) ∧ (fc = (firm (u.ts.take j)).length) ∧ (HS w0 w (nbs B far v2 M3 ms3 ++ Mm))) (fun (j : Nat) (fc : Nat) (w : World) => u.ts.length - j) (0) (0) (_) (is := [1, 2, 8, 10, 11, 14, 15]) rfl rfl ?_ ?_
                · exact ⟨Nat.zero_le _, rfl, hs⟩
                · clear hs
                  intro j fc w hI
                  show W _ _ _ _ [(1, .slice aS nS cS), (2, .slice aT nT cT), (8, .pointer (some ⟨B, 0, none⟩)), (10, vm), (11, .int .i64 i), (14, .int .i64 fc), (15, .int .i64 j)] w
                  obtain ⟨hj, hfc, hs⟩ := hI
                  have hfl := firm_len (u.ts.take j)
                  rw [← hfc, List.length_take] at hfl
                  have hTw := hT.old hs hoL3
                  have huw := hu.old hs hoL3
                  by_cases hju : j < u.ts.length
                  · obtain ⟨t, hth⟩ : ∃ t, t = u.ts.getD j tk0 := ⟨_, rfl⟩
                    have htk := take_tk hju
                    rw [← hth] at htk
                    by_cases hkd : t.kind = 1
                    · refine W_seq ?_
                      refine W_seq ?_
                      refine W_region ?_
                      refine L_move rfl rfl ?_
                      refine L_move rfl rfl ?_
                      refine L_move rfl rfl ?_
                      refine L_idx1 rfl Try.underlying59 Try.ti38 rfl rfl (by with_reducible first | exact natc_k _ | exact natc_a1 _ | exact natc_0 | exact natc_1 | exact natc_2 | exact natc_s1 _ (by omega) | exact natc_a2 _ | exact natc_add _ _ | exact natc_mul _ _ | exact natc (by omega)) (by omega) (hTw.sl.ao (by rw [tvs_len]; omega)) ?_
                      refine L_load rfl Try.one38 rfl (by exact hTw.sl.get huv) ?_
                      refine L_len rfl Try.underlying38 rfl ?_
                      first | refine L_lss rfl rfl rfl (dtrue (by omega)) ?_ | refine L_lss rfl rfl rfl (dfalse (by omega)) ?_ | refine L_lss rfl rfl rfl rfl ?_
                      refine RL_then ?_
                      refine W_if_true rfl ?_
                      refine W_skip' ?_
                      refine Nx_then ?_
                      refine W_seq ?_
                      refine W_block ?_
                      refine W_seq ?_
                      refine W_region ?_
                      refine L_move rfl rfl ?_
                      refine L_move rfl rfl ?_
                      refine L_idx1 rfl Try.underlying59 Try.ti38 rfl rfl (by with_reducible first | exact natc_k _ | exact natc_a1 _ | exact natc_0 | exact natc_1 | exact natc_2 | exact natc_s1 _ (by omega) | exact natc_a2 _ | exact natc_add _ _ | exact natc_mul _ _ | exact natc (by omega)) (by omega) (hTw.sl.ao (by rw [tvs_len]; omega)) ?_
                      refine L_load rfl Try.one38 rfl (by exact hTw.sl.get huv) ?_
                      refine L_move rfl rfl ?_
                      refine L_idxN rfl Try.underlying38 Try.ti48 rfl rfl (by with_reducible first | exact natc_k _ | exact natc_a1 _ | exact natc_0 | exact natc_1 | exact natc_2 | exact natc_s1 _ (by omega) | exact natc_a2 _ | exact natc_add _ _ | exact natc_mul _ _ | exact natc (by omega)) (by omega) (huw.ao (by rw [tcs_len]; omega)) ?_
                      refine L_fieldAddr rfl (off := 1) Try.underlying48 rfl rfl Try.ti43 rfl ?_
                      refine L_load rfl Try.one43 rfl (by (rw [add_add]; exact huw.get (tcs_get (q := 1) hju (by rw [← hth]; rfl)))) ?_
                      first | refine L_eql rfl rfl rfl (dtrue (by omega)) ?_ | refine L_eql rfl rfl rfl (dfalse (by omega)) ?_ | refine L_eql rfl rfl rfl rfl ?_
                      refine RL_then ?_
                      refine W_if_true rfl ?_
                      refine W_region ?_
                      refine L_move rfl rfl ?_
                      first | refine L_add rfl rfl rfl (wrp_i64 (by omega)) ?_ | refine L_add rfl rfl rfl rfl ?_
                      refine L_assign rfl rfl ?_
                      refine RL_nil' ?_
                      refine Nx_block ?_
                      refine Nx_then ?_
                      refine W_region ?_
                      refine L_move rfl rfl ?_
                      first | refine L_add rfl rfl rfl (wrp_i64 (by omega)) ?_ | refine L_add rfl rfl rfl rfl ?_
                      refine L_assign rfl rfl ?_
                      refine RL_nil' ?_
                      refine Nx_loopP (j + 1, fc + 1, _) (is := [1, 2, 8, 10, 11, 14, 15]) (I' := (fun (j : Nat) (fc : Nat) (w : World) => (j ≤ u.ts.length) ∧ (fc = (firm (u.ts.take j)).length) ∧ (HS w0 w (nbs B far v2 M3 ms3 ++ Mm))) (j + 1) (fc + 1) (_)) rfl rfl rfl ?_ ?_
                      · exact ⟨by omega, by rw [htk, firm_snoc_t hkd, List.length_append, ← hfc]; rfl, hs⟩
                      · omega
                    · refine W_seq ?_
                      refine W_seq ?_
                      refine W_region ?_
                      refine L_move rfl rfl ?_
                      refine L_move rfl rfl ?_
                      refine L_move rfl rfl ?_
                      refine L_idx1 rfl Try.underlying59 Try.ti38 rfl rfl (by with_reducible first | exact natc_k _ | exact natc_a1 _ | exact natc_0 | exact natc_1 | exact natc_2 | exact natc_s1 _ (by omega) | exact natc_a2 _ | exact natc_add _ _ | exact natc_mul _ _ | exact natc (by omega)) (by omega) (hTw.sl.ao (by rw [tvs_len]; omega)) ?_
                      refine L_load rfl Try.one38 rfl (by exact hTw.sl.get huv) ?_
                      refine L_len rfl Try.underlying38 rfl ?_
                      first | refine L_lss rfl rfl rfl (dtrue (by omega)) ?_ | refine L_lss rfl rfl rfl (dfalse (by omega)) ?_ | refine L_lss rfl rfl rfl rfl ?_
                      refine RL_then ?_
                      refine W_if_true rfl ?_
                      refine W_skip' ?_
                      refine Nx_then ?_
                      refine W_seq ?_
                      refine W_block ?_
                      refine W_seq ?_
                      refine W_region ?_
                      refine L_move rfl rfl ?_
                      refine L_move rfl rfl ?_
                      refine L_idx1 rfl Try.underlying59 Try.ti38 rfl rfl (by with_reducible first | exact natc_k _ | exact natc_a1 _ | exact natc_0 | exact natc_1 | exact natc_2 | exact natc_s1 _ (by omega) | exact natc_a2 _ | exact natc_add _ _ | exact natc_mul _ _ | exact natc (by omega)) (by omega) (hTw.sl.ao (by rw [tvs_len]; omega)) ?_
                      refine L_load rfl Try.one38 rfl (by exact hTw.sl.get huv) ?_
                      refine L_move rfl rfl ?_
                      refine L_idxN rfl Try.underlying38 Try.ti48 rfl rfl (by with_reducible first | exact natc_k _ | exact natc_a1 _ | exact natc_0 | exact natc_1 | exact natc_2 | exact natc_s1 _ (by omega) | exact natc_a2 _ | exact natc_add _ _ | exact natc_mul _ _ | exact natc (by omega)) (by omega) (huw.ao (by rw [tcs_len]; omega)) ?_
                      refine L_fieldAddr rfl (off := 1) Try.underlying48 rfl rfl Try.ti43 rfl ?_
                      refine L_load rfl Try.one43 rfl (by (rw [add_add]; exact huw.get (tcs_get (q := 1) hju (by rw [← hth]; rfl)))) ?_
                      first | refine L_eql rfl rfl rfl (dtrue (by omega)) ?_ | refine L_eql rfl rfl rfl (dfalse (by omega)) ?_ | refine L_eql rfl rfl rfl rfl ?_
                      refine RL_then ?_
                      refine W_if_false rfl ?_
                      refine W_skip' ?_
                      refine Nx_block ?_
                      refine Nx_then ?_
                      refine W_region ?_
                      refine L_move rfl rfl ?_
                      first | refine L_add rfl rfl rfl (wrp_i64 (by omega)) ?_ | refine L_add rfl rfl rfl rfl ?_
                      refine L_assign rfl rfl ?_
                      refine RL_nil' ?_
                      refine Nx_loopP (j + 1, fc, _) (is := [1, 2, 8, 10, 11, 14, 15]) (I' := (fun (j : Nat) (fc : Nat) (w : World) => (j ≤ u.ts.length) ∧ (fc = (firm (u.ts.take j)).length) ∧ (HS w0 w (nbs B far v2 M3 ms3 ++ Mm))) (j + 1) (fc) (_)) rfl rfl rfl ?_ ?_
                      · exact ⟨by omega, by rw [htk, firm_snoc_f hkd, ← hfc], hs⟩
                      · omega
                  · obtain rfl : j = u.ts.length := by omega
                    rw [List.take_of_length_le (Nat.le_refl _)] at hfc
                    rw [← hfc] at hc3
                    refine W_seq ?_
                    refine W_seq ?_
                    refine W_region ?_
                    refine L_move rfl rfl ?_
                    refine L_move rfl rfl ?_
                    refine L_move rfl rfl ?_
                    refine L_idx1 rfl Try.underlying59 Try.ti38 rfl rfl (by with_reducible first | exact natc_k _ | exact natc_a1 _ | exact natc_0 | exact natc_1 | exact natc_2 | exact natc_s1 _ (by omega) | exact natc_a2 _ | exact natc_add _ _ | exact natc_mul _ _ | exact natc (by omega)) (by omega) (hTw.sl.ao (by rw [tvs_len]; omega)) ?_
                    refine L_load rfl Try.one38 rfl (by exact hTw.sl.get huv) ?_
                    refine L_len rfl Try.underlying38 rfl ?_
                    first | refine L_lss rfl rfl rfl (dtrue (by omega)) ?_ | refine L_lss rfl rfl rfl (dfalse (by omega)) ?_ | refine L_lss rfl rfl rfl rfl ?_
                    refine RL_then ?_
                    refine W_if_false rfl ?_
                    refine W_exit' ?_
                    refine Ex_then_exit ?_
                    refine Ex_loop_exit ?_
                    refine Ex_block_hit ?_
                    refine Nx_then ?_
                    refine W_region ?_
                    refine L_move rfl rfl ?_
                    refine L_move rfl rfl ?_
                    refine L_buildSlice1 rfl hs Try.underlying60 Try.ti3 rfl (by decide) rfl rfl ?_
                    intro b92 w hb92 hnb92 hs
                    simp only [List.map_cons, List.map_nil] at hs
                    try dsimp only [List.set_cons_succ, List.set_cons_zero, List.cons_append, List.nil_append] at hs
                    replace hs : HS w0 w ((nbs B far v2 M3 ms3 ++ Mm) ++ [(b92, Row 3 [.int .i64 ((fc : Nat) : Int)])]) := hs
                    refine L_appendT (L := nbs B far v2 M3 ms3) (M := Mm) rfl Try.underlying60 Try.ti3 rfl hs hb92 hbm rfl rfl rfl (by simp [Value.oneCell']) (by omega) (by omega) ?_
                    intro v' w M' hs hbm'
                    refine L_assign rfl rfl ?_
                    refine RL_nil' ?_
                    refine Nx_block ?_
                    refine Nx_then ?_
                    refine W_region ?_
                    refine L_move rfl rfl ?_
                    first | refine L_add rfl rfl rfl (wrp_i64 (by omega)) ?_ | refine L_add rfl rfl rfl rfl ?_
                    refine L_assign rfl rfl ?_
                    refine RL_nil' ?_
                    refine Nx_loopP (i + 1, v2, M3, ms3, v', M', _) (is := [1, 2, 8, 10, 11]) (I' := (fun (i : Nat) (v1 : Value) (M : Bks) (ms : List RM) (vm : Value) (Mm : Bks) (w : World) => (i ≤ 8) ∧ (ms.length ≤ i) ∧ (NetOk w0 B v1 M ms) ∧ (Bl w0 3 1 vm ms.length (il (cntL (rds ms))) Mm) ∧ (HS w0 w (nbs B far v1 M ms ++ Mm))) (i + 1) (v2) (M3) (ms3) (v') (M') (_)) rfl rfl rfl ?_ ?_
                    · exact ⟨by omega, by omega, hN3, by rw [hc3, hml3]; exact hbm', hs⟩
                    · show 8 - (i + 1) < 8 - i; omega
            · refine L_move rfl rfl ?_
              refine L_move rfl rfl ?_
              refine L_len rfl Try.underlying59 rfl ?_
              first | refine L_lss rfl rfl rfl (dtrue (by omega)) ?_ | refine L_lss rfl rfl rfl (dfalse (by omega)) ?_ | refine L_lss rfl rfl rfl rfl ?_
              refine L_move rfl rfl ?_
              first | (refine RL_want rfl rfl ?_; refine L_move rfl rfl ?_) | refine RL_skip rfl rfl rfl rfl ?_ | refine RL_skipU rfl rfl rfl ?_
              first | (refine RL_want rfl rfl ?_; refine L_move rfl rfl ?_) | refine RL_skip rfl rfl rfl rfl ?_ | refine RL_skipU rfl rfl rfl ?_
              first | (refine RL_want rfl rfl ?_; refine L_idx1 rfl Try.underlying59 Try.ti38 rfl rfl (by with_reducible first | exact natc_k _ | exact natc_a1 _ | exact natc_0 | exact natc_1 | exact natc_2 | exact natc_s1 _ (by omega) | exact natc_a2 _ | exact natc_add _ _ | exact natc_mul _ _ | exact natc (by omega)) (by omega) (hTw.sl.ao (by rw [tvs_len]; omega)) ?_) | refine RL_skip rfl rfl rfl rfl ?_ | refine RL_skipU rfl rfl rfl ?_
              first | (refine RL_want rfl rfl ?_; refine L_load rfl Try.one38 rfl (by exact hTw.sl.get huv) ?_) | refine RL_skip rfl rfl rfl rfl ?_ | refine RL_skipU rfl rfl rfl ?_
              first | (refine RL_want rfl rfl ?_; refine L_len rfl Try.underlying38 rfl ?_) | refine RL_skip rfl rfl rfl rfl ?_ | refine RL_skipU rfl rfl rfl ?_
              first | (refine RL_want rfl rfl ?_; (first | refine L_leq rfl rfl rfl (dtrue (by omega)) ?_ | refine L_leq rfl rfl rfl (dfalse (by omega)) ?_ | refine L_leq rfl rfl rfl rfl ?_)) | refine RL_skip rfl rfl rfl rfl ?_ | refine RL_skipU rfl rfl rfl ?_
              first | refine L_pick_t rfl rfl rfl ?_ | refine L_pick_f rfl rfl rfl ?_
              refine L_move rfl rfl ?_
              first | (refine RL_want rfl rfl ?_; refine L_move rfl rfl ?_) | refine RL_skip rfl rfl rfl rfl ?_ | refine RL_skipU rfl rfl rfl ?_
              first | (refine RL_want rfl rfl ?_; refine L_move rfl rfl ?_) | refine RL_skip rfl rfl rfl rfl ?_ | refine RL_skipU rfl rfl rfl ?_
              first | (refine RL_want rfl rfl ?_; refine L_move rfl rfl ?_) | refine RL_skip rfl rfl rfl rfl ?_ | refine RL_skipU rfl rfl rfl ?_
              first | (refine RL_want rfl rfl ?_; refine L_move rfl rfl ?_) | refine RL_skip rfl rfl rfl rfl ?_ | refine RL_skipU rfl rfl rfl ?_
              first | (refine RL_want rfl rfl ?_; refine L_idx1 rfl Try.underlying59 Try.ti38 rfl rfl (by with_reducible first | exact natc_k _ | exact natc_a1 _ | exact natc_0 | exact natc_1 | exact natc_2 | exact natc_s1 _ (by omega) | exact natc_a2 _ | exact natc_add _ _ | exact natc_mul _ _ | exact natc (by omega)) (by omega) (hTw.sl.ao (by rw [tvs_len]; omega)) ?_) | refine RL_skip rfl rfl rfl rfl ?_ | refine RL_skipU rfl rfl rfl ?_
              first | (refine RL_want rfl rfl ?_; refine L_load rfl Try.one38 rfl (by exact hTw.sl.get huv) ?_) | refine RL_skip rfl rfl rfl rfl ?_ | refine RL_skipU rfl rfl rfl ?_
              refine RL_skip rfl rfl rfl rfl ?_
              first | (refine RL_want rfl rfl ?_; (first | refine L_eql rfl rfl rfl (dtrue (by omega)) ?_ | refine L_eql rfl rfl rfl (dfalse (by omega)) ?_ | refine L_eql rfl rfl rfl rfl ?_)) | refine RL_skip rfl rfl rfl rfl ?_ | refine RL_skipU rfl rfl rfl ?_
              first | refine L_pick_t rfl rfl rfl ?_ | refine L_pick_f rfl rfl rfl ?_
              refine RL_then ?_
              refine W_if_false rfl ?_
              refine W_skip' ?_
              refine Nx_then ?_
              refine W_region ?_
              refine L_move rfl rfl ?_
              refine L_move rfl rfl ?_
              refine L_buildSlice1 rfl hs Try.underlying60 Try.ti3 rfl (by decide) rfl rfl ?_
              intro b92 w hb92 hnb92 hs
              simp only [List.map_cons, List.map_nil] at hs
              try dsimp only [List.set_cons_succ, List.set_cons_zero, List.cons_append, List.nil_append] at hs
              replace hs : HS w0 w ((nbs B far v2 M2 ms1 ++ Mm) ++ [(b92, Row 3 [.int .i64 ((0 : Nat) : Int)])]) := hs
              refine L_appendT (L := nbs B far v2 M2 ms1) (M := Mm) rfl Try.underlying60 Try.ti3 rfl hs hb92 hbm rfl rfl rfl (by simp [Value.oneCell']) (by omega) (by omega) ?_
              intro v' w M' hs hbm'
              refine L_assign rfl rfl ?_
              refine RL_nil' ?_
              refine Nx_block ?_
              refine Nx_then ?_
              refine W_region ?_
              refine L_move rfl rfl ?_
              first | refine L_add rfl rfl rfl (wrp_i64 (by omega)) ?_ | refine L_add rfl rfl rfl rfl ?_
              refine L_assign rfl rfl ?_
              refine RL_nil' ?_
              refine Nx_loopP (i + 1, v2, M2, ms1, v', M', _) (is := [1, 2, 8, 10, 11]) (I' := (fun (i : Nat) (v1 : Value) (M : Bks) (ms : List RM) (vm : Value) (Mm : Bks) (w : World) => (i ≤ 8) ∧ (ms.length ≤ i) ∧ (NetOk w0 B v1 M ms) ∧ (Bl w0 3 1 vm ms.length (il (cntL (rds ms))) Mm) ∧ (HS w0 w (nbs B far v1 M ms ++ Mm))) (i + 1) (v2) (M2) (ms1) (v') (M') (_)) rfl rfl rfl ?_ ?_
              · exact ⟨by omega, by omega, hN2, by rw [hc1, hml1]; exact hbm', hs⟩
              · show 8 - (i + 1) < 8 - i; omega
          · refine L_move rfl rfl ?_
            refine L_move rfl rfl ?_
            refine L_len rfl Try.underlying59 rfl ?_
            first | refine L_lss rfl rfl rfl (dtrue (by omega)) ?_ | refine L_lss rfl rfl rfl (dfalse (by omega)) ?_ | refine L_lss rfl rfl rfl rfl ?_
            refine L_move rfl rfl ?_
            first | (refine RL_want rfl rfl ?_; refine L_move rfl rfl ?_) | refine RL_skip rfl rfl rfl rfl ?_ | refine RL_skipU rfl rfl rfl ?_
            first | (refine RL_want rfl rfl ?_; refine L_move rfl rfl ?_) | refine RL_skip rfl rfl rfl rfl ?_ | refine RL_skipU rfl rfl rfl ?_
            first | (refine RL_want rfl rfl ?_; refine L_idx1 rfl Try.underlying59 Try.ti38 rfl rfl (by with_reducible first | exact natc_k _ | exact natc_a1 _ | exact natc_0 | exact natc_1 | exact natc_2 | exact natc_s1 _ (by omega) | exact natc_a2 _ | exact natc_add _ _ | exact natc_mul _ _ | exact natc (by omega)) (by omega) (hTw.sl.ao (by rw [tvs_len]; omega)) ?_) | refine RL_skip rfl rfl rfl rfl ?_ | refine RL_skipU rfl rfl rfl ?_
            first | (refine RL_want rfl rfl ?_; refine L_load rfl Try.one38 rfl (by exact hTw.sl.get huv) ?_) | refine RL_skip rfl rfl rfl rfl ?_ | refine RL_skipU rfl rfl rfl ?_
            first | (refine RL_want rfl rfl ?_; refine L_len rfl Try.underlying38 rfl ?_) | refine RL_skip rfl rfl rfl rfl ?_ | refine RL_skipU rfl rfl rfl ?_
            first | (refine RL_want rfl rfl ?_; (first | refine L_leq rfl rfl rfl (dtrue (by omega)) ?_ | refine L_leq rfl rfl rfl (dfalse (by omega)) ?_ | refine L_leq rfl rfl rfl rfl ?_)) | refine RL_skip rfl rfl rfl rfl ?_ | refine RL_skipU rfl rfl rfl ?_
            first | refine L_pick_t rfl rfl rfl ?_ | refine L_pick_f rfl rfl rfl ?_
            refine L_move rfl rfl ?_
            first | (refine RL_want rfl rfl ?_; refine L_move rfl rfl ?_) | refine RL_skip rfl rfl rfl rfl ?_ | refine RL_skipU rfl rfl rfl ?_
            first | (refine RL_want rfl rfl ?_; refine L_move rfl rfl ?_) | refine RL_skip rfl rfl rfl rfl ?_ | refine RL_skipU rfl rfl rfl ?_
            first | (refine RL_want rfl rfl ?_; refine L_move rfl rfl ?_) | refine RL_skip rfl rfl rfl rfl ?_ | refine RL_skipU rfl rfl rfl ?_
            first | (refine RL_want rfl rfl ?_; refine L_move rfl rfl ?_) | refine RL_skip rfl rfl rfl rfl ?_ | refine RL_skipU rfl rfl rfl ?_
            first | (refine RL_want rfl rfl ?_; refine L_idx1 rfl Try.underlying59 Try.ti38 rfl rfl (by with_reducible first | exact natc_k _ | exact natc_a1 _ | exact natc_0 | exact natc_1 | exact natc_2 | exact natc_s1 _ (by omega) | exact natc_a2 _ | exact natc_add _ _ | exact natc_mul _ _ | exact natc (by omega)) (by omega) (hTw.sl.ao (by rw [tvs_len]; omega)) ?_) | refine RL_skip rfl rfl rfl rfl ?_ | refine RL_skipU rfl rfl rfl ?_
            first | (refine RL_want rfl rfl ?_; refine L_load rfl Try.one38 rfl (by exact hTw.sl.get huv) ?_) | refine RL_skip rfl rfl rfl rfl ?_ | refine RL_skipU rfl rfl rfl ?_
            refine RL_skip rfl rfl rfl rfl ?_
            first | (refine RL_want rfl rfl ?_; (first | refine L_eql rfl rfl rfl (dtrue (by omega)) ?_ | refine L_eql rfl rfl rfl (dfalse (by omega)) ?_ | refine L_eql rfl rfl rfl rfl ?_)) | refine RL_skip rfl rfl rfl rfl ?_ | refine RL_skipU rfl rfl rfl ?_
            first | refine L_pick_t rfl rfl rfl ?_ | refine L_pick_f rfl rfl rfl ?_
            refine RL_then ?_
            refine W_if_false rfl ?_
            refine W_skip' ?_
            refine Nx_then ?_
            refine W_region ?_
            refine L_move rfl rfl ?_
            refine L_move rfl rfl ?_
            refine L_buildSlice1 rfl hs Try.underlying60 Try.ti3 rfl (by decide) rfl rfl ?_
            intro b92 w hb92 hnb92 hs
            simp only [List.map_cons, List.map_nil] at hs
            try dsimp only [List.set_cons_succ, List.set_cons_zero, List.cons_append, List.nil_append] at hs
            replace hs : HS w0 w ((nbs B far v2 M2 ms1 ++ Mm) ++ [(b92, Row 3 [.int .i64 ((0 : Nat) : Int)])]) := hs
            refine L_appendT (L := nbs B far v2 M2 ms1) (M := Mm) rfl Try.underlying60 Try.ti3 rfl hs hb92 hbm rfl rfl rfl (by simp [Value.oneCell']) (by omega) (by omega) ?_
            intro v' w M' hs hbm'
            refine L_assign rfl rfl ?_
            refine RL_nil' ?_
            refine Nx_block ?_
            refine Nx_then ?_
            refine W_region ?_
            refine L_move rfl rfl ?_
            first | refine L_add rfl rfl rfl (wrp_i64 (by omega)) ?_ | refine L_add rfl rfl rfl rfl ?_
            refine L_assign rfl rfl ?_
            refine RL_nil' ?_
            refine Nx_loopP (i + 1, v2, M2, ms1, v', M', _) (is := [1, 2, 8, 10, 11]) (I' := (fun (i : Nat) (v1 : Value) (M : Bks) (ms : List RM) (vm : Value) (Mm : Bks) (w : World) => (i ≤ 8) ∧ (ms.length ≤ i) ∧ (NetOk w0 B v1 M ms) ∧ (Bl w0 3 1 vm ms.length (il (cntL (rds ms))) Mm) ∧ (HS w0 w (nbs B far v1 M ms ++ Mm))) (i + 1) (v2) (M2) (ms1) (v') (M') (_)) rfl rfl rfl ?_ ?_
            · exact ⟨by omega, by omega, hN2, by rw [hc1, hml1]; exact hbm', hs⟩
            · show 8 - (i + 1) < 8 - i; omega
        · clear hs; have hs := hs2; clear hs2
          refine L_move rfl rfl ?_
          refine L_extract rfl rfl rfl ?_
          refine L_extract rfl rfl rfl ?_
          refine L_assign rfl rfl ?_
          refine L_assign rfl rfl ?_
          refine RL_then ?_
          refine W_seq ?_
          refine W_seq ?_
          refine W_region ?_
          refine L_move rfl rfl ?_
          first | refine L_neq rfl rfl rfl (dtrue (by omega)) ?_ | refine L_neq rfl rfl rfl (dfalse (by omega)) ?_ | refine L_neq rfl rfl rfl rfl ?_
          refine RL_then ?_
          refine W_if_true rfl ?_
          refine W_exit' ?_
          refine Ex_then_exit ?_
          refine Ex_block_hit ?_
          refine Nx_then ?_
          refine W_region ?_
          refine L_move rfl rfl ?_
          first | refine L_add rfl rfl rfl (wrp_i64 (by omega)) ?_ | refine L_add rfl rfl rfl rfl ?_
          refine L_assign rfl rfl ?_
          refine RL_nil' ?_
          refine Nx_loopP (i + 1, v1, M, ms, vm, Mm, _) (is := [1, 2, 8, 10, 11]) (I' := (fun (i : Nat) (v1 : Value) (M : Bks) (ms : List RM) (vm : Value) (Mm : Bks) (w : World) => (i ≤ 8) ∧ (ms.length ≤ i) ∧ (NetOk w0 B v1 M ms) ∧ (Bl w0 3 1 vm ms.length (il (cntL (rds ms))) Mm) ∧ (HS w0 w (nbs B far v1 M ms ++ Mm))) (i + 1) (v1) (M) (ms) (vm) (Mm) (_)) rfl rfl rfl ?_ ?_
          · exact ⟨by omega, by omega, hN, hbm, hs⟩
          · show 8 - (i + 1) < 8 - i; omega
      · have hx : ¬ i < nS ∨ (i < nS ∧ ¬ i < 8) := by omega
        obtain ⟨va, vc, rfl, hvc⟩ := hbm.slice
        rcases hx with hx | ⟨hx1, hx2⟩
        · refine W_seq ?_
          refine W_seq ?_
          refine W_region ?_
          refine L_move rfl rfl ?_
          refine L_move rfl rfl ?_
          refine L_len rfl Try.underlying58 rfl ?_
          first | refine L_lss rfl rfl rfl (dtrue (by omega)) ?_ | refine L_lss rfl rfl rfl (dfalse (by omega)) ?_ | refine L_lss rfl rfl rfl rfl ?_
          refine L_move rfl rfl ?_
          first | (refine RL_want rfl rfl ?_; refine L_move rfl rfl ?_) | refine RL_skip rfl rfl rfl rfl ?_ | refine RL_skipU rfl rfl rfl ?_
          first | (refine RL_want rfl rfl ?_; (first | refine L_lss rfl rfl rfl (dtrue (by omega)) ?_ | refine L_lss rfl rfl rfl (dfalse (by omega)) ?_ | refine L_lss rfl rfl rfl rfl ?_)) | refine RL_skip rfl rfl rfl rfl ?_ | refine RL_skipU rfl rfl rfl ?_
          first | refine L_pick_t rfl rfl rfl ?_ | refine L_pick_f rfl rfl rfl ?_
          refine RL_then ?_
          refine W_if_false rfl ?_
          refine W_exit' ?_
          refine Ex_then_exit ?_
          refine Ex_loop_exit ?_
          refine Ex_block_hit ?_
          refine Nx_then ?_
          refine W_seq ?_
          refine W_region ?_
          refine L_move rfl rfl ?_
          refine L_move rfl rfl ?_
          refine L_assign rfl rfl ?_
          refine L_assign rfl rfl ?_
          refine RL_then ?_
          refine W_ret' ?_
          refine Ex_done2 rfl rfl rfl ?_
          exact ⟨_, rfl, .inr ⟨B, v1, M, ms, _, Mm, hf, rfl, hs, hN, hbm⟩⟩
        · refine W_seq ?_
          refine W_seq ?_
          refine W_region ?_
          refine L_move rfl rfl ?_
          refine L_move rfl rfl ?_
          refine L_len rfl Try.underlying58 rfl ?_
          first | refine L_lss rfl rfl rfl (dtrue (by omega)) ?_ | refine L_lss rfl rfl rfl (dfalse (by omega)) ?_ | refine L_lss rfl rfl rfl rfl ?_
          refine L_move rfl rfl ?_
          first | (refine RL_want rfl rfl ?_; refine L_move rfl rfl ?_) | refine RL_skip rfl rfl rfl rfl ?_ | refine RL_skipU rfl rfl rfl ?_
          first | (refine RL_want rfl rfl ?_; (first | refine L_lss rfl rfl rfl (dtrue (by omega)) ?_ | refine L_lss rfl rfl rfl (dfalse (by omega)) ?_ | refine L_lss rfl rfl rfl rfl ?_)) | refine RL_skip rfl rfl rfl rfl ?_ | refine RL_skipU rfl rfl rfl ?_
          first | refine L_pick_t rfl rfl rfl ?_ | refine L_pick_f rfl rfl rfl ?_
          refine RL_then ?_
          refine W_if_false rfl ?_
          refine W_exit' ?_
          refine Ex_then_exit ?_
          refine Ex_loop_exit ?_
          refine Ex_block_hit ?_
          refine Nx_then ?_
          refine W_seq ?_
          refine W_region ?_
          refine L_move rfl rfl ?_
          refine L_move rfl rfl ?_
          refine L_assign rfl rfl ?_
          refine L_assign rfl rfl ?_
          refine RL_then ?_
          refine W_ret' ?_
          refine Ex_done2 rfl rfl rfl ?_
          exact ⟨_, rfl, .inr ⟨B, v1, M, ms, _, Mm, hf, rfl, hs, hN, hbm⟩⟩
  · replace hs := hs.nil hs'
    clear hs'
    refine L_move rfl rfl ?_
    refine L_extract rfl rfl rfl ?_
    refine L_extract rfl rfl rfl ?_
    refine L_assign rfl rfl ?_
    refine L_assign rfl rfl ?_
    refine RL_then ?_
    refine W_seq ?_
    refine W_seq ?_
    refine W_region ?_
    refine L_move rfl rfl ?_
    first | refine L_neq rfl rfl rfl (dtrue (by omega)) ?_ | refine L_neq rfl rfl rfl (dfalse (by omega)) ?_ | refine L_neq rfl rfl rfl rfl ?_
    refine L_move rfl rfl ?_
    first | (refine RL_want rfl rfl ?_; refine L_move rfl rfl ?_) | refine RL_skip rfl rfl rfl rfl ?_ | refine RL_skipU rfl rfl rfl ?_
    first | (refine RL_want rfl rfl ?_; refine L_ptrNil rfl Try.underlying26 rfl rfl ?_) | refine RL_skip rfl rfl rfl rfl ?_ | refine RL_skipU rfl rfl rfl ?_
    first | refine L_pick_t rfl rfl rfl ?_ | refine L_pick_f rfl rfl rfl ?_
    refine RL_then ?_
    refine W_if_true rfl ?_
    refine W_seq ?_
    refine W_region ?_
    refine L_assign rfl rfl ?_
    refine L_assign rfl rfl ?_
    refine RL_then ?_
    refine W_ret' ?_
    refine Ex_then_ret ?_
    refine Ex_done2 rfl rfl rfl ?_
    exact ⟨_, rfl, .inl ⟨rfl, hs⟩⟩
end Go.Proofs.Ytknpoemkmcdgcaa
