/-
  A part of the proof: what functions that the statement reaches do, or a plain law on what they do. Each theorem holds under its own premises alone.
-/
import Derived.Test.YtknpoemkmcdgcaaTNL
namespace Go.Proofs.Ytknpoemkmcdgcaa
open Go Go.Lk
/-! ### A net that is made, in general: New, Add, Tell -/
def newE (far : Nat) : Int := if finB far then (if (FloatKind.f64.format.order far 4156822456062967808 == some .lt || FloatKind.f64.format.order far 5057542381537067008 == some .gt) then 2 else 0) else 6
theorem FarOk.of {far : Nat} (hlt : far < 18446744073709551616) (h : newE far = 0) : FarOk far := by
  unfold newE at h
  split at h
  · next hf =>
    split at h
    · exact absurd h (by decide)
    · next h2 =>
      rw [Bool.or_eq_true, not_or] at h2
      exact ⟨hlt, hf, by simpa using h2.1, by simpa using h2.2⟩
  · exact absurd h (by decide)
theorem finite1 (far : Nat) (w0 w : World) (b : Nat) (hs : HS w0 w [(b, Row 22 (fl [far]))]) (hlt : far < 18446744073709551616) :
    Ret Try.prog 30 [.slice (some ⟨b, 0, none⟩) 1 1] w fun v w' => v = .bool (finB far) ∧ HS w0 w' [(b, Row 22 (fl [far]))] := by
  have hx : SlC w (some ⟨b, 0, none⟩) (fl [far]) := SlC.of_row (sp := []) (hs.get (i := 0) rfl)
  refine Calls.mono (finite_ok (some ⟨b, 0, none⟩) 1 1 [far] w hx rfl (by decide) (fun i hi => by match i, hi with | 0, _ => exact hlt)) fun e w' => ?_
  rintro ⟨v, rfl, rfl, hs'⟩
  exact ⟨_, rfl, by simp, hs.nil hs'⟩
theorem newG (far : Nat) (w0 : World) (hlt : far < 18446744073709551616) :
    Ret Try.prog 12 [.float .f64 far] w0 fun v w' => (newE far = 0 ∧ ∃ B, v = .tuple #[.pointer (some ⟨B, 0, none⟩), .int .i64 0] ∧ HS w0 w' [(B, Row 76 [.float .f64 far, .slice none 0 0])] ∧ w0.heap.size ≤ B) ∨ (newE far ≠ 0 ∧ v = .tuple #[.pointer none, .int .i64 (newE far)] ∧ HS w0 w' []) := by
  by_cases h0 : newE far = 0
  · have hf := FarOk.of hlt h0
    refine Calls.mono (new_ok far w0 hlt hf.fin hf.low hf.high) fun e w' => ?_
    rintro ⟨v, rfl, B, rfl, hs, hB⟩
    exact ⟨_, rfl, .inl ⟨h0, B, rfl, hs, hB⟩⟩
  · refine Ret.start fun w hs => ?_
    refine calls_of_W Try.func12 rfl rfl rfl ?_
    refine W_seq ?_
    refine W_region ?_
    refine L_assign rfl rfl ?_
    refine L_assign rfl rfl ?_
    refine RL_then ?_
    refine W_seq ?_
    refine W_block ?_
    refine W_seq ?_
    refine W_region ?_
    refine L_move rfl rfl ?_
    refine L_buildSlice1 rfl hs Try.underlying106 Try.ti22 rfl (by decide) rfl rfl ?_
    intro b6 w hb6 hnb6 hs
    simp only [List.map_cons, List.map_nil] at hs
    try dsimp only [List.set_cons_succ, List.set_cons_zero, List.cons_append, List.nil_append] at hs
    refine L_call rfl Try.fun30 rfl (finite1 far w0 w b6 hs hlt) ?_
    rintro _ w ⟨rfl, hs'⟩
    replace hs := hs'.forget (Own.cons hb6 Own.nil)
    clear hs'
    cases hf : finB far
    · refine L_not rfl rfl ?_
      refine L_assign rfl rfl ?_
      refine RL_then ?_
      refine W_if_true rfl ?_
      refine W_seq ?_
      refine W_region ?_
      refine L_assign rfl rfl ?_
      refine L_assign rfl rfl ?_
      refine RL_then ?_
      refine W_ret' ?_
      refine Ex_block_ret ?_
      refine Ex_then_ret ?_
      refine Ex_done2 rfl rfl rfl ?_
      have e : newE far = 6 := by unfold newE; rw [hf, if_neg (by decide)]
      exact ⟨_, rfl, .inr ⟨h0, by rw [e], hs⟩⟩
    · have hr : (FloatKind.f64.format.order far 4156822456062967808 == some .lt || FloatKind.f64.format.order far 5057542381537067008 == some .gt) = true := by
        unfold newE at h0
        rw [hf, if_pos rfl] at h0
        cases h : (FloatKind.f64.format.order far 4156822456062967808 == some .lt || FloatKind.f64.format.order far 5057542381537067008 == some .gt) with
        | true => rfl
        | false => rw [h] at h0; exact absurd rfl h0
      have e : newE far = 2 := by unfold newE; rw [hf, if_pos rfl, hr, if_pos rfl]
      cases h1 : FloatKind.f64.format.order far 4156822456062967808 == some .lt
      · have h2 : (FloatKind.f64.format.order far 5057542381537067008 == some .gt) = true := by rw [h1, Bool.false_or] at hr; exact hr
        refine L_not rfl rfl ?_
        refine L_assign rfl rfl ?_
        refine RL_then ?_
        refine W_if_false rfl ?_
        refine W_seq ?_
        refine W_region ?_
        refine L_move rfl rfl ?_
        refine L_fcmp rfl rfl rfl (fun _ => by rw [binOp_float_cmp_lss, h1]; rfl) ?_
        refine L_move rfl rfl ?_
        first | (refine RL_want rfl rfl ?_; refine L_move rfl rfl ?_) | refine RL_skip rfl rfl rfl rfl ?_ | refine RL_skipU rfl rfl rfl ?_
        first | (refine RL_want rfl rfl ?_; refine L_fcmp rfl rfl rfl (fun _ => by rw [binOp_float_cmp_gtr, h2]; rfl) ?_) | refine RL_skip rfl rfl rfl rfl ?_ | refine RL_skipU rfl rfl rfl ?_
        first | refine L_pick_t rfl rfl rfl ?_ | refine L_pick_f rfl rfl rfl ?_
        refine L_assign rfl rfl ?_
        refine RL_then ?_
        refine W_if_true rfl ?_
        refine W_seq ?_
        refine W_region ?_
        refine L_assign rfl rfl ?_
        refine L_assign rfl rfl ?_
        refine RL_then ?_
        refine W_ret' ?_
        refine Ex_block_ret ?_
        refine Ex_then_ret ?_
        refine Ex_done2 rfl rfl rfl ?_
        exact ⟨_, rfl, .inr ⟨h0, by rw [e], hs⟩⟩
      · skip
        refine L_not rfl rfl ?_
        refine L_assign rfl rfl ?_
        refine RL_then ?_
        refine W_if_false rfl ?_
        refine W_seq ?_
        refine W_region ?_
        refine L_move rfl rfl ?_
        refine L_fcmp rfl rfl rfl (fun _ => by rw [binOp_float_cmp_lss, h1]; rfl) ?_
        refine L_move rfl rfl ?_
        first | (refine RL_want rfl rfl ?_; refine L_move rfl rfl ?_) | refine RL_skip rfl rfl rfl rfl ?_ | refine RL_skipU rfl rfl rfl ?_
        first | (refine RL_want rfl rfl ?_; refine L_fcmp rfl rfl rfl (fun _ => by rw [binOp_float_cmp_gtr]; rfl) ?_) | refine RL_skip rfl rfl rfl rfl ?_ | refine RL_skipU rfl rfl rfl ?_
        first | refine L_pick_t rfl rfl rfl ?_ | refine L_pick_f rfl rfl rfl ?_
        refine L_assign rfl rfl ?_
        refine RL_then ?_
        refine W_if_true rfl ?_
        refine W_seq ?_
        refine W_region ?_
        refine L_assign rfl rfl ?_
        refine L_assign rfl rfl ?_
        refine RL_then ?_
        refine W_ret' ?_
        refine Ex_block_ret ?_
        refine Ex_then_ret ?_
        refine Ex_done2 rfl rfl rfl ?_
        exact ⟨_, rfl, .inr ⟨h0, by rw [e], hs⟩⟩
structure RM where
  rd : Rd
  M : Bks
def rm0 : RM := ⟨rd0, []⟩
def RM.v (m : RM) : Value := .slice m.rd.a m.rd.ts.length m.rd.c
def rmb (ms : List RM) : Bks := ms.flatMap RM.M
def rds (ms : List RM) : List Rd := ms.map RM.rd
theorem rds_len (ms : List RM) : (rds ms).length = ms.length := List.length_map ..
abbrev nbs (B far : Nat) (v : Value) (M : Bks) (ms : List RM) : Bks := (B, Row 76 [.float .f64 far, v]) :: (M ++ rmb ms)
structure RM.ok (w0 : World) (m : RM) : Prop where
  bl : Bl w0 48 15 m.v m.rd.ts.length (tcs m.rd.ts) m.M
  len : m.rd.ts.length ≤ 256
  turn : m.rd.t < 18446744073709551616
structure NetOk (w0 : World) (B : Nat) (v : Value) (M : Bks) (ms : List RM) : Prop where
  own : w0.heap.size ≤ B
  bl : Bl w0 84 4 v ms.length (rcs (rds ms)) M
  each : ∀ m ∈ ms, m.ok w0
  len : ms.length ≤ 16
theorem rmb_own {w0 : World} {ms : List RM} (h : ∀ m ∈ ms, m.ok w0) : Own w0 (rmb ms) := fun p hp => by
  obtain ⟨m, hm, hp⟩ := List.mem_flatMap.1 hp
  exact (h m hm).bl.own p hp
theorem NetOk.owns {w0 : World} {B far : Nat} {v : Value} {M : Bks} {ms : List RM} (h : NetOk w0 B v M ms) : Own w0 (nbs B far v M ms) := Own.cons h.own (h.bl.own.app (rmb_own h.each))
theorem rds_get {ms : List RM} {i : Nat} (h : i < ms.length) : (rds ms).getD i rd0 = (ms.getD i rm0).rd := by
  unfold rds
  rw [List.getD_eq_getElem?_getD, List.getElem?_map, List.getElem?_eq_getElem h, List.getD_eq_getElem?_getD, List.getElem?_eq_getElem h]; rfl
/-- the net is there to be read -/
theorem NetOk.at {w0 w : World} {B far : Nat} {v : Value} {M L : Bks} {ms : List RM} (h : NetOk w0 B v M ms) (hs : HS w0 w L) (hL : ∀ p ∈ nbs B far v M ms, p ∈ L) : NetAt w B far (rds ms) := by
  have hB : (B, Row 76 [.float .f64 far, v]) ∈ L := hL _ (List.mem_cons_self ..)
  obtain ⟨a, c, hv, _⟩ := h.bl.slice
  refine ⟨Lk.cell_of_row (hs.has _ hB) rfl, ⟨a, c, ?_, ?_⟩, fun i hi => ?_⟩
  · rw [rds_len, ← hv]; exact Lk.cell_of_row (hs.has _ hB) rfl
  · have hb := h.bl
    rw [hv] at hb
    exact Bl.slcM hb hs (fun p hp => hL _ (List.mem_cons_of_mem _ (List.mem_append_left _ hp)))
  · rw [rds_len] at hi
    rw [rds_get hi]
    have hm : ms.getD i rm0 ∈ ms := getD_mem hi
    exact Bl.slcM (h.each _ hm).bl hs (fun p hp => hL _ (List.mem_cons_of_mem _ (List.mem_append_right _ (List.mem_flatMap.2 ⟨_, hm, hp⟩))))
theorem fusedG (w0 w : World) (B far : Nat) (v : Value) (M R : Bks) (ms : List RM) (hs : HS w0 w (nbs B far v M ms ++ R)) (hN : NetOk w0 B v M ms) (hf : FarOk far) :
    Ret Try.prog 22 [.pointer (some ⟨B, 0, none⟩)] w fun v9 w' => ∃ S fs Mo, FusTo far (rds ms) ms.length S ∧ fs.map Th.s = S.map prt ∧ Bl w0 64 5 v9 fs.length (fcs fs) Mo ∧ (∀ t ∈ fs, Bl w0 3 1 t.v t.seen.length (il t.seen) t.M) ∧ HS w0 w' ((nbs B far v M ms ++ R) ++ (Mo ++ fms fs)) ∧ fs.length ≤ 4096 ∧ ∀ t ∈ fs, t.seen.length ≤ 4097 := by
  refine Calls.mono (fused_ok B far (rds ms) w (hN.at hs (fun p hp => List.mem_append_left _ hp)) hf (by rw [rds_len]; exact hN.len) (fun i hi => ?_) (fun i hi => ?_)) fun e w' => ?_
  · rw [rds_len] at hi
    rw [rds_get hi]; exact (hN.each _ (getD_mem hi)).len
  · rw [rds_len] at hi
    rw [rds_get hi]; exact (hN.each _ (getD_mem hi)).turn
  · rintro ⟨v9, rfl, S, fs, Mo, hF, hm, hb, hfb, hs', h1, h2⟩
    rw [rds_len] at hF
    refine ⟨_, rfl, S, fs, Mo, hF, hm, hb.mono hs.size, fun t ht => (hfb t ht).mono hs.size, hs.call hs' (hb.own.app fun p hp => ?_), h1, h2⟩
    obtain ⟨t, ht, hp⟩ := List.mem_flatMap.1 hp
    exact (hfb t ht).own p hp
def addE (k x y t : Nat) : Int := if 16 ≤ k then 4 else if [x, y, t].all finB then 0 else 6
theorem rcs_app (rs us : List Rd) : rcs (rs ++ us) = rcs rs ++ rcs us := List.flatMap_append ..
theorem addG (w0 w : World) (B far : Nat) (v : Value) (M R : Bks) (ms : List RM) (x y t : Nat) (hs : HS w0 w (nbs B far v M ms ++ R)) (hN : NetOk w0 B v M ms)
    (hx : x < 18446744073709551616) (hy : y < 18446744073709551616) (ht : t < 18446744073709551616) :
    Ret Try.prog 20 [.pointer (some ⟨B, 0, none⟩), .agg #[.float .f64 x, .float .f64 y, .float .f64 t]] w fun r w' =>
      (addE ms.length x y t = 0 ∧ ∃ v' M', r = .tuple #[.int .i64 ms.length, .int .i64 0] ∧ HS w0 w' (nbs B far v' M' (ms ++ [⟨⟨x, y, t, none, 0, []⟩, []⟩]) ++ R) ∧ NetOk w0 B v' M' (ms ++ [⟨⟨x, y, t, none, 0, []⟩, []⟩])) ∨
      (addE ms.length x y t ≠ 0 ∧ r = .tuple #[.int .i64 0, .int .i64 (addE ms.length x y t)] ∧ HS w0 w' (nbs B far v M ms ++ R)) := by
  by_cases h0 : addE ms.length x y t = 0
  · have hk : ms.length < 16 := by
      unfold addE at h0
      split at h0
      · exact absurd h0 (by decide)
      · omega
    have hf : [x, y, t].all finB = true := by
      unfold addE at h0
      rw [if_neg (by omega)] at h0
      split at h0
      · assumption
      · exact absurd h0 (by decide)
    refine Calls.mono (add_ok w0 w B far ms.length v (rcs (rds ms)) M (rmb ms ++ R) x y t (HS.re hs (fun c => by simp only [List.map_append, List.map_cons, List.map_nil, List.sum_append, List.sum_cons, List.sum_nil]; omega)) hN.bl hk hx hy ht hf) fun e w' => ?_
    rintro ⟨r, rfl, v', M', rfl, hs', hb'⟩
    refine ⟨_, rfl, .inl ⟨h0, v', M', rfl, ?_, ?_⟩⟩
    · rw [nbs, show rmb (ms ++ [⟨⟨x, y, t, none, 0, []⟩, []⟩]) = rmb ms by simp [rmb]]
      exact HS.re hs' (fun c => by simp only [List.map_append, List.map_cons, List.map_nil, List.sum_append, List.sum_cons, List.sum_nil]; omega)
    · refine ⟨hN.own, ?_, fun m hm => (List.mem_append.1 hm).elim (hN.each m) fun h => ?_, by rw [List.length_append, List.length_singleton]; omega⟩
      · rw [List.length_append, show rcs (rds (ms ++ [⟨⟨x, y, t, none, 0, []⟩, []⟩])) = rcs (rds ms) ++ [.float .f64 x, .float .f64 y, .float .f64 t, .slice none 0 0] by simp [rds, rcs, Rd.cells]]
        exact hb'
      · rw [List.mem_singleton.1 h]
        exact ⟨.nil, Nat.zero_le _, ht⟩
  · have hb := hN.bl
    obtain ⟨ao, c, rfl, hkc⟩ := hb.slice
    have hlen := hN.len
    refine calls_of_W Try.func20 rfl rfl rfl ?_
    refine W_seq ?_
    refine W_region ?_
    refine L_box rfl hs rfl ?_
    intro b3 w hb3 hnb3 hs
    try dsimp only [List.set_cons_succ, List.set_cons_zero, List.cons_append, List.nil_append] at hs
    refine L_assign rfl rfl ?_
    refine L_assign rfl rfl ?_
    refine RL_then ?_
    refine W_seq ?_
    refine W_block ?_
    refine W_seq ?_
    refine W_region ?_
    replace hs : HS w0 w ((b3, Row 37 [.float .f64 x, .float .f64 y, .float .f64 t]) :: (nbs B far (.slice ao ms.length c) M ms ++ R)) := HS.push (L := nbs B far (.slice ao ms.length c) M ms ++ R) hs
    by_cases hk : 16 ≤ ms.length
    · have e : addE ms.length x y t = 4 := by unfold addE; rw [if_pos hk]
      refine L_move rfl rfl ?_
      refine L_ptrNil rfl Try.underlying26 rfl rfl ?_
      refine L_assign rfl rfl ?_
      refine RL_then ?_
      refine W_if_false rfl ?_
      refine W_seq ?_
      refine W_region ?_
      refine L_move rfl rfl ?_
      refine L_nilCheck rfl rfl ?_
      refine L_fieldAddr rfl (off := 1) Try.underlying76 rfl rfl Try.ti74 rfl ?_
      refine L_load rfl Try.one74 rfl (by first | exact hs.cell (i := 1) rfl rfl | exact hs.cell (i := 0) rfl rfl) ?_
      refine L_len rfl Try.underlying74 rfl ?_
      first | refine L_geq rfl rfl rfl (dtrue (by omega)) ?_ | refine L_geq rfl rfl rfl (dfalse (by omega)) ?_ | refine L_geq rfl rfl rfl rfl ?_
      refine L_assign rfl rfl ?_
      refine RL_then ?_
      refine W_if_true rfl ?_
      refine W_seq ?_
      refine W_region ?_
      refine L_assign rfl rfl ?_
      refine L_assign rfl rfl ?_
      refine RL_then ?_
      refine W_ret' ?_
      refine Ex_block_ret ?_
      refine Ex_then_ret ?_
      refine Ex_done2 rfl rfl rfl ?_
      refine ⟨_, rfl, .inr ⟨h0, by rw [e], HS.pop hs hb3⟩⟩
    · have hf : [x, y, t].all finB = false := by
        unfold addE at h0
        rw [if_neg hk] at h0
        cases h : [x, y, t].all finB with
        | false => rfl
        | true => rw [h] at h0; exact absurd rfl h0
      have e : addE ms.length x y t = 6 := by unfold addE; rw [if_neg hk, hf, if_neg (by decide)]
      refine L_move rfl rfl ?_
      refine L_ptrNil rfl Try.underlying26 rfl rfl ?_
      refine L_assign rfl rfl ?_
      refine RL_then ?_
      refine W_if_false rfl ?_
      refine W_seq ?_
      refine W_region ?_
      refine L_move rfl rfl ?_
      refine L_nilCheck rfl rfl ?_
      refine L_fieldAddr rfl (off := 1) Try.underlying76 rfl rfl Try.ti74 rfl ?_
      refine L_load rfl Try.one74 rfl (by first | exact hs.cell (i := 1) rfl rfl | exact hs.cell (i := 0) rfl rfl) ?_
      refine L_len rfl Try.underlying74 rfl ?_
      first | refine L_geq rfl rfl rfl (dtrue (by omega)) ?_ | refine L_geq rfl rfl rfl (dfalse (by omega)) ?_ | refine L_geq rfl rfl rfl rfl ?_
      refine L_assign rfl rfl ?_
      refine RL_then ?_
      refine W_if_false rfl ?_
      refine W_seq ?_
      refine W_region ?_
      refine L_fieldAddr rfl (off := 0) Try.underlying37 rfl rfl Try.ti35 rfl ?_
      refine L_fieldAddr rfl (off := 0) Try.underlying35 rfl rfl Try.ti22 rfl ?_
      refine L_load rfl Try.one22 rfl (by first | exact hs.cell (i := 1) rfl rfl | exact hs.cell (i := 0) rfl rfl) ?_
      refine L_fieldAddr rfl (off := 0) Try.underlying37 rfl rfl Try.ti35 rfl ?_
      refine L_fieldAddr rfl (off := 1) Try.underlying35 rfl rfl Try.ti22 rfl ?_
      refine L_load rfl Try.one22 rfl (by first | exact hs.cell (i := 1) rfl rfl | exact hs.cell (i := 0) rfl rfl) ?_
      refine L_fieldAddr rfl (off := 2) Try.underlying37 rfl rfl Try.ti22 rfl ?_
      refine L_load rfl Try.one22 rfl (by first | exact hs.cell (i := 1) rfl rfl | exact hs.cell (i := 0) rfl rfl) ?_
      refine L_buildSlice1 rfl hs Try.underlying106 Try.ti22 rfl (by decide) rfl rfl ?_
      intro b25 w hb25 hnb25 hs
      simp only [List.map_cons, List.map_nil] at hs
      try dsimp only [List.set_cons_succ, List.set_cons_zero, List.cons_append, List.nil_append] at hs
      replace hs : HS w0 w (((b3, Row 37 [.float .f64 x, .float .f64 y, .float .f64 t]) :: (nbs B far (.slice ao ms.length c) M ms ++ R)) ++ [(b25, Row 22 (fl [x, y, t]))]) := hs
      have hx' : SlC w (some ⟨b25, 0, none⟩) (fl [x, y, t]) := SlC.of_row (sp := []) (hs.has (b25, Row 22 (fl [x, y, t])) (List.mem_append_right _ (List.mem_cons_self ..)))
      replace hs := hs.dropR (Own.cons hb25 Own.nil)
      refine L_call rfl Try.fun30 rfl (finite_ok (some ⟨b25, 0, none⟩) 3 3 [x, y, t] w hx' rfl (by decide) (fun i hi => by match i, hi with | 0, _ => exact hx | 1, _ => exact hy | 2, _ => exact ht)) ?_
      rw [hf]
      rintro _ w1 ⟨rfl, hs'⟩
      replace hs := hs.nil hs'
      clear hx' hs'
      refine L_not rfl rfl ?_
      refine L_assign rfl rfl ?_
      refine RL_then ?_
      refine W_if_true rfl ?_
      refine W_seq ?_
      refine W_region ?_
      refine L_assign rfl rfl ?_
      refine L_assign rfl rfl ?_
      refine RL_then ?_
      refine W_ret' ?_
      refine Ex_block_ret ?_
      refine Ex_then_ret ?_
      refine Ex_done2 rfl rfl rfl ?_
      refine ⟨_, rfl, .inr ⟨h0, by rw [e], HS.pop hs hb3⟩⟩
/-! ### Tell -/
def finT (t : Tk) : Bool := [t.xx, t.xv, t.yx, t.yv].all finB
structure TkLt (t : Tk) : Prop where
  xx : t.xx < 18446744073709551616
  xv : t.xv < 18446744073709551616
  yx : t.yx < 18446744073709551616
  yv : t.yv < 18446744073709551616
def tellE (k : Nat) (q : Int) (ts : List Tk) : Int := if q < 0 ∨ (k : Int) ≤ q then 280 else if 256 < ts.length then 3 else if ts.all finT then 0 else 6
theorem delG (n : Nat) (v : Value) (ts : List Tk) (A M : Bks) (w0 w : World) (hs : HS w0 w (A ++ M)) (hb : Bl w0 48 15 v n (tcs ts) M) (hn : ts.length = n) (hn2 : n ≤ 1000000) :
    Ret Try.prog 39 [v, .func (.func 41) #[] #[]] w fun v' w' => ∃ M', HS w0 w' (A ++ M') ∧ Bl w0 48 15 v' (firm ts).length (tcs (firm ts)) M' := by
  rcases Nat.eq_zero_or_pos n with h0 | h0
  · have hts : ts = [] := List.eq_nil_of_length_eq_zero (by omega)
    obtain ⟨a, c, rfl, hc⟩ := hb.slice
    have hsx := hb.slc hs
    refine Calls.mono (delete_firm a n c ts w hsx hn hn2 (fun i hi => by omega)) fun e w' => ?_
    rintro ⟨r, rfl, rfl, hs'⟩
    refine ⟨_, rfl, M, hs.nil hs', ?_⟩
    subst hts
    show Bl w0 48 15 (.slice a n c) 0 (tcs []) M
    rw [h0] at hb ⊢; exact hb
  · obtain ⟨g, c, sp, rfl, rfl, hg, hl, hc⟩ := hb.own_row h0
    refine Calls.mono (delete_ok g n c ts sp A w0 w hs.rot hn hn2 hc) fun e w' => ?_
    rintro ⟨r, rfl, sp', rfl, hs', hl'⟩
    have hfl := firm_len ts
    exact ⟨_, rfl, _, HS.rot (A := [_]) hs', .row hg (tcs_len _) (hl'.trans hl) (by omega)⟩
theorem rmb_split {ms : List RM} {q : Nat} (h : q < ms.length) : rmb ms = rmb (ms.take q) ++ ((ms.getD q rm0).M ++ rmb (ms.drop (q + 1))) := by
  have e := congrArg rmb (split_at (d := rm0) h)
  exact e.trans (List.flatMap_append ..)
theorem rmb_set {ms : List RM} {q : Nat} (h : q < ms.length) (m : RM) : rmb (ms.set q m) = rmb (ms.take q) ++ (m.M ++ rmb (ms.drop (q + 1))) := by
  rw [List.set_eq_take_append_cons_drop, if_pos h]
  exact List.flatMap_append ..
theorem rcs_set {rs : List Rd} {q : Nat} (h : q < rs.length) (a : Option Addr) (c : Nat) (ts : List Tk) : (rcs rs).set (q * 4 + 3) (.slice a ts.length c) = rcs (rs.set q ⟨(rs.getD q rd0).x, (rs.getD q rd0).y, (rs.getD q rd0).t, a, c, ts⟩) := by
  have e : rcs rs = rcs (rs.take q) ++ ((rs.getD q rd0).cells ++ rcs (rs.drop (q + 1))) := (congrArg rcs (split_at (d := rd0) h)).trans (List.flatMap_append ..)
  have e2 : rs.set q ⟨(rs.getD q rd0).x, (rs.getD q rd0).y, (rs.getD q rd0).t, a, c, ts⟩ = rs.take q ++ ⟨(rs.getD q rd0).x, (rs.getD q rd0).y, (rs.getD q rd0).t, a, c, ts⟩ :: rs.drop (q + 1) := by rw [List.set_eq_take_append_cons_drop, if_pos h]
  rw [e, e2]
  have hl : (rcs (rs.take q)).length = q * 4 := by rw [rcs_len, List.length_take]; congr 1; omega
  rw [List.set_append_right _ _ (by omega), hl, Nat.add_sub_cancel_left]
  rw [rcs_app]; rfl
set_option maxHeartbeats 1000000 in
theorem tellW (w0 w : World) (B far k cc : Nat) (ao : Option Addr) (q : Int) (Y : Bks) (a : Option Addr) (n c : Nat) (ts : List Tk) (hs : HS w0 w ((B, Row 76 [.float .f64 far, .slice ao k cc]) :: Y)) (hk16 : k ≤ 16)
    (ho : Own w0 ((B, Row 76 [.float .f64 far, .slice ao k cc]) :: Y)) (hA : ∀ w' L', HS w0 w' L' → Own w0 L' → (∀ p ∈ (B, Row 76 [.float .f64 far, .slice ao k cc]) :: Y, p ∈ L') → SlC w' a (tcs ts)) (hn : ts.length = n) (hn2 : n ≤ 1000000000) (hlt : ∀ i, i < n → TkLt (ts.getD i tk0))
    (hY : ∀ q' : Nat, q = (q' : Int) → q' < k → ∃ g zs Z, ao = some ⟨g, 0, none⟩ ∧ Y = (g, Row 84 zs) :: Z ∧ q' * 4 + 3 < zs.length) :
    Ret Try.prog 21 [.pointer (some ⟨B, 0, none⟩), .int .i64 q, .slice a n c] w fun r w' => r = .int .i64 (tellE k q ts) ∧
      ((tellE k q ts ≠ 0 ∧ HS w0 w' ((B, Row 76 [.float .f64 far, .slice ao k cc]) :: Y)) ∨
       (tellE k q ts = 0 ∧ ∃ (q' g : Nat) (zs : List Value) (Z : Bks) (v2 : Value) (M2 : Bks), q = (q' : Int) ∧ q' < k ∧ ao = some ⟨g, 0, none⟩ ∧ Y = (g, Row 84 zs) :: Z ∧ HS w0 w' (((B, Row 76 [.float .f64 far, .slice ao k cc]) :: (g, Row 84 (zs.set (q' * 4 + 3) v2)) :: Z) ++ M2) ∧ Bl w0 48 15 v2 (firm ts).length (tcs (firm ts)) M2)) := by
  refine calls_of_W Try.func21 rfl rfl rfl ?_
  refine W_seq ?_
  refine W_region ?_
  refine L_assign rfl rfl ?_
  refine RL_then ?_
  refine W_seq ?_
  refine W_block ?_
  refine W_seq ?_
  refine W_region ?_
  refine L_move rfl rfl ?_
  refine L_ptrNil rfl Try.underlying26 rfl rfl ?_
  refine L_assign rfl rfl ?_
  refine RL_then ?_
  refine W_if_false rfl ?_
  by_cases hq : q < 0 ∨ (k : Int) ≤ q
  · have e : tellE k q ts = 280 := by unfold tellE; rw [if_pos hq]
    by_cases hq0 : q < 0
    · refine W_seq ?_
      refine W_region ?_
      refine L_move rfl rfl ?_
      first | refine L_lss rfl rfl rfl (dtrue (by omega)) ?_ | refine L_lss rfl rfl rfl (dfalse (by omega)) ?_ | refine L_lss rfl rfl rfl rfl ?_
      refine L_move rfl rfl ?_
      first | (refine RL_want rfl rfl ?_; refine L_move rfl rfl ?_) | refine RL_skip rfl rfl rfl rfl ?_ | refine RL_skipU rfl rfl rfl ?_
      first | (refine RL_want rfl rfl ?_; refine L_move rfl rfl ?_) | refine RL_skip rfl rfl rfl rfl ?_ | refine RL_skipU rfl rfl rfl ?_
      first | (refine RL_want rfl rfl ?_; refine L_nilCheck rfl rfl ?_) | refine RL_skip rfl rfl rfl rfl ?_ | refine RL_skipU rfl rfl rfl ?_
      first | (refine RL_want rfl rfl ?_; refine L_fieldAddr rfl (off := 1) Try.underlying76 rfl rfl Try.ti74 rfl ?_) | refine RL_skip rfl rfl rfl rfl ?_ | refine RL_skipU rfl rfl rfl ?_
      first | (refine RL_want rfl rfl ?_; refine L_load rfl Try.one74 rfl (by exact hs.cell (i := 0) rfl rfl) ?_) | refine RL_skip rfl rfl rfl rfl ?_ | refine RL_skipU rfl rfl rfl ?_
      first | (refine RL_want rfl rfl ?_; refine L_len rfl Try.underlying74 rfl ?_) | refine RL_skip rfl rfl rfl rfl ?_ | refine RL_skipU rfl rfl rfl ?_
      first | (refine RL_want rfl rfl ?_; (first | refine L_geq rfl rfl rfl (dtrue (by omega)) ?_ | refine L_geq rfl rfl rfl (dfalse (by omega)) ?_ | refine L_geq rfl rfl rfl rfl ?_)) | refine RL_skip rfl rfl rfl rfl ?_ | refine RL_skipU rfl rfl rfl ?_
      first | refine L_pick_t rfl rfl rfl ?_ | refine L_pick_f rfl rfl rfl ?_
      refine L_assign rfl rfl ?_
      refine RL_then ?_
      refine W_if_true rfl ?_
      refine W_seq ?_
      refine W_region ?_
      refine L_assign rfl rfl ?_
      refine RL_then ?_
      refine W_ret' ?_
      refine Ex_block_ret ?_
      refine Ex_then_ret ?_
      refine Ex_done1 rfl rfl ?_
      exact ⟨_, rfl, by rw [e], .inl ⟨by rw [e]; decide, hs⟩⟩
    · refine W_seq ?_
      refine W_region ?_
      refine L_move rfl rfl ?_
      first | refine L_lss rfl rfl rfl (dtrue (by omega)) ?_ | refine L_lss rfl rfl rfl (dfalse (by omega)) ?_ | refine L_lss rfl rfl rfl rfl ?_
      refine L_move rfl rfl ?_
      first | (refine RL_want rfl rfl ?_; refine L_move rfl rfl ?_) | refine RL_skip rfl rfl rfl rfl ?_ | refine RL_skipU rfl rfl rfl ?_
      first | (refine RL_want rfl rfl ?_; refine L_move rfl rfl ?_) | refine RL_skip rfl rfl rfl rfl ?_ | refine RL_skipU rfl rfl rfl ?_
      first | (refine RL_want rfl rfl ?_; refine L_nilCheck rfl rfl ?_) | refine RL_skip rfl rfl rfl rfl ?_ | refine RL_skipU rfl rfl rfl ?_
      first | (refine RL_want rfl rfl ?_; refine L_fieldAddr rfl (off := 1) Try.underlying76 rfl rfl Try.ti74 rfl ?_) | refine RL_skip rfl rfl rfl rfl ?_ | refine RL_skipU rfl rfl rfl ?_
      first | (refine RL_want rfl rfl ?_; refine L_load rfl Try.one74 rfl (by exact hs.cell (i := 0) rfl rfl) ?_) | refine RL_skip rfl rfl rfl rfl ?_ | refine RL_skipU rfl rfl rfl ?_
      first | (refine RL_want rfl rfl ?_; refine L_len rfl Try.underlying74 rfl ?_) | refine RL_skip rfl rfl rfl rfl ?_ | refine RL_skipU rfl rfl rfl ?_
      first | (refine RL_want rfl rfl ?_; (first | refine L_geq rfl rfl rfl (dtrue (by omega)) ?_ | refine L_geq rfl rfl rfl (dfalse (by omega)) ?_ | refine L_geq rfl rfl rfl rfl ?_)) | refine RL_skip rfl rfl rfl rfl ?_ | refine RL_skipU rfl rfl rfl ?_
      first | refine L_pick_t rfl rfl rfl ?_ | refine L_pick_f rfl rfl rfl ?_
      refine L_assign rfl rfl ?_
      refine RL_then ?_
      refine W_if_true rfl ?_
      refine W_seq ?_
      refine W_region ?_
      refine L_assign rfl rfl ?_
      refine RL_then ?_
      refine W_ret' ?_
      refine Ex_block_ret ?_
      refine Ex_then_ret ?_
      refine Ex_done1 rfl rfl ?_
      exact ⟨_, rfl, by rw [e], .inl ⟨by rw [e]; decide, hs⟩⟩
  · rw [not_or] at hq
    obtain ⟨q, rfl⟩ : ∃ q' : Nat, q = (q' : Int) := ⟨q.toNat, by omega⟩
    have hqk : q < k := by omega
    obtain ⟨g, zs, Z, rfl, rfl, hzl⟩ := hY q rfl hqk
    refine W_seq ?_
    refine W_region ?_
    refine L_move rfl rfl ?_
    first | refine L_lss rfl rfl rfl (dtrue (by omega)) ?_ | refine L_lss rfl rfl rfl (dfalse (by omega)) ?_ | refine L_lss rfl rfl rfl rfl ?_
    refine L_move rfl rfl ?_
    first | (refine RL_want rfl rfl ?_; refine L_move rfl rfl ?_) | refine RL_skip rfl rfl rfl rfl ?_ | refine RL_skipU rfl rfl rfl ?_
    first | (refine RL_want rfl rfl ?_; refine L_move rfl rfl ?_) | refine RL_skip rfl rfl rfl rfl ?_ | refine RL_skipU rfl rfl rfl ?_
    first | (refine RL_want rfl rfl ?_; refine L_nilCheck rfl rfl ?_) | refine RL_skip rfl rfl rfl rfl ?_ | refine RL_skipU rfl rfl rfl ?_
    first | (refine RL_want rfl rfl ?_; refine L_fieldAddr rfl (off := 1) Try.underlying76 rfl rfl Try.ti74 rfl ?_) | refine RL_skip rfl rfl rfl rfl ?_ | refine RL_skipU rfl rfl rfl ?_
    first | (refine RL_want rfl rfl ?_; refine L_load rfl Try.one74 rfl (by exact hs.cell (i := 0) rfl rfl) ?_) | refine RL_skip rfl rfl rfl rfl ?_ | refine RL_skipU rfl rfl rfl ?_
    first | (refine RL_want rfl rfl ?_; refine L_len rfl Try.underlying74 rfl ?_) | refine RL_skip rfl rfl rfl rfl ?_ | refine RL_skipU rfl rfl rfl ?_
    first | (refine RL_want rfl rfl ?_; (first | refine L_geq rfl rfl rfl (dtrue (by omega)) ?_ | refine L_geq rfl rfl rfl (dfalse (by omega)) ?_ | refine L_geq rfl rfl rfl rfl ?_)) | refine RL_skip rfl rfl rfl rfl ?_ | refine RL_skipU rfl rfl rfl ?_
    first | refine L_pick_t rfl rfl rfl ?_ | refine L_pick_f rfl rfl rfl ?_
    refine L_assign rfl rfl ?_
    refine RL_then ?_
    refine W_if_false rfl ?_
    by_cases hn3 : 256 < n
    · have e : tellE k q ts = 3 := by unfold tellE; rw [if_neg (by omega), if_pos (by omega)]
      refine W_seq ?_
      refine W_region ?_
      refine L_move rfl rfl ?_
      refine L_len rfl Try.underlying38 rfl ?_
      first | refine L_gtr rfl rfl rfl (dtrue (by omega)) ?_ | refine L_gtr rfl rfl rfl (dfalse (by omega)) ?_ | refine L_gtr rfl rfl rfl rfl ?_
      refine L_assign rfl rfl ?_
      refine RL_then ?_
      refine W_if_true rfl ?_
      refine W_seq ?_
      refine W_region ?_
      refine L_assign rfl rfl ?_
      refine RL_then ?_
      refine W_ret' ?_
      refine Ex_block_ret ?_
      refine Ex_then_ret ?_
      refine Ex_done1 rfl rfl ?_
      exact ⟨_, rfl, by rw [e], .inl ⟨by rw [e]; decide, hs⟩⟩
    · refine W_seq ?_
      refine W_region ?_
      refine L_move rfl rfl ?_
      refine L_len rfl Try.underlying38 rfl ?_
      first | refine L_gtr rfl rfl rfl (dtrue (by omega)) ?_ | refine L_gtr rfl rfl rfl (dfalse (by omega)) ?_ | refine L_gtr rfl rfl rfl rfl ?_
      refine L_assign rfl rfl ?_
      refine RL_then ?_
      refine W_if_false rfl ?_
      refine W_skip' ?_
      refine Nx_block ?_
      refine Nx_then ?_
      refine W_seq ?_
      refine W_seq ?_
      refine W_region ?_
      refine L_move rfl rfl ?_
      refine L_len rfl Try.underlying38 rfl ?_
      refine L_move rfl rfl ?_
      refine RL_then ?_
      refine W_block ?_
      obtain ⟨L, hL⟩ : ∃ L, L = (B, Row 76 [.float .f64 far, .slice (some ⟨g, 0, none⟩) k cc]) :: (g, Row 84 zs) :: Z := ⟨_, rfl⟩
      rw [← hL] at hs hA ho
      refine W_loop2 (fun (i : Nat) (w : World) => [(0, .pointer (some ⟨B, 0, none⟩)), (1, .int .i64 q), (2, .slice a n c), (28, .slice a n c), (29, .int .i64 n), (30, .int .i64 i)]) (fun (i : Nat) (w : World) => w) (fun (i : Nat) (w : World) => (i ≤ n) ∧ (∀ j, j < i → finT (ts.getD j tk0) = true) ∧ (HS w0 w L)) (fun (i : Nat) (w : World) => n - i) (0) (w) (is := [0, 1, 2, 28, 29, 30]) rfl rfl ?_ ?_
      · exact ⟨Nat.zero_le _, fun j hj => absurd hj (Nat.not_lt_zero _), hs⟩
      · clear hs
        intro i w hI
        show W _ _ _ _ [(0, .pointer (some ⟨B, 0, none⟩)), (1, .int .i64 q), (2, .slice a n c), (28, .slice a n c), (29, .int .i64 n), (30, .int .i64 i)] w
        obtain ⟨hi, hfi, hs⟩ := hI
        by_cases hil : i < n
        · have hA1 := hA w _ hs ho (fun _ h => h)
          obtain ⟨t, hth⟩ : ∃ t, t = ts.getD i tk0 := ⟨_, rfl⟩
          have htl := hlt i hil
          rw [← hth] at htl
          refine W_seq ?_
          refine W_region ?_
          first | refine L_lss rfl rfl rfl (dtrue (by omega)) ?_ | refine L_lss rfl rfl rfl (dfalse (by omega)) ?_ | refine L_lss rfl rfl rfl rfl ?_
          refine RL_then ?_
          refine W_seq ?_
          refine W_if_true rfl ?_
          refine W_skip' ?_
          refine Nx_then ?_
          refine W_seq ?_
          refine W_block ?_
          refine W_seq ?_
          refine W_region ?_
          refine L_idxN rfl Try.underlying38 Try.ti48 rfl rfl (by with_reducible first | exact natc_k _ | exact natc_a1 _ | exact natc_0 | exact natc_1 | exact natc_2 | exact natc_s1 _ (by omega) | exact natc_a2 _ | exact natc_add _ _ | exact natc_mul _ _ | exact natc (by omega)) (by omega) (hA1.ao (by rw [tcs_len]; omega)) ?_
          refine L_loadA rfl Try.agg48 Try.ti48 rfl (by exact hth ▸ tk_at hA1 (by omega)) ?_
          refine L_alloc rfl hs Try.ti48 ?_; intro b8 w hb8 _ hs; replace hs := HS.push hs
          refine L_storeA hs (i := 0) rfl Try.ti48 rfl rfl (by first | rfl | exact add_lit0 _ _ | exact Addr.add_lit .. | (rw [add_add]; exact add_lit0 _ _)) (by simp [Tk.cells]) (by exact Tk.one _) ?_
          intro w hs
          try dsimp only [List.set_cons_succ, List.set_cons_zero, List.cons_append, List.nil_append] at hs
          refine RL_then ?_
          refine W_seq ?_
          refine W_region ?_
          replace hs : HS w0 w ((b8, Row 48 t.cells) :: L) := hs
          refine L_fieldAddr rfl (off := 2) Try.underlying48 rfl rfl Try.ti45 rfl ?_
          refine L_fieldAddr rfl (off := 0) Try.underlying45 rfl rfl Try.ti22 rfl ?_
          refine L_load rfl Try.one22 rfl (by exact hs.cell (i := 0) rfl rfl) ?_
          refine L_fieldAddr rfl (off := 2) Try.underlying48 rfl rfl Try.ti45 rfl ?_
          refine L_fieldAddr rfl (off := 1) Try.underlying45 rfl rfl Try.ti22 rfl ?_
          refine L_load rfl Try.one22 rfl (by exact hs.cell (i := 0) rfl rfl) ?_
          refine L_fieldAddr rfl (off := 7) Try.underlying48 rfl rfl Try.ti45 rfl ?_
          refine L_fieldAddr rfl (off := 0) Try.underlying45 rfl rfl Try.ti22 rfl ?_
          refine L_load rfl Try.one22 rfl (by exact hs.cell (i := 0) rfl rfl) ?_
          refine L_fieldAddr rfl (off := 7) Try.underlying48 rfl rfl Try.ti45 rfl ?_
          refine L_fieldAddr rfl (off := 1) Try.underlying45 rfl rfl Try.ti22 rfl ?_
          refine L_load rfl Try.one22 rfl (by exact hs.cell (i := 0) rfl rfl) ?_
          refine L_buildSlice1 rfl hs Try.underlying106 Try.ti22 rfl (by decide) rfl rfl ?_
          intro b46 w hb46 hnb46 hs
          simp only [List.map_cons, List.map_nil] at hs
          try dsimp only [List.set_cons_succ, List.set_cons_zero, List.cons_append, List.nil_append] at hs
          replace hs : HS w0 w (((b8, Row 48 t.cells) :: L) ++ [(b46, Row 22 (fl [t.xx, t.xv, t.yx, t.yv]))]) := hs
          have hx : SlC w (some ⟨b46, 0, none⟩) (fl [t.xx, t.xv, t.yx, t.yv]) := SlC.of_row (sp := []) (hs.has (b46, Row 22 (fl [t.xx, t.xv, t.yx, t.yv])) (List.mem_append_right _ (List.mem_cons_self ..)))
          replace hs := hs.dropR (Own.cons hb46 Own.nil)
          replace hs := HS.pop hs hb8
          refine L_call rfl Try.fun30 rfl (finite_ok (some ⟨b46, 0, none⟩) 4 4 [t.xx, t.xv, t.yx, t.yv] w hx rfl (by decide) (fun z hz => by match z, hz with | 0, _ => exact htl.xx | 1, _ => exact htl.xv | 2, _ => exact htl.yx | 3, _ => exact htl.yv)) ?_
          rintro _ w1 ⟨rfl, hs'⟩
          replace hs := hs.nil hs'
          clear hs' hx
          by_cases hft : finT t = true
          · rw [show [t.xx, t.xv, t.yx, t.yv].all finB = true from hft]
            refine L_not rfl rfl ?_
            refine RL_then ?_
            refine W_if_false rfl ?_
            refine W_skip' ?_
            refine Nx_block ?_
            refine Nx_then ?_
            refine W_region ?_
            first | refine L_add rfl rfl rfl (wrp_i64 (by omega)) ?_ | refine L_add rfl rfl rfl rfl ?_
            refine L_move rfl rfl ?_
            refine RL_nil' ?_
            refine Nx_loopP (i + 1, _) (is := [0, 1, 2, 28, 29, 30]) (I' := (fun (i : Nat) (w : World) => (i ≤ n) ∧ (∀ j, j < i → finT (ts.getD j tk0) = true) ∧ (HS w0 w L)) (i + 1) (_)) rfl rfl rfl ?_ ?_
            · refine ⟨by omega, fun j hj => ?_, hs⟩
              by_cases hji : j = i
              · rw [hji, ← hth]; exact hft
              · exact hfi j (by omega)
            · omega
          · rw [show [t.xx, t.xv, t.yx, t.yv].all finB = false by cases h : finT t with | true => exact absurd h hft | false => exact h]
            have e : tellE k q ts = 6 := by
              unfold tellE
              rw [if_neg (by omega), if_neg (by omega), if_neg]
              intro h
              exact hft (List.all_eq_true.1 h t (by rw [hth]; exact getD_mem (by omega)))
            refine L_not rfl rfl ?_
            refine RL_then ?_
            refine W_if_true rfl ?_
            refine W_seq ?_
            refine W_region ?_
            refine L_assign rfl rfl ?_
            refine RL_then ?_
            refine W_ret' ?_
            refine Ex_block_ret ?_
            refine Ex_then_ret ?_
            refine Ex_loop_ret ?_
            refine Ex_block_ret ?_
            refine Ex_then_ret ?_
            refine Ex_done1 rfl rfl ?_
            exact ⟨_, rfl, by rw [e], .inl ⟨by rw [e]; decide, hL ▸ hs⟩⟩
        · obtain rfl : i = n := by omega
          have e : tellE k q ts = 0 := by
            unfold tellE
            rw [if_neg (by omega), if_neg (by omega), if_pos]
            rw [List.all_eq_true]
            intro t ht
            obtain ⟨j, hj, rfl⟩ := List.getElem_of_mem ht
            have := hfi j (by omega)
            rwa [List.getD_eq_getElem?_getD, List.getElem?_eq_getElem hj] at this
          refine W_seq ?_
          refine W_region ?_
          first | refine L_lss rfl rfl rfl (dtrue (by omega)) ?_ | refine L_lss rfl rfl rfl (dfalse (by omega)) ?_ | refine L_lss rfl rfl rfl rfl ?_
          refine RL_then ?_
          refine W_seq ?_
          refine W_if_false rfl ?_
          refine W_exit' ?_
          refine Ex_then_exit ?_
          refine Ex_loop_exit ?_
          refine Ex_block_hit ?_
          refine Nx_then ?_
          refine W_seq ?_
          refine W_sg Try.mixed ?_
          replace hs := hs.drewN 1
          refine SG_stage [0, 1, 2, 4, 5] [] [] (fun _ _ _ => False) (g' := 6) (by kernel_rfl) (by kernel_rfl) (fun _ _ _ _ _ h => h) hs ?_
          refine PL_val rfl (fun w => R_move rfl) ?_
          refine PL_val rfl (fun w => R_nilCheck rfl) ?_
          refine PL_val rfl (fun w => R_fieldAddr (off := 1) Try.underlying76 rfl rfl Try.ti74 rfl) ?_
          refine PL_val rfl (fun w => R_move rfl) ?_
          refine PL_val rfl (fun w => R_move rfl) ?_
          refine PL_end ?_
          refine HL_tail ?_
          intro w hs
          refine RL_sg ?_
          refine SG_join (g' := 3) (l' := #[true, true, true, true, true, true, true, true, false, false, false]) (fun S => ∀ (v3 : Value) (M3 : Bks) (w : World), (Bl w0 48 15 v3 (firm ts).length (tcs (firm ts)) M3) ∧ (HS w0 w (L ++ M3)) → S [(53, .slice (some ⟨g, 0, none⟩) k cc), (54, .int .i64 q), (57, v3)] w) ?_ ?_
          · intro fin
            refine SG_pick2 (i := 3) (l1 := #[true, true, true, true, true, true, false, false, false, false, false]) (j := 6) (l2 := #[true, true, true, false, true, true, true, false, false, false, false]) (by kernel_rfl) (by kernel_rfl) (by kernel_rfl) (by kernel_rfl) ?_ ?_
            · refine L_load rfl Try.one74 rfl (by exact hs.cell (i := 0) (by rw [hL]; rfl) rfl) ?_
              refine RL_sg ?_
              refine SG_pick1 (i := 6) (l1 := #[true, true, true, true, true, true, true, false, false, false, false]) (by kernel_rfl) (by kernel_rfl) (by kernel_rfl) ?_
              refine L_call rfl Try.fun40 rfl (clone_ok a i c ts w (hA _ _ hs ho (fun _ h => h)) hn (by omega)) ?_; rintro v2 w2 ⟨M2, hs', hb2⟩; replace hs' := hs.call hs' hb2.own; replace hb2 := hb2.mono hs.size; clear hs; have hs := hs'; clear hs'
              refine RL_sg ?_
              refine SG_pick1 (i := 7) (l1 := #[true, true, true, true, true, true, true, true, false, false, false]) (by kernel_rfl) (by kernel_rfl) (by kernel_rfl) ?_
              refine L_call rfl Try.fun39 rfl (delG i v2 ts _ _ _ _ hs hb2 hn (by omega)) ?_; rintro v3 w3 ⟨M3, hs', hb3⟩; clear hs; have hs := hs'; clear hs'
              refine RL_sg ?_
              refine SG_env (fin _ M3 _ ⟨hb3, hs⟩) (looks_cons rfl (looks_cons rfl (looks_cons rfl looks_nil)))
            · refine L_call rfl Try.fun40 rfl (clone_ok a i c ts w (hA _ _ hs ho (fun _ h => h)) hn (by omega)) ?_; rintro v2 w2 ⟨M2, hs', hb2⟩; replace hs' := hs.call hs' hb2.own; replace hb2 := hb2.mono hs.size; clear hs; have hs := hs'; clear hs'
              refine RL_sg ?_
              refine SG_pick2 (i := 3) (l1 := #[true, true, true, true, true, true, true, false, false, false, false]) (j := 7) (l2 := #[true, true, true, false, true, true, true, true, false, false, false]) (by kernel_rfl) (by kernel_rfl) (by kernel_rfl) (by kernel_rfl) ?_ ?_
              · refine L_load rfl Try.one74 rfl (by exact hs.cell (i := 0) (by rw [hL]; rfl) rfl) ?_
                refine RL_sg ?_
                refine SG_pick1 (i := 7) (l1 := #[true, true, true, true, true, true, true, true, false, false, false]) (by kernel_rfl) (by kernel_rfl) (by kernel_rfl) ?_
                refine L_call rfl Try.fun39 rfl (delG i v2 ts _ _ _ _ hs hb2 hn (by omega)) ?_; rintro v3 w3 ⟨M3, hs', hb3⟩; clear hs; have hs := hs'; clear hs'
                refine RL_sg ?_
                refine SG_env (fin _ M3 _ ⟨hb3, hs⟩) (looks_cons rfl (looks_cons rfl (looks_cons rfl looks_nil)))
              · refine L_call rfl Try.fun39 rfl (delG i v2 ts _ _ _ _ hs hb2 hn (by omega)) ?_; rintro v3 w3 ⟨M3, hs', hb3⟩; clear hs; have hs := hs'; clear hs'
                refine RL_sg ?_
                refine SG_pick1 (i := 3) (l1 := #[true, true, true, true, true, true, true, true, false, false, false]) (by kernel_rfl) (by kernel_rfl) (by kernel_rfl) ?_
                refine L_load rfl Try.one74 rfl (by exact hs.cell (i := 0) (by rw [hL]; rfl) rfl) ?_
                refine RL_sg ?_
                refine SG_env (fin _ M3 _ ⟨hb3, hs⟩) (looks_cons rfl (looks_cons rfl (looks_cons rfl looks_nil)))
          · clear hs
            intro v3 M3 w hI
            show SG _ _ _ _ _ _ [(53, .slice (some ⟨g, 0, none⟩) k cc), (54, .int .i64 q), (57, v3)] w
            obtain ⟨hb3, hs⟩ := hI
            obtain ⟨a3, c3, rfl, hc3⟩ := hb3.slice
            rw [hL] at hs
            refine SG_pick1 (i := 8) (l1 := #[true, true, true, true, true, true, true, true, true, false, false]) (by kernel_rfl) (by kernel_rfl) (by kernel_rfl) ?_
            refine L_idxN rfl Try.underlying74 Try.ti84 rfl rfl (by with_reducible first | exact natc_k _ | exact natc_a1 _ | exact natc_0 | exact natc_1 | exact natc_2 | exact natc_s1 _ (by omega) | exact natc_a2 _ | exact natc_add _ _ | exact natc_mul _ _ | exact natc (by omega)) (by omega) rfl ?_
            refine RL_sg ?_
            refine SG_pick1 (i := 9) (l1 := #[true, true, true, true, true, true, true, true, true, true, false]) (by kernel_rfl) (by kernel_rfl) (by kernel_rfl) ?_
            refine L_fieldAddr rfl (off := 3) Try.underlying84 rfl rfl Try.ti38 rfl ?_
            refine RL_sg ?_
            refine SG_pick1 (i := 10) (l1 := #[true, true, true, true, true, true, true, true, true, true, true]) (by kernel_rfl) (by kernel_rfl) (by kernel_rfl) ?_
            refine L_store hs (i := 1) rfl Try.ti38 rfl rfl (by first | rfl | exact add_lit0 _ _ | exact Addr.add_lit .. | (rw [add_add]; exact add_lit0 _ _)) (by omega) rfl ?_
            intro w hs
            try dsimp only [List.set_cons_succ, List.set_cons_zero, List.cons_append, List.nil_append] at hs
            refine RL_sg ?_
            refine SG_end (by kernel_rfl) ?_
            refine Nx_then ?_
            refine W_seq ?_
            refine W_region ?_
            refine L_assign rfl rfl ?_
            refine RL_then ?_
            refine W_ret' ?_
            refine Ex_done1 rfl rfl ?_
            exact ⟨_, rfl, by rw [e], .inr ⟨e, q, g, zs, Z, _, M3, rfl, hqk, rfl, rfl, hs, hb3⟩⟩
theorem tellG (w0 w : World) (B far : Nat) (v : Value) (M R : Bks) (ms : List RM) (q : Int) (a : Option Addr) (n c : Nat) (ts : List Tk) (hs : HS w0 w (nbs B far v M ms ++ R)) (hN : NetOk w0 B v M ms)
    (hoR : Own w0 R) (hA : ∀ w' L', HS w0 w' L' → Own w0 L' → (∀ p ∈ nbs B far v M ms ++ R, p ∈ L') → SlC w' a (tcs ts)) (hn : ts.length = n) (hn2 : n ≤ 1000000000) (hlt : ∀ i, i < n → TkLt (ts.getD i tk0)) :
    Ret Try.prog 21 [.pointer (some ⟨B, 0, none⟩), .int .i64 q, .slice a n c] w fun r w' => r = .int .i64 (tellE ms.length q ts) ∧
      ((tellE ms.length q ts ≠ 0 ∧ HS w0 w' (nbs B far v M ms ++ R)) ∨
       (tellE ms.length q ts = 0 ∧ ∃ (q' : Nat) (a3 : Option Addr) (c3 : Nat) (M' : Bks) (ms' : List RM), q = (q' : Int) ∧ q' < ms.length ∧ HS w0 w' (nbs B far v M' ms' ++ R) ∧ NetOk w0 B v M' ms' ∧
          rds ms' = (rds ms).set q' ⟨((rds ms).getD q' rd0).x, ((rds ms).getD q' rd0).y, ((rds ms).getD q' rd0).t, a3, c3, firm ts⟩)) := by
  obtain ⟨ao, cc, rfl, hkc⟩ := hN.bl.slice
  have hY : ∀ q' : Nat, q = (q' : Int) → q' < ms.length → ∃ g zs Z, ao = some ⟨g, 0, none⟩ ∧ (M ++ rmb ms) ++ R = (g, Row 84 zs) :: Z ∧ q' * 4 + 3 < zs.length := fun q' _ hq' => by
    obtain ⟨g, cap, sp, hv, rfl, hg, hl, hc⟩ := hN.bl.own_row (by omega)
    injection hv with h1 _ _
    exact ⟨g, _, rmb ms ++ R, h1, rfl, by rw [hl]; omega⟩
  refine Calls.mono (tellW w0 w B far ms.length cc ao q ((M ++ rmb ms) ++ R) a n c ts hs hN.len (hN.owns.app hoR) hA hn hn2 hlt hY) fun e w' => ?_
  rintro ⟨r, rfl, rfl, h | ⟨h0, q', g, zs, Z, v2, M2, rfl, hq', rfl, hYe, hs', hb2⟩⟩
  · exact ⟨_, rfl, rfl, .inl h⟩
  · obtain ⟨g', cap, sp, hv, hM, hg, hl, hc⟩ := hN.bl.own_row (by omega)
    subst hM
    injection hYe with h1 h2
    rw [Prod.mk.injEq] at h1
    obtain ⟨rfl, h1⟩ := h1
    have hz : zs = rcs (rds ms) ++ sp := by
      injection h1 with h1
      exact (congrArg Array.toList h1).symm
    obtain ⟨a3, c3, rfl, hc3⟩ := hb2.slice
    have hql : q' < (rds ms).length := by rw [rds_len]; exact hq'
    obtain ⟨m, hme⟩ : ∃ m, m = RM.mk ⟨((rds ms).getD q' rd0).x, ((rds ms).getD q' rd0).y, ((rds ms).getD q' rd0).t, a3, c3, firm ts⟩ M2 := ⟨_, rfl⟩
    have hmok : m.ok w0 := by
      rw [hme]
      refine ⟨hb2, ?_, ?_⟩
      · have : ts.length ≤ 256 := by
          unfold tellE at h0
          split at h0
          · exact absurd h0 (by decide)
          · split at h0
            · exact absurd h0 (by decide)
            · omega
        have := firm_len ts
        show (firm ts).length ≤ 256
        omega
      · show ((rds ms).getD q' rd0).t < _
        rw [rds_get hq']
        exact (hN.each _ (getD_mem hq')).turn
    have hrd : rds (ms.set q' m) = (rds ms).set q' m.rd := by unfold rds; rw [List.map_set]
    have hzs : zs.set (q' * 4 + 3) (.slice a3 (firm ts).length c3) = rcs (rds (ms.set q' m)) ++ sp := by
      rw [hz, List.set_append_left _ _ (by rw [rcs_len]; omega), rcs_set hql, hrd, hme]
    refine ⟨_, rfl, rfl, .inr ⟨h0, q', a3, c3, [(g', Row 84 (rcs (rds (ms.set q' m)) ++ sp))], ms.set q' m, rfl, hq', ?_, ?_, by rw [hrd, hme]⟩⟩
    · rw [hzs] at hs'
      have hsp := rmb_split hq'
      have e2 := rmb_set hq' m
      have hM2 : m.M = M2 := by rw [hme]
      rw [nbs, e2, hM2]
      replace hs' : HS w0 w' (((B, Row 76 [.float .f64 far, .slice (some ⟨g', 0, none⟩) ms.length cc]) :: (g', Row 84 (rcs (rds (ms.set q' m)) ++ sp)) :: ((rmb (ms.take q') ++ ((ms.getD q' rm0).M ++ rmb (ms.drop (q' + 1)))) ++ R)) ++ M2) := by
        rw [← hsp, show rmb ms ++ R = Z from h2]; exact hs'
      exact HS.dropR (M := (ms.getD q' rm0).M) (HS.re hs' (fun c => by simp only [List.map_append, List.map_cons, List.map_nil, List.sum_append, List.sum_cons, List.sum_nil]; omega)) (hN.each _ (getD_mem hq')).bl.own
    · refine ⟨hN.own, ?_, fun u hu => ?_, by rw [List.length_set]; exact hN.len⟩
      · rw [List.length_set]
        injection hv with hv1 _ hv3
        rw [hv3]
        refine .row hg (by rw [rcs_len, rds_len, List.length_set]) ?_ hc
        rw [← hl, List.length_append, List.length_append, rcs_len, rcs_len, rds_len, rds_len, List.length_set]
      · rcases List.mem_or_eq_of_mem_set hu with h1 | h1
        · exact hN.each u h1
        · rw [h1]; exact hmok
end Go.Proofs.Ytknpoemkmcdgcaa
