/-
  A part of the proof: what functions that the statement reaches do, or a plain law on what they do. Each theorem holds under its own premises alone.
-/
import Derived.Test.YtcfdmenmlemahaaTG12
import Derived.Test.YtcfdmenmlemahaaKit
import Derived.Test.YtcfdmenmlemahaaTYT
namespace Go.Proofs.Ytcfdmenmlemahaa
open Go Go.Lk Go.Pr
/-! ### Tables in new memory -/
inductive RB (p : Value → List Int → List (Nat × Obj) → Prop) : List Value → List (List Int) → List (Nat × Obj) → Prop
  | nil : RB p [] [] []
  | cons {v : Value} {r : List Int} {M : List (Nat × Obj)} {vs : List Value} {rs : List (List Int)} {Ms : List (Nat × Obj)} (h : p v r M) (t : RB p vs rs Ms) : RB p (v :: vs) (r :: rs) (M ++ Ms)
/-- a row that grew in new memory -/
def pB (w0 : World) (v : Value) (r : List Int) (M : List (Nat × Obj)) : Prop := Bl w0 2 1 v r.length (il r) M
/-- a row whose spare room is marked -/
def p77 (w0 : World) (v : Value) (r : List Int) (M : List (Nat × Obj)) : Prop := ∃ g cap sp, v = .slice (some ⟨g, 0, none⟩) r.length cap ∧ M = [(g, Row 2 (il r ++ .int .i64 77 :: sp))] ∧ w0.heap.size ≤ g ∧ r.length + 1 + sp.length = cap
section
variable {p q : Value → List Int → List (Nat × Obj) → Prop} {vs : List Value} {rs : List (List Int)} {Ms : List (Nat × Obj)} {w0 : World}
theorem p77.bl {v : Value} {r : List Int} {M : List (Nat × Obj)} (h : p77 w0 v r M) : pB w0 v r M := by
  obtain ⟨g, cap, sp, rfl, rfl, hg, hc⟩ := h
  exact .row hg (by simp) (by simp; omega) (by omega)
theorem RB.imp (h : RB p vs rs Ms) (hpq : ∀ v r M, p v r M → q v r M) : RB q vs rs Ms := by
  induction h with
  | nil => exact .nil
  | cons h1 _ ih => exact .cons (hpq _ _ _ h1) ih
theorem RB.snoc (h : RB p vs rs Ms) {v : Value} {r : List Int} {M : List (Nat × Obj)} (hv : p v r M) : RB p (vs ++ [v]) (rs ++ [r]) (Ms ++ M) := by
  induction h with
  | nil => simpa using RB.cons hv .nil
  | cons h1 _ ih => simpa [List.append_assoc] using RB.cons h1 ih
theorem RB.len (h : RB p vs rs Ms) : vs.length = rs.length := by induction h <;> simp [*]
theorem RB.own (h : RB (pB w0) vs rs Ms) : Own w0 Ms := by
  induction h with
  | nil => exact Own.nil
  | cons h1 _ ih => exact (Bl.own h1).app ih
theorem RB.mono {w : World} (h : RB (pB w) vs rs Ms) (hle : w0.heap.size ≤ w.heap.size) : RB (pB w0) vs rs Ms := h.imp fun _ _ _ h1 => Bl.mono h1 hle
theorem p77.mono {w : World} {v : Value} {r : List Int} {M : List (Nat × Obj)} (h : p77 w v r M) (hle : w0.heap.size ≤ w.heap.size) : p77 w0 v r M := by
  obtain ⟨g, cap, sp, h1, h2, h3, h4⟩ := h
  exact ⟨g, cap, sp, h1, h2, Nat.le_trans hle h3, h4⟩
theorem RB.at (h : RB p vs rs Ms) : ∀ i, i < rs.length → ∃ v M Mr, vs[i]? = some v ∧ p v (rs.getD i []) M ∧ Ms.Perm (Mr ++ M) ∧ ∀ v' r' M', p v' r' M' → ∃ Ms', RB p (vs.set i v') (rs.set i r') Ms' ∧ Ms'.Perm (Mr ++ M') := by
  induction h with
  | nil => intro i hi; simp at hi
  | @cons v r M vs rs Ms h1 t ih =>
    intro i hi
    cases i with
    | zero => exact ⟨v, M, Ms, by simp, by simpa using h1, List.perm_append_comm, fun v' r' M' h' => ⟨M' ++ Ms, by simpa using RB.cons h' t, List.perm_append_comm⟩⟩
    | succ i =>
      obtain ⟨v1, M1, Mr, h2, h3, h4, h5⟩ := ih i (by simpa using hi)
      refine ⟨v1, M1, M ++ Mr, by simpa using h2, by simpa using h3, by rw [List.append_assoc]; exact List.Perm.append_left M h4, fun v' r' M' h' => ?_⟩
      obtain ⟨Ms', h6, h7⟩ := h5 v' r' M' h'
      exact ⟨M ++ Ms', by simpa using RB.cons h1 h6, by rw [List.append_assoc]; exact List.Perm.append_left M h7⟩
theorem RB.nils (n : Nat) : RB (pB w0) (List.replicate n (.slice none 0 0)) (List.replicate n []) [] := by
  induction n with
  | zero => exact .nil
  | succ n ih => exact RB.cons (M := []) Bl.nil ih
/-- Read in a world that holds them. -/
theorem RB.row {w : World} {L : List (Nat × Obj)} (h : RB (pB w0) vs rs Ms) (hs : HS w0 w (L ++ Ms)) : ∀ i, i < rs.length → ∃ ai ci, vs[i]? = some (.slice ai (rs.getD i []).length ci) ∧ (rs.getD i []).length ≤ ci ∧ SlC w ai (il (rs.getD i [])) := by
  intro i hi
  obtain ⟨v, M, Mr, h1, h2, h3, _⟩ := h.at i hi
  obtain ⟨a, c, rfl, hac⟩ := Bl.slice h2
  refine ⟨a, c, h1, hac, ?_⟩
  exact Bl.slc (L := L ++ Mr) h2 (hs.mem_perm (by rw [List.append_assoc]; exact List.Perm.append_left L h3))
theorem RB.rowsI {w : World} {L : List (Nat × Obj)} {a : Option Addr} (h : RB (pB w0) vs rs Ms) (hs : HS w0 w (L ++ Ms)) (ha : SlC w a vs) (hl : ∀ i, i < rs.length → (rs.getD i []).length ≤ 17592186043904) : RowsI w a rs vs :=
  ⟨ha, h.len, fun i hi => let ⟨ai, ci, h1, h2, h3⟩ := h.row hs i hi; ⟨ai, ci, h1, h2, hl i hi, h3⟩⟩
end
theorem take_snoc {α : Type} {l : List α} {i : Nat} {d : α} (h : i < l.length) : l.take (i + 1) = l.take i ++ [l.getD i d] := by
  rw [List.take_add_one]; simp [List.getD, h]
theorem own_ok (a : Option Addr) (k cp : Nat) (rows : List (List Int)) (rvs : List Value) (w0 : World) (hr : RowsI w0 a rows rvs) (hk : rows.length = k) (hk2 : k ≤ 1000000) (hlen : ∀ i, i < k → (rows.getD i []).length ≤ 1000000) :
    Ret Try.prog 14 [.slice a k cp] w0 fun v w' => ∃ vs Mo Ms, HS w0 w' (Mo ++ Ms) ∧ Bl w0 38 1 v k vs Mo ∧ RB (p77 w0) vs rows Ms := by
  refine Ret.start fun w hs => ?_
  have hrl := hr.len
  refine calls_of_W Try.func14 rfl rfl rfl ?_
  refine W_seq ?_
  refine W_region ?_
  refine L_assign rfl rfl ?_
  refine RL_then ?_
  refine W_seq ?_
  refine W_region ?_
  refine L_move rfl rfl ?_
  refine L_len rfl Try.underlying22 rfl ?_
  first | refine L_add rfl rfl rfl (wrp_i64 (by omega)) ?_ | refine L_add rfl rfl rfl rfl ?_
  refine L_make1 (c := k + 1) rfl hs Try.underlying22 Try.ti38 rfl rfl natc_0 (natc_a1 _) (by omega) (by omega) (by omega) rfl ?_
  intro B w hB _ hs
  rw [List.nil_append] at hs
  have hO0 : ∀ {o : Obj}, Own w0 [(B, o)] := Own.cons hB Own.nil
  refine L_assign rfl rfl ?_
  refine RL_then ?_
  refine W_seq ?_
  refine W_seq ?_
  refine W_region ?_
  refine L_move rfl rfl ?_
  refine L_len rfl Try.underlying22 rfl ?_
  refine L_move rfl rfl ?_
  refine RL_then ?_
  refine W_block ?_
  refine W_loop6 (fun (i : Nat) (v : Value) (vs : List Value) (Mo : List (Nat × Obj)) (Ms : List (Nat × Obj)) (w : World) => [(0, .slice a k cp), (3, v), (11, .int .i64 k), (12, .int .i64 i)]) (fun (i : Nat) (v : Value) (vs : List Value) (Mo : List (Nat × Obj)) (Ms : List (Nat × Obj)) (w : World) => w) (fun (i : Nat) (v : Value) (vs : List Value) (Mo : List (Nat × Obj)) (Ms : List (Nat × Obj)) (w : World) => (i ≤ k) ∧ (HS w0 w (Mo ++ Ms)) ∧ (Bl w0 38 1 v i vs Mo) ∧ (RB (p77 w0) vs (rows.take i) Ms)) (fun (i : Nat) (v : Value) (vs : List Value) (Mo : List (Nat × Obj)) (Ms : List (Nat × Obj)) (w : World) => k - i) (0) (.slice (some ⟨B, 0, none⟩) 0 (k + 1)) ([]) ([(B, Row 38 (List.replicate (k + 1) (.slice none 0 0)))]) ([]) (w) (is := [0, 3, 11, 12]) rfl rfl ?_ ?_
  · exact ⟨Nat.zero_le _, hs, .row (xs := []) hB rfl (by simp) (by omega), .nil⟩
  · clear hs
    intro i v vs Mo Ms w hI
    show W _ _ _ _ [(0, .slice a k cp), (3, v), (11, .int .i64 k), (12, .int .i64 i)] w
    obtain ⟨hi, hs, hbo, hrb⟩ := hI
    have hOs : Own w0 Ms := (hrb.imp fun _ _ _ h => p77.bl h).own
    have hOo := hbo.own
    by_cases hlt : i < k
    · obtain ⟨ai, ci, g1, g2, g3, g4⟩ := hr.row i (by omega)
      have hl := hlen i hlt
      obtain ⟨row, hrow⟩ : ∃ row, row = rows.getD i [] := ⟨_, rfl⟩
      have htk : rows.take (i + 1) = rows.take i ++ [row] := by rw [hrow]; exact take_snoc (by omega)
      rw [← hrow] at g1 g2 g3 g4 hl
      obtain ⟨m, hm⟩ : ∃ m, m = row.length := ⟨_, rfl⟩
      rw [← hm] at g1 g2 g3 hl
      refine W_seq ?_
      refine W_region ?_
      first | refine L_lss rfl rfl rfl (dtrue (by omega)) ?_ | refine L_lss rfl rfl rfl (dfalse (by omega)) ?_ | refine L_lss rfl rfl rfl rfl ?_
      refine RL_then ?_
      refine W_seq ?_
      refine W_if_true rfl ?_
      refine W_skip' ?_
      refine Nx_then ?_
      refine W_seq ?_
      refine W_block ?_
      refine W_seq ?_
      refine W_region ?_
      refine L_move rfl rfl ?_
      refine L_assign rfl rfl ?_
      refine RL_then ?_
      refine W_seq ?_
      refine W_region ?_
      refine L_move rfl rfl ?_
      refine L_move rfl rfl ?_
      refine L_idx1 rfl Try.underlying22 Try.ti38 rfl rfl (by with_reducible first | exact natc_k _ | exact natc_a1 _ | exact natc_0 | exact natc_1 | exact natc_2 | exact natc_s1 _ (by omega) | exact natc_a2 _ | exact natc_add _ _ | exact natc_mul _ _ | exact natc (by omega)) (by omega) (hr.sl.ao (by omega)) ?_
      refine L_load rfl Try.one38 rfl (by exact (hr.sl.old hs (hOo.app hOs)).get g1) ?_
      refine L_appendS (L := Mo ++ Ms) (M := []) rfl Try.underlying38 Try.ti2 rfl (by decide) (by rw [List.append_nil]; exact hs) Bl.nil rfl rfl (news := il row) (by rw [il_length, hm, Nat.mul_one]) (g4.old hs (hOo.app hOs)) (il_one _) (by omega) (by omega) ?_
      intro v5 w M5 hs hb5
      rw [List.nil_append, Nat.zero_add] at hb5
      refine L_assign rfl rfl ?_
      refine RL_then ?_
      refine W_seq ?_
      refine W_region ?_
      refine L_move rfl rfl ?_
      refine L_buildSlice1 rfl hs Try.underlying38 Try.ti2 rfl (by decide) rfl rfl ?_
      intro b21 w hb21 hnb21 hs
      simp only [List.map_cons, List.map_nil] at hs
      try dsimp only [List.set_cons_succ, List.set_cons_zero, List.cons_append, List.nil_append] at hs
      refine L_appendT (L := Mo ++ Ms) rfl Try.underlying38 Try.ti2 rfl hs (by assumption) hb5 rfl rfl rfl (by simp [Value.oneCell']) (by omega) (by omega) ?_
      intro v6 w M6 hs hb6
      obtain ⟨g, cap, sp, rfl, rfl, hg, hc, hcap⟩ := hb6.own_row (by omega)
      refine L_assign rfl rfl ?_
      refine RL_then ?_
      refine W_region ?_
      refine L_move rfl rfl ?_
      refine L_move rfl rfl ?_
      refine L_move rfl rfl ?_
      refine L_move rfl rfl ?_
      refine L_idx1 rfl Try.underlying22 Try.ti38 rfl rfl (by with_reducible first | exact natc_k _ | exact natc_a1 _ | exact natc_0 | exact natc_1 | exact natc_2 | exact natc_s1 _ (by omega) | exact natc_a2 _ | exact natc_add _ _ | exact natc_mul _ _ | exact natc (by omega)) (by omega) (hr.sl.ao (by omega)) ?_
      refine L_load rfl Try.one38 rfl (by exact (hr.sl.old hs ((hOo.app hOs).app hb6.own)).get g1) ?_
      refine L_len rfl Try.underlying38 rfl ?_
      refine RL_val rfl (R_slice010 Try.underlying38 Try.ti2 rfl rfl rfl (by omega)) ?_
      refine L_buildSlice1 rfl hs Try.underlying22 Try.ti38 rfl (by decide) rfl rfl ?_
      intro b31 w hb31 hnb31 hs
      simp only [List.map_cons, List.map_nil] at hs
      try dsimp only [List.set_cons_succ, List.set_cons_zero, List.cons_append, List.nil_append] at hs
      replace hs := hs.mem_perm (L' := ((Ms ++ [(g, Row 2 (il row ++ [.int .i64 77] ++ sp))]) ++ Mo) ++ [(b31, Row 38 [.slice (some ⟨g, 0, none⟩) m cap])]) (List.Perm.append_right _ (by rw [List.append_assoc]; exact List.perm_append_comm))
      refine L_appendT (L := Ms ++ [(g, Row 2 (il row ++ [.int .i64 77] ++ sp))]) rfl Try.underlying22 Try.ti38 rfl hs (by assumption) hbo rfl rfl rfl (by simp [Value.oneCell']) (by omega) (by omega) ?_
      intro v7 w M7 hs hb7
      replace hs := hs.rot
      refine L_assign rfl rfl ?_
      refine RL_nil' ?_
      refine Nx_block ?_
      refine Nx_then ?_
      refine W_region ?_
      first | refine L_add rfl rfl rfl (wrp_i64 (by omega)) ?_ | refine L_add rfl rfl rfl rfl ?_
      refine L_move rfl rfl ?_
      refine RL_nil' ?_
      have h77 : p77 w0 (.slice (some ⟨g, 0, none⟩) m cap) row [(g, Row 2 (il row ++ [.int .i64 77] ++ sp))] := ⟨g, cap, sp, by rw [hm], by simp, hg, by simp at hc; omega⟩
      refine Nx_loopP (i + 1, v7, vs ++ [.slice (some ⟨g, 0, none⟩) m cap], M7, Ms ++ [(g, Row 2 (il row ++ [.int .i64 77] ++ sp))], w) (is := [0, 3, 11, 12]) (I' := (fun (i : Nat) (v : Value) (vs : List Value) (Mo : List (Nat × Obj)) (Ms : List (Nat × Obj)) (w : World) => (i ≤ k) ∧ (HS w0 w (Mo ++ Ms)) ∧ (Bl w0 38 1 v i vs Mo) ∧ (RB (p77 w0) vs (rows.take i) Ms)) (i + 1) (v7) (vs ++ [.slice (some ⟨g, 0, none⟩) m cap]) (M7) (Ms ++ [(g, Row 2 (il row ++ [.int .i64 77] ++ sp))]) (w)) rfl rfl rfl ?_ ?_
      · exact ⟨by omega, hs, hb7, by rw [htk]; exact hrb.snoc h77⟩
      · omega
    · obtain rfl : k = i := by omega
      refine W_seq ?_
      refine W_region ?_
      first | refine L_lss rfl rfl rfl (dtrue (by omega)) ?_ | refine L_lss rfl rfl rfl (dfalse (by omega)) ?_ | refine L_lss rfl rfl rfl rfl ?_
      refine RL_then ?_
      refine W_seq ?_
      refine W_if_false rfl ?_
      refine W_exit' ?_
      refine Ex_then_exit ?_
      refine Ex_loop_exit ?_
      refine Ex_block_hit ?_
      refine Nx_then ?_
      refine W_seq ?_
      refine W_region ?_
      refine L_move rfl rfl ?_
      refine L_assign rfl rfl ?_
      refine RL_then ?_
      refine W_ret' ?_
      refine Ex_done1 rfl rfl ?_
      exact ⟨_, rfl, vs, Mo, Ms, hs, hbo, by rw [List.take_of_length_le (by omega)] at hrb; exact hrb⟩
end Go.Proofs.Ytcfdmenmlemahaa
