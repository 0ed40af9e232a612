/-
  A part of the proof: what functions that the statement reaches do, or a plain law on what they do. Each theorem holds under its own premises alone.
-/
import Derived.Test.YtcfdmenmlemahaaTRL
namespace Go.Proofs.Ytcfdmenmlemahaa
open Go Go.Lk Go.Pr
/-! ### Both answers are one -/
theorem best_uniq {n rows : Nat} {C : Nat → Nat → Int} {f g : Nat → Nat} (h : Best n rows C f) (h' : Best n rows C g) : ∀ r, r < rows → g r = f r := by
  have hc : cst n C g = cst n C f := Int.le_antisymm (h'.least f h.bij) (h.least g h'.bij)
  rcases h.first g h'.bij hc with h1 | ⟨i, hi, h1, h2⟩
  · exact h1
  · rcases h'.first f h.bij hc.symm with h3 | ⟨j, hj, h3, h4⟩
    · exact fun r hr => (h3 r hr).symm
    · exfalso
      rcases Nat.lt_trichotomy i j with h5 | h5 | h5
      · have := h3 i h5; omega
      · subst h5; omega
      · have := h1 j h5; omega
theorem LeastAns.uniq {rows : List (List Int)} {ms ms' : List Int} {t t' e e' : Int} (h : LeastAns rows ms t e) (h' : LeastAns rows ms' t' e') : ms = ms' ∧ t = t' ∧ e = e' := by
  rcases h with ⟨c1, rfl, rfl, rfl⟩ | ⟨c1, c2, c3, rfl, rfl, rfl⟩ | ⟨c1, c2, c3, f, hf, c4⟩
  · rcases h' with ⟨d1, rfl, rfl, rfl⟩ | ⟨d1, d2, d3, rfl, rfl, rfl⟩ | ⟨d1, d2, d3, g, hg, d4⟩
    · exact ⟨rfl, rfl, rfl⟩
    · exact absurd d1 (c1.resolve_right d2)
    · exact absurd d1 (c1.resolve_right d2)
  · rcases h' with ⟨d1, rfl, rfl, rfl⟩ | ⟨d1, d2, d3, rfl, rfl, rfl⟩ | ⟨d1, d2, d3, g, hg, d4⟩
    · exact absurd c1 (d1.resolve_right c2)
    · exact ⟨rfl, rfl, rfl⟩
    · omega
  · rcases h' with ⟨d1, rfl, rfl, rfl⟩ | ⟨d1, d2, d3, rfl, rfl, rfl⟩ | ⟨d1, d2, d3, g, hg, d4⟩
    · exact absurd c1 (d1.resolve_right c2)
    · omega
    · have hu := best_uniq hf hg
      rcases c4 with ⟨⟨i, hi, hn⟩, rfl, rfl, rfl⟩ | ⟨hp, rfl, rfl, rfl⟩
      · rcases d4 with ⟨_, rfl, rfl, rfl⟩ | ⟨hp, rfl, rfl, rfl⟩
        · exact ⟨rfl, rfl, rfl⟩
        · have := hp i hi; rw [hu i hi] at this; omega
      · rcases d4 with ⟨⟨i, hi, hn⟩, rfl, rfl, rfl⟩ | ⟨_, rfl, rfl, rfl⟩
        · have := hp i hi; rw [hu i hi] at hn; omega
        · refine ⟨List.map_congr_left fun q hq => ?_, tot_congr fun q hq => ?_, rfl⟩
          · rw [hu q (List.mem_range.1 hq)]
          · rw [hu q hq]
theorem MostAns.uniq {rows : List (List Int)} {ms ms' : List Int} {c c' t t' e e' : Int} (h : MostAns rows ms c t e) (h' : MostAns rows ms' c' t' e') : ms = ms' ∧ c = c' ∧ t = t' ∧ e = e' := by
  rcases h with ⟨c1, rfl, rfl, rfl, rfl⟩ | ⟨c1, c2, f, hf, rfl, rfl, rfl, rfl⟩
  · rcases h' with ⟨d1, rfl, rfl, rfl, rfl⟩ | ⟨d1, d2, g, hg, _⟩
    · exact ⟨rfl, rfl, rfl, rfl⟩
    · exact absurd d1 (c1.resolve_right d2)
  · rcases h' with ⟨d1, rfl, rfl, rfl, rfl⟩ | ⟨d1, d2, g, hg, rfl, rfl, rfl, rfl⟩
    · exact absurd c1 (d1.resolve_right c2)
    · have hu := best_uniq hf hg
      refine ⟨List.map_congr_left fun q hq => ?_, tot_congr fun q hq => ?_, tot_congr fun q hq => ?_, rfl⟩
      · rw [hu q (List.mem_range.1 hq)]
      · rw [hu q hq]
      · rw [hu q hq]
theorem TotalAns.uniq {rows : List (List Int)} {mt : List Int} {t t' e e' : Int} (h : TotalAns rows mt t e) (h' : TotalAns rows mt t' e') : t = t' ∧ e = e' := by
  rcases h with ⟨c1, rfl, rfl⟩ | ⟨c1, c2, rfl, rfl⟩ | ⟨c1, c2, ⟨i, hi, hb⟩, rfl, rfl⟩ | ⟨c1, c2, c3, rfl, rfl⟩ <;>
    rcases h' with ⟨d1, rfl, rfl⟩ | ⟨d1, d2, rfl, rfl⟩ | ⟨d1, d2, ⟨j, hj, hd⟩, rfl, rfl⟩ | ⟨d1, d2, d3, rfl, rfl⟩ <;>
    first | exact ⟨rfl, rfl⟩ | exact absurd c1 d1 | exact absurd d1 c1 | exact absurd c2 d2 | exact absurd d2 c2 | exact absurd hb (d3 i hi) | exact absurd hd (c3 j hj)
theorem LeastAns.len {rows : List (List Int)} {ms : List Int} {t e : Int} (h : LeastAns rows ms t e) : ms.length ≤ rows.length := by
  rcases h with ⟨_, rfl, _⟩ | ⟨_, _, _, rfl, _⟩ | ⟨_, _, _, f, _, ⟨_, rfl, _⟩ | ⟨_, rfl, _⟩⟩ <;> simp
theorem MostAns.len {rows : List (List Int)} {ms : List Int} {c t e : Int} (h : MostAns rows ms c t e) : ms.length ≤ rows.length := by
  rcases h with ⟨_, rfl, _⟩ | ⟨_, _, f, _, rfl, _⟩ <;> simp
/-! ### A copy whose rows have a marked spare -/
structure X77 (w : World) (a : Option Addr) (rows : List (List Int)) (vs : List Value) : Prop where
  sl : SlC w a vs
  len : vs.length = rows.length
  row : ∀ i, i < rows.length → ∃ g cap, vs[i]? = some (.slice (some ⟨g, 0, none⟩) (rows.getD i []).length cap) ∧ (rows.getD i []).length + 1 ≤ cap ∧ SlC w (some ⟨g, 0, none⟩) (il (rows.getD i [] ++ [77]))
theorem X77.old {w0 w : World} {L : List (Nat × Obj)} {a : Option Addr} {rows : List (List Int)} {vs : List Value} (h : X77 w0 a rows vs) (hs : HS w0 w L) (ho : Own w0 L) : X77 w a rows vs :=
  ⟨h.sl.old hs ho, h.len, fun i hi => let ⟨g, c, h1, h2, h3⟩ := h.row i hi; ⟨g, c, h1, h2, h3.old hs ho⟩⟩
theorem X77.of {w0 w : World} {L Mo Ms : List (Nat × Obj)} {a : Option Addr} {rows : List (List Int)} {vs : List Value} {k c : Nat} (hb : Bl w0 38 1 (.slice a k c) k vs Mo) (hr : RB (p77 w0) vs rows Ms) (hs : HS w0 w (L ++ (Mo ++ Ms))) : X77 w a rows vs := by
  refine ⟨hb.slc (L := L ++ Ms) (hs.mem_perm ?_), hr.len, fun i hi => ?_⟩
  · rw [List.append_assoc]; exact List.Perm.append_left L List.perm_append_comm
  · obtain ⟨v, M, Mr, h1, ⟨g, cap, sp, rfl, rfl, h2, h3⟩, h4, _⟩ := hr.at i hi
    refine ⟨g, cap, h1, by omega, SlC.of_row (T := 2) (sp := sp) ?_⟩
    have := hs.has (g, Row 2 (il (rows.getD i []) ++ .int .i64 77 :: sp)) (List.mem_append_right _ (List.mem_append_right _ (h4.mem_iff.2 (by simp))))
    rw [this, ← il_snoc, List.append_assoc]; rfl
theorem X77.rowsI {w : World} {a : Option Addr} {rows : List (List Int)} {vs : List Value} (h : X77 w a rows vs) (hl : ∀ i, i < rows.length → (rows.getD i []).length ≤ 17592186043904) : RowsI w a rows vs :=
  ⟨h.sl, h.len, fun i hi => let ⟨g, c, h1, h2, h3⟩ := h.row i hi; ⟨_, c, h1, by omega, hl i hi, ⟨fun _ => rfl, fun j v hv => h3.2 j v (by rw [← il_snoc, List.getElem?_append_left (List.getElem?_eq_some_iff.1 hv).1]; exact hv)⟩⟩⟩
theorem beyond_ok (a : Option Addr) (k cp : Nat) (rows : List (List Int)) (rvs : List Value) (w0 : World) (hr : RowsI w0 a rows rvs) (hk : rows.length = k) (hk63 : k ≤ 17592186043904) :
    Ret Try.prog 15 [.slice a k cp] w0 fun v w' => HS w0 w' [] ∧ ∃ b, v = .bool b ∧ (b = false → k ≤ 262144 ∧ ∀ i, i < k → (rows.getD i []).length ≤ 262144) := by
  refine Ret.start fun w hs => ?_
  have hrl := hr.len
  refine calls_of_W Try.func15 rfl rfl rfl ?_
  refine W_seq ?_
  refine W_region ?_
  refine L_assign rfl rfl ?_
  refine RL_then ?_
  refine W_seq ?_
  refine W_region ?_
  refine L_move rfl rfl ?_
  refine L_len rfl Try.underlying22 rfl ?_
  refine L_assign rfl rfl ?_
  refine RL_then ?_
  refine W_seq ?_
  refine W_seq ?_
  refine W_region ?_
  refine L_assign rfl rfl ?_
  refine RL_then ?_
  refine W_block ?_
  refine W_loop3 (fun (i : Nat) (n : Nat) (w : World) => [(0, .slice a k cp), (3, .int .i64 n), (4, .int .i64 i)]) (fun (i : Nat) (n : Nat) (w : World) => w) (fun (i : Nat) (n : Nat) (w : World) => (i ≤ k) ∧ (k ≤ n ∧ n ≤ 35184372350000) ∧ (∀ q, q < i → (rows.getD q []).length ≤ n) ∧ (HS w0 w [])) (fun (i : Nat) (n : Nat) (w : World) => k - i) (0) (k) (w) (is := [0, 3, 4]) rfl rfl ?_ ?_
  · exact ⟨Nat.zero_le _, ⟨by omega, by omega⟩, fun _ h => absurd h (Nat.not_lt_zero _), hs⟩
  · clear hs
    intro i n w hI
    show W _ _ _ _ [(0, .slice a k cp), (3, .int .i64 n), (4, .int .i64 i)] w
    obtain ⟨hi, hn, hA, hs⟩ := hI
    by_cases hlt : i < k
    · by_cases hn2 : n ≤ 262144
      · obtain ⟨ai, ci, g1, g2, g3, g4⟩ := hr.row i (by omega)
        obtain ⟨m, hm⟩ : ∃ m, m = (rows.getD i []).length := ⟨_, rfl⟩
        rw [← hm] at g1 g2 g3
        refine W_seq ?_
        refine W_seq ?_
        refine W_region ?_
        refine L_move rfl rfl ?_
        refine L_move rfl rfl ?_
        refine L_len rfl Try.underlying22 rfl ?_
        first | refine L_lss rfl rfl rfl (dtrue (by omega)) ?_ | refine L_lss rfl rfl rfl (dfalse (by omega)) ?_ | refine L_lss rfl rfl rfl rfl ?_
        refine L_move rfl rfl ?_
        first | (refine RL_want rfl rfl ?_; refine L_move rfl rfl ?_) | refine RL_skip rfl rfl rfl rfl ?_ | refine RL_skipU rfl rfl rfl ?_
        first | (refine RL_want rfl rfl ?_; (first | refine L_leq rfl rfl rfl (dtrue (by omega)) ?_ | refine L_leq rfl rfl rfl (dfalse (by omega)) ?_ | refine L_leq rfl rfl rfl rfl ?_)) | refine RL_skip rfl rfl rfl rfl ?_ | refine RL_skipU rfl rfl rfl ?_
        first | refine L_pick_t rfl rfl rfl ?_ | refine L_pick_f rfl rfl rfl ?_
        refine RL_then ?_
        refine W_if_true rfl ?_
        refine W_skip' ?_
        refine Nx_then ?_
        refine W_seq ?_
        refine W_block ?_
        refine W_region ?_
        refine L_move rfl rfl ?_
        refine L_move rfl rfl ?_
        refine L_move rfl rfl ?_
        refine L_idx1 rfl Try.underlying22 Try.ti38 rfl rfl (by with_reducible first | exact natc_k _ | exact natc_a1 _ | exact natc_0 | exact natc_1 | exact natc_2 | exact natc_s1 _ (by omega) | exact natc_a2 _ | exact natc_add _ _ | exact natc_mul _ _ | exact natc (by omega)) (by omega) (hr.sl.ao (by omega)) ?_
        refine L_load rfl Try.one38 rfl (by exact (hr.sl.old hs Own.nil).get g1) ?_
        refine L_len rfl Try.underlying38 rfl ?_
        first | refine L_add rfl rfl rfl (wrp_i64 (by omega)) ?_ | refine L_add rfl rfl rfl rfl ?_
        refine L_assign rfl rfl ?_
        refine RL_nil' ?_
        refine Nx_block ?_
        refine Nx_then ?_
        refine W_region ?_
        refine L_move rfl rfl ?_
        first | refine L_add rfl rfl rfl (wrp_i64 (by omega)) ?_ | refine L_add rfl rfl rfl rfl ?_
        refine L_assign rfl rfl ?_
        refine RL_nil' ?_
        refine Nx_loopP (i + 1, n + m, w) (is := [0, 3, 4]) (I' := (fun (i : Nat) (n : Nat) (w : World) => (i ≤ k) ∧ (k ≤ n ∧ n ≤ 35184372350000) ∧ (∀ q, q < i → (rows.getD q []).length ≤ n) ∧ (HS w0 w [])) (i + 1) (n + m) (w)) rfl rfl rfl ?_ ?_
        · refine ⟨by omega, ⟨by omega, by omega⟩, fun q hq => ?_, hs⟩
          by_cases hqi : q = i
          · rw [hqi, ← hm]; omega
          · have := hA q (by omega); omega
        · omega
      · refine W_seq ?_
        refine W_seq ?_
        refine W_region ?_
        refine L_move rfl rfl ?_
        refine L_move rfl rfl ?_
        refine L_len rfl Try.underlying22 rfl ?_
        first | refine L_lss rfl rfl rfl (dtrue (by omega)) ?_ | refine L_lss rfl rfl rfl (dfalse (by omega)) ?_ | refine L_lss rfl rfl rfl rfl ?_
        refine L_move rfl rfl ?_
        first | (refine RL_want rfl rfl ?_; refine L_move rfl rfl ?_) | refine RL_skip rfl rfl rfl rfl ?_ | refine RL_skipU rfl rfl rfl ?_
        first | (refine RL_want rfl rfl ?_; (first | refine L_leq rfl rfl rfl (dtrue (by omega)) ?_ | refine L_leq rfl rfl rfl (dfalse (by omega)) ?_ | refine L_leq rfl rfl rfl rfl ?_)) | refine RL_skip rfl rfl rfl rfl ?_ | refine RL_skipU rfl rfl rfl ?_
        first | refine L_pick_t rfl rfl rfl ?_ | refine L_pick_f rfl rfl rfl ?_
        refine RL_then ?_
        refine W_if_false rfl ?_
        refine W_exit' ?_
        refine Ex_then_exit ?_
        refine Ex_loop_exit ?_
        refine Ex_block_hit ?_
        refine Nx_then ?_
        refine W_seq ?_
        refine W_region ?_
        refine L_move rfl rfl ?_
        first | refine L_gtr rfl rfl rfl (dtrue (by omega)) ?_ | refine L_gtr rfl rfl rfl (dfalse (by omega)) ?_ | refine L_gtr rfl rfl rfl rfl ?_
        refine L_assign rfl rfl ?_
        refine RL_then ?_
        refine W_ret' ?_
        refine Ex_done1 rfl rfl ?_
        exact ⟨_, rfl, hs, _, rfl, fun h => by revert h; simp <;> omega⟩
    · obtain rfl : k = i := by omega
      refine W_seq ?_
      refine W_seq ?_
      refine W_region ?_
      refine L_move rfl rfl ?_
      refine L_move rfl rfl ?_
      refine L_len rfl Try.underlying22 rfl ?_
      first | refine L_lss rfl rfl rfl (dtrue (by omega)) ?_ | refine L_lss rfl rfl rfl (dfalse (by omega)) ?_ | refine L_lss rfl rfl rfl rfl ?_
      refine L_move rfl rfl ?_
      first | (refine RL_want rfl rfl ?_; refine L_move rfl rfl ?_) | refine RL_skip rfl rfl rfl rfl ?_ | refine RL_skipU rfl rfl rfl ?_
      first | (refine RL_want rfl rfl ?_; (first | refine L_leq rfl rfl rfl (dtrue (by omega)) ?_ | refine L_leq rfl rfl rfl (dfalse (by omega)) ?_ | refine L_leq rfl rfl rfl rfl ?_)) | refine RL_skip rfl rfl rfl rfl ?_ | refine RL_skipU rfl rfl rfl ?_
      first | refine L_pick_t rfl rfl rfl ?_ | refine L_pick_f rfl rfl rfl ?_
      refine RL_then ?_
      refine W_if_false rfl ?_
      by_cases hn2 : n ≤ 262144
      · refine W_exit' ?_
        refine Ex_then_exit ?_
        refine Ex_loop_exit ?_
        refine Ex_block_hit ?_
        refine Nx_then ?_
        refine W_seq ?_
        refine W_region ?_
        refine L_move rfl rfl ?_
        first | refine L_gtr rfl rfl rfl (dtrue (by omega)) ?_ | refine L_gtr rfl rfl rfl (dfalse (by omega)) ?_ | refine L_gtr rfl rfl rfl rfl ?_
        refine L_assign rfl rfl ?_
        refine RL_then ?_
        refine W_ret' ?_
        refine Ex_done1 rfl rfl ?_
        exact ⟨_, rfl, hs, _, rfl, fun h => ⟨by omega, fun q hq => by have := hA q hq; omega⟩⟩
      · refine W_exit' ?_
        refine Ex_then_exit ?_
        refine Ex_loop_exit ?_
        refine Ex_block_hit ?_
        refine Nx_then ?_
        refine W_seq ?_
        refine W_region ?_
        refine L_move rfl rfl ?_
        first | refine L_gtr rfl rfl rfl (dtrue (by omega)) ?_ | refine L_gtr rfl rfl rfl (dfalse (by omega)) ?_ | refine L_gtr rfl rfl rfl rfl ?_
        refine L_assign rfl rfl ?_
        refine RL_then ?_
        refine W_ret' ?_
        refine Ex_done1 rfl rfl ?_
        exact ⟨_, rfl, hs, _, rfl, fun h => by revert h; simp <;> omega⟩
end Go.Proofs.Ytcfdmenmlemahaa
