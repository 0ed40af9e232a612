/-
 A part of the proof: laws for walks, and plain laws, over any program of the model. Each theorem holds under its own premises alone.
-/
import Derived.Test.YtknpoemkmcdgcaaTNX
import Derived.Test.YtknpoemkmcdgcaaTNM
namespace Go.Proofs.Ytknpoemkmcdgcaa
open Go Go.Lk
/-! ### NetPlays -/
structure Mv where
 d : Int
 x : Nat
 y : Nat
 t : Nat
 q : Int
 a : Option Addr
 c : Nat
 ts : List Tk
def mv0 : Mv := ⟨0, 0, 0, 0, 0, none, 0, []⟩
def Mv.cells (m : Mv) : List Value := [.int .i64 m.d, .float .f64 m.x, .float .f64 m.y, .float .f64 m.t, .int .i64 m.q, .slice m.a m.ts.length m.c]
def mcs (l : List Mv) : List Value := l.flatMap Mv.cells
theorem mcs_len (l : List Mv) : (mcs l).length = l.length * 6 := by
 induction l with
 | nil => rfl
 | cons m l ih =>
  show (m.cells ++ mcs l).length = _
  rw [List.length_append, ih, List.length_cons]
  show 6 + _ = _
  omega
theorem mcs_get : ∀ {l : List Mv} {i q : Nat} {v : Value}, i < l.length → (l.getD i mv0).cells[q]? = some v → (mcs l)[i * 6 + q]? = some v
 | m :: l, 0, q, v, _, h => by
  show (m.cells ++ mcs l)[0 * 6 + q]? = some v
  rw [Nat.zero_mul, Nat.zero_add]
  have hq : q < m.cells.length := (List.getElem?_eq_some_iff.1 h).1
  rw [List.getElem?_append_left hq]; exact h
 | m :: l, i + 1, q, v, hi, h => by
  show (m.cells ++ mcs l)[(i + 1) * 6 + q]? = some v
  have hl : m.cells.length = 6 := rfl
  rw [List.getElem?_append_right (by omega), show (i + 1) * 6 + q - m.cells.length = i * 6 + q by omega]
  exact mcs_get (by simpa using hi) h
theorem mv_at {w : World} {a : Option Addr} {l : List Mv} (h : SlC w a (mcs l)) {i : Nat} (hi : i < l.length) : CellsAt w ((aD a).add (i * 6)) (l.getD i mv0).cells := h.sub fun _ _ hv => mcs_get hi hv
structure MvOk (w : World) (m : Mv) : Prop where
 x : m.x < 18446744073709551616
 y : m.y < 18446744073709551616
 t : m.t < 18446744073709551616
 sl : SlC w m.a (tcs m.ts)
 lt : ∀ i, i < m.ts.length → TkLt (m.ts.getD i tk0)
 len : m.ts.length ≤ 1000000000000000
theorem great_ok (a : Option Addr) (n c : Nat) (l : List Mv) (w0 : World) (hl : SlC w0 a (mcs l)) (hn : l.length = n) (hn2 : n ≤ 1000000000000000) (hm : ∀ i, i < n → (l.getD i mv0).ts.length ≤ 1000000000000000) :
  Ret Try.prog 10 [.slice a n c] w0 fun v w' => (∃ b, v = .bool b ∧ (b = false → n ≤ 100 ∧ ∀ i, i < n → (l.getD i mv0).ts.length ≤ 1000)) ∧ HS w0 w' [] := by
 refine Ret.start fun w hs => ?_
 refine calls_of_W Try.func10 rfl rfl rfl (W_seq (W_region (L_assign rfl rfl (RL_then (W_seq (W_region (L_assign rfl rfl (RL_then (W_seq (W_seq (W_region (L_assign rfl rfl ?_))))))))))))
 refine RL_then ?_
 refine W_cut3 (fun (i : Nat) (s : Nat) (w : World) => [(0, .slice a n c), (3, .int .i64 s)]) (fun (i : Nat) (s : Nat) (w : World) => w) (fun (i : Nat) (s : Nat) (w : World) => (s ≤ 1000 + 1000000000000000) ∧ (n ≤ 100 → s ≤ 1000 → ∀ j, j < n → (l.getD j mv0).ts.length ≤ 1000) ∧ (HS w0 w [])) ?_ ?_
 ·
  refine W_block ?_
  refine W_loop3 (fun (i : Nat) (s : Nat) (w : World) => [(0, .slice a n c), (3, .int .i64 s), (4, .int .i64 i)]) (fun (i : Nat) (s : Nat) (w : World) => w) (fun (i : Nat) (s : Nat) (w : World) => (i ≤ n) ∧ (s ≤ 1000 + 1000000000000000) ∧ (∀ j, j < i → (l.getD j mv0).ts.length ≤ s) ∧ (HS w0 w [])) (fun (i : Nat) (s : Nat) (w : World) => n - i) (0) (0) (w) (is := [0, 3, 4]) rfl rfl ?_ ?_
  ·
   exact ⟨Nat.zero_le _, Nat.zero_le _, fun j hj => absurd hj (Nat.not_lt_zero _), hs⟩
  ·
   clear hs
   intro i s w hI
   show W _ _ _ _ [(0, .slice a n c), (3, .int .i64 s), (4, .int .i64 i)] w
   obtain ⟨hi, hsb, hj, hs⟩ := hI
   by_cases h1 : i < n
   ·
    by_cases h2 : i ≤ 100
    ·
     by_cases h3 : s ≤ 1000
     ·
      have hsl := hl.old hs Own.nil
      have hml := hm i h1
      have hg : (mcs l)[i * 6 + 5]? = some (.slice (l.getD i mv0).a (l.getD i mv0).ts.length (l.getD i mv0).c) := mcs_get (by omega) rfl
      refine W_seq (W_seq (W_region (L_move rfl rfl (L_move rfl rfl (L_len rfl Try.underlying23 rfl (L_lss rfl rfl rfl (dtrue (by omega)) ?_))))))
      refine L_move rfl rfl (RL_want rfl rfl (L_move rfl rfl (RL_want rfl rfl (L_leq rfl rfl rfl (dtrue (by omega)) ?_))))
      refine L_pick_t rfl rfl rfl (L_move rfl rfl (RL_want rfl rfl (L_move rfl rfl (RL_want rfl rfl (L_leq rfl rfl rfl (dtrue (by omega)) ?_)))))
      refine L_pick_t rfl rfl rfl (RL_then (W_if_true rfl (W_skip' (Nx_then (W_seq (W_block (W_region (L_move rfl rfl (L_move rfl rfl (L_move rfl rfl ?_))))))))))
      refine L_idxN rfl Try.underlying23 Try.ti40 rfl rfl (natc_k _) (by omega) (hsl.ao (by rw [mcs_len]; omega)) ?_
      refine L_fieldAddr rfl (off := 5) Try.underlying40 rfl rfl Try.ti38 rfl ?_
      refine L_load rfl Try.one38 rfl (by (rw [add_add]; exact hsl.get hg)) ?_
      refine L_len rfl Try.underlying38 rfl (L_add rfl rfl rfl (wrp_i64 (by omega)) ?_)
      refine L_assign rfl rfl (RL_nil' (Nx_block (Nx_then (W_region (L_move rfl rfl (L_add rfl rfl rfl (wrp_i64 (by omega)) ?_))))))
      refine L_assign rfl rfl (RL_nil' ?_)
      refine Nx_loopP (i + 1, s + (l.getD i mv0).ts.length, w) (is := [0, 3, 4]) (I' := (fun (i : Nat) (s : Nat) (w : World) => (i ≤ n) ∧ (s ≤ 1000 + 1000000000000000) ∧ (∀ j, j < i → (l.getD j mv0).ts.length ≤ s) ∧ (HS w0 w [])) (i + 1) (s + (l.getD i mv0).ts.length) (w)) rfl rfl rfl ?_ ?_
      ·
       refine ⟨by omega, by omega, fun j hji => ?_, hs⟩
       by_cases hj2 : j = i
       ·
        rw [hj2]; omega
       ·
        have := hj j (by omega); omega
      ·
       omega
     ·
      refine W_seq (W_seq (W_region (L_move rfl rfl (L_move rfl rfl (L_len rfl Try.underlying23 rfl (L_lss rfl rfl rfl (dtrue (by omega)) ?_))))))
      refine L_move rfl rfl (RL_want rfl rfl (L_move rfl rfl (RL_want rfl rfl (L_leq rfl rfl rfl (dtrue (by omega)) ?_))))
      refine L_pick_t rfl rfl rfl (L_move rfl rfl (RL_want rfl rfl (L_move rfl rfl (RL_want rfl rfl (L_leq rfl rfl rfl (dfalse (by omega)) ?_)))))
      refine L_pick_t rfl rfl rfl (RL_then (W_if_false rfl (W_exit' (Ex_then_exit (Ex_loop_exit (Ex_block_hit (Nx_cutP (i, s, w) (is := [0, 3]) (I' := (fun (i : Nat) (s : Nat) (w : World) => (s ≤ 1000 + 1000000000000000) ∧ (n ≤ 100 → s ≤ 1000 → ∀ j, j < n → (l.getD j mv0).ts.length ≤ 1000) ∧ (HS w0 w [])) (i) (s) (w)) rfl rfl rfl ?_)))))))
      exact ⟨hsb, fun _ h => absurd h h3, hs⟩
    ·
     refine W_seq (W_seq (W_region (L_move rfl rfl (L_move rfl rfl (L_len rfl Try.underlying23 rfl (L_lss rfl rfl rfl (dtrue (by omega)) ?_))))))
     refine L_move rfl rfl (RL_want rfl rfl (L_move rfl rfl (RL_want rfl rfl (L_leq rfl rfl rfl (dfalse (by omega)) ?_))))
     refine L_pick_t rfl rfl rfl (L_move rfl rfl (RL_skip rfl rfl rfl rfl (RL_skip rfl rfl rfl rfl (L_pick_f rfl rfl rfl (RL_then (W_if_false rfl (W_exit' (Ex_then_exit (Ex_loop_exit (Ex_block_hit (Nx_cutP (i, s, w) (is := [0, 3]) (I' := (fun (i : Nat) (s : Nat) (w : World) => (s ≤ 1000 + 1000000000000000) ∧ (n ≤ 100 → s ≤ 1000 → ∀ j, j < n → (l.getD j mv0).ts.length ≤ 1000) ∧ (HS w0 w [])) (i) (s) (w)) rfl rfl rfl ?_)))))))))))
     exact ⟨hsb, fun h => absurd h (by omega), hs⟩
   ·
    obtain rfl : n = i := by omega
    refine W_seq (W_seq (W_region (L_move rfl rfl (L_move rfl rfl (L_len rfl Try.underlying23 rfl (L_lss rfl rfl rfl (dfalse (by omega)) ?_))))))
    refine L_move rfl rfl (RL_skip rfl rfl rfl rfl (RL_skip rfl rfl rfl rfl (L_pick_f rfl rfl rfl (L_move rfl rfl (RL_skip rfl rfl rfl rfl (RL_skip rfl rfl rfl rfl (L_pick_f rfl rfl rfl (RL_then (W_if_false rfl (W_exit' (Ex_then_exit (Ex_loop_exit ?_))))))))))))
    refine Ex_block_hit (Nx_cutP (n, s, w) (is := [0, 3]) (I' := (fun (i : Nat) (s : Nat) (w : World) => (s ≤ 1000 + 1000000000000000) ∧ (n ≤ 100 → s ≤ 1000 → ∀ j, j < n → (l.getD j mv0).ts.length ≤ 1000) ∧ (HS w0 w [])) (n) (s) (w)) rfl rfl rfl ?_)
    exact ⟨hsb, fun _ h j hj3 => by have := hj j hj3; omega, hs⟩
 ·
  clear hs
  intro i s w hI
  show W _ _ _ _ [(0, .slice a n c), (3, .int .i64 s)] w
  obtain ⟨hsb, hj, hs⟩ := hI
  by_cases h3 : s ≤ 1000
  ·
   by_cases h4 : n ≤ 100
   ·
    refine W_seq (W_region (L_move rfl rfl (L_gtr rfl rfl rfl (dfalse (by omega)) ?_)))
    refine L_move rfl rfl (RL_want rfl rfl (L_move rfl rfl (RL_want rfl rfl (L_len rfl Try.underlying23 rfl (RL_want rfl rfl (L_gtr rfl rfl rfl (dfalse (by omega)) ?_))))))
    refine L_pick_f rfl rfl rfl (L_assign rfl rfl (RL_then (W_ret' (Ex_done1 rfl rfl ?_))))
    exact ⟨_, rfl, ⟨false, rfl, fun _ => ⟨h4, hj h4 h3⟩⟩, hs⟩
   ·
    refine W_seq (W_region (L_move rfl rfl (L_gtr rfl rfl rfl (dfalse (by omega)) ?_)))
    refine L_move rfl rfl (RL_want rfl rfl (L_move rfl rfl (RL_want rfl rfl (L_len rfl Try.underlying23 rfl (RL_want rfl rfl (L_gtr rfl rfl rfl (dtrue (by omega)) ?_))))))
    refine L_pick_f rfl rfl rfl (L_assign rfl rfl (RL_then (W_ret' (Ex_done1 rfl rfl ?_))))
    exact ⟨_, rfl, ⟨true, rfl, fun h => by cases h⟩, hs⟩
  ·
   refine W_seq (W_region (L_move rfl rfl (L_gtr rfl rfl rfl (dtrue (by omega)) ?_)))
   refine L_move rfl rfl (RL_skip rfl rfl rfl rfl (RL_skip rfl rfl rfl rfl (RL_skip rfl rfl rfl rfl (L_pick_t rfl rfl rfl (L_assign rfl rfl (RL_then (W_ret' (Ex_done1 rfl rfl ?_))))))))
   exact ⟨_, rfl, ⟨true, rfl, fun h => by cases h⟩, hs⟩
end Go.Proofs.Ytknpoemkmcdgcaa

namespace Go.Proofs.Ytknpoemkmcdgcaa
open Go Go.Lk
theorem PN.fresh {w0 : World} {B D : Nat} (h1 : NetOk w0 B (.slice none 0 0) [] []) (h2 : DOk w0 D (.slice none 0 0) [] (.slice none 0 0) [] []) : PN.Ok w0 ⟨B, D, .slice none 0 0, [], [], .slice none 0 0, [], .slice none 0 0, [], []⟩ := ⟨h1, h2, rfl⟩
set_option maxHeartbeats 1000000 in
theorem plays_law (far : Nat) (a : Option Addr) (n c : Nat) (l : List Mv) (w0 : World) (wf : far < 18446744073709551616) (hl : SlC w0 a (mcs l)) (hn : l.length = n) (hn2 : n ≤ 1000000000000000) (hm : ∀ i, i < n → MvOk w0 (l.getD i mv0)) :
  Ret Try.prog 3 [.float .f64 far, .slice a n c] w0 fun v w' => v = .bool true ∧ HS w0 w' [] := by
 refine Ret.start fun w hs => ?_
 have h5 : newE 4617315517961601024 = 0 := by decide +kernel
 have f5 : FarOk 4617315517961601024 := FarOk.of (by decide) h5
 obtain ⟨five, hfive⟩ : ∃ five, five = 4617315517961601024 := ⟨_, rfl⟩
 refine calls_of_W Try.func3 rfl rfl rfl (W_seq (W_region (L_assign rfl rfl (RL_then (W_seq (W_seq (W_region (L_move rfl rfl (L_call rfl Try.fun10 rfl (great_ok a n c l w (hl.old hs Own.nil) hn hn2 (fun i hi => (hm i hi).len)) ?_)))))))))
 rintro _ w1 ⟨⟨b, rfl, hb⟩, hs'⟩
 replace hs := hs.nil hs'
 clear hs'
 cases b with
 | true =>
  refine RL_then (W_if_true rfl (W_seq (W_region (L_call rfl Try.fun11 rfl (wakes_ok _) ?_))))
  rintro _ w2 ⟨rfl, hs'⟩
  replace hs := hs.nil hs'
  clear hs'
  refine L_assign rfl rfl (RL_then (W_ret' (Ex_then_ret (Ex_done1 rfl rfl ?_))))
  exact ⟨_, rfl, rfl, hs⟩
 | false =>
  obtain ⟨hn1, hm1⟩ := hb rfl
  refine RL_then (W_if_false rfl ?_)
  by_cases h0 : newE far = 0
  ·
   have hf := FarOk.of wf h0
   refine W_skip' (Nx_then (W_seq (W_region (L_move rfl rfl (L_call rfl Try.fun12 rfl (newG far w1 wf) ?_)))))
   rintro _ w2 (⟨_, B1, rfl, hs2, hB1⟩ | ⟨h, _⟩)
   case inr => exact absurd h0 h
   have hB1' := Nat.le_trans hs.size hB1
   have h1 : HS w0 w2 (nbs B1 far (.slice none 0 0) [] []) := hs.call hs2 (Own.cons hB1 Own.nil)
   clear hs hs2 hB1
   refine L_move rfl rfl (L_extract rfl rfl rfl (L_extract rfl rfl rfl (L_assign rfl rfl (L_assign rfl rfl (RL_then (W_seq (W_region (L_move rfl rfl (L_call rfl Try.fun13 rfl (rnewN far w2 wf) ?_)))))))))
   rintro _ w3 (⟨_, D1, rfl, hs3, hD1⟩ | ⟨h, _⟩)
   case inr => exact absurd h0 h
   have hD1' := Nat.le_trans h1.size hD1.own
   have h2 := h1.call hs3 hD1.owns
   clear h1 hs3 hD1
   refine L_move rfl rfl (L_extract rfl rfl rfl (L_extract rfl rfl rfl (L_assign rfl rfl (L_assign rfl rfl (RL_then (W_seq (W_region (L_call rfl Try.fun12 rfl (newG 4617315517961601024 w3 (by decide)) ?_))))))))
   rintro _ w4 (⟨_, B2, rfl, hs4, hB2⟩ | ⟨h, _⟩)
   case inr => exact absurd h5 h
   have hB2' := Nat.le_trans h2.size hB2
   have h3 := h2.call hs4 (Own.cons hB2 Own.nil)
   clear h2 hs4 hB2
   refine L_move rfl rfl (L_extract rfl rfl rfl (L_extract rfl rfl rfl (L_assign rfl rfl (L_assign rfl rfl (RL_then (W_seq (W_region (L_call rfl Try.fun13 rfl (rnewN 4617315517961601024 w4 (by decide)) ?_))))))))
   rintro _ w5 (⟨_, D2, rfl, hs5, hD2⟩ | ⟨h, _⟩)
   case inr => exact absurd h5 h
   have hD2' := Nat.le_trans h3.size hD2.own
   have h4 := h3.call hs5 hD2.owns
   clear h3 hs5 hD2
   have hN1 : NetOk w0 B1 (.slice none 0 0) [] [] := ⟨hB1', .nil, fun _ h => absurd h List.not_mem_nil, by decide⟩
   have hN2 : NetOk w0 B2 (.slice none 0 0) [] [] := ⟨hB2', .nil, fun _ h => absurd h List.not_mem_nil, by decide⟩
   have hE1 : DOk w0 D1 (.slice none 0 0) [] (.slice none 0 0) [] [] := ⟨hD1', .nil, .nil, fun _ h => absurd h List.not_mem_nil, by decide⟩
   have hE2 : DOk w0 D2 (.slice none 0 0) [] (.slice none 0 0) [] [] := ⟨hD2', .nil, .nil, fun _ h => absurd h List.not_mem_nil, by decide⟩
   have hs : HS w0 w5 ((PN.mk B1 D1 (.slice none 0 0) [] [] (.slice none 0 0) [] (.slice none 0 0) [] []).bks far ++ ((PN.mk B2 D2 (.slice none 0 0) [] [] (.slice none 0 0) [] (.slice none 0 0) [] []).bks five)) := by
    rw [hfive]
    have h6 : HS w0 w5 ((([(B1, Row 76 [.float .f64 far, .slice none 0 0])] ++ [(D1, Row 79 [.float .f64 far, .slice none 0 0, .slice none 0 0])]) ++ [(B2, Row 76 [.float .f64 4617315517961601024, .slice none 0 0])]) ++ [(D2, Row 79 [.float .f64 4617315517961601024, .slice none 0 0, .slice none 0 0])]) := h4
    show HS w0 w5 (([(B1, Row 76 [.float .f64 far, .slice none 0 0])] ++ [(D1, Row 79 [.float .f64 far, .slice none 0 0, .slice none 0 0])]) ++ ([(B2, Row 76 [.float .f64 4617315517961601024, .slice none 0 0])] ++ [(D2, Row 79 [.float .f64 4617315517961601024, .slice none 0 0, .slice none 0 0])]))
    exact HS.re h6 (fun c => by simp only [List.map_append, List.map_cons, List.map_nil, List.sum_append, List.sum_cons, List.sum_nil]; omega)
   clear h4
   rw [← hfive] at f5
   refine L_move rfl rfl (L_extract rfl rfl rfl (L_extract rfl rfl rfl (L_assign rfl rfl (L_assign rfl rfl (RL_then (W_seq (W_seq (W_region (L_move rfl rfl (L_move rfl rfl (L_neq rfl rfl rfl (dfalse (by omega)) ?_)))))))))))
   refine L_move rfl rfl (RL_want rfl rfl (L_move rfl rfl (RL_want rfl rfl (L_move rfl rfl (RL_want rfl rfl (L_neq rfl rfl rfl (dfalse (by omega)) ?_))))))
   refine L_pick_f rfl rfl rfl (L_move rfl rfl (RL_want rfl rfl (L_move rfl rfl (RL_want rfl rfl (L_ptrNil rfl Try.underlying26 rfl rfl (RL_want rfl rfl (L_move rfl rfl (RL_want rfl rfl (L_ptrNil rfl Try.underlying30 rfl rfl (RL_want rfl rfl (RL_val rfl (R_bneq Try.underlying4 rfl rfl) (L_pick_f rfl rfl rfl ?_))))))))))))
   refine L_move rfl rfl (RL_want rfl rfl (L_move rfl rfl (RL_want rfl rfl (L_ptrNil rfl Try.underlying26 rfl rfl (L_pick_f rfl rfl rfl (L_move rfl rfl (RL_want rfl rfl (L_move rfl rfl (RL_want rfl rfl (L_ptrNil rfl Try.underlying30 rfl rfl (L_pick_f rfl rfl rfl (RL_then ?_))))))))))))
   refine W_if_false rfl (W_skip' (Nx_then (W_seq (W_seq (W_region (L_assign rfl rfl (RL_then (W_block ?_))))))))
   refine W_loop4 (fun (i : Nat) (p : PN) (s : PN) (w : World) => [(1, .slice a n c), (5, .pointer (some ⟨p.B, 0, none⟩)), (7, .pointer (some ⟨p.D, 0, none⟩)), (9, .pointer (some ⟨s.B, 0, none⟩)), (11, .pointer (some ⟨s.D, 0, none⟩)), (13, .int .i64 i)]) (fun (i : Nat) (p : PN) (s : PN) (w : World) => w) (fun (i : Nat) (p : PN) (s : PN) (w : World) => (i ≤ n) ∧ (p.Ok w0) ∧ (s.Ok w0) ∧ (HS w0 w (p.bks far ++ s.bks five))) (fun (i : Nat) (p : PN) (s : PN) (w : World) => n - i) (0) (⟨B1, D1, .slice none 0 0, [], [], .slice none 0 0, [], .slice none 0 0, [], []⟩) (⟨B2, D2, .slice none 0 0, [], [], .slice none 0 0, [], .slice none 0 0, [], []⟩) (_) (is := [1, 5, 7, 9, 11, 13]) rfl rfl ?_ ?_
   ·
    exact ⟨Nat.zero_le _, PN.fresh hN1 hE1, PN.fresh hN2 hE2, hs⟩
   ·
    clear hs
    intro i p s w hI
    show W _ _ _ _ [(1, .slice a n c), (5, .pointer (some ⟨p.B, 0, none⟩)), (7, .pointer (some ⟨p.D, 0, none⟩)), (9, .pointer (some ⟨s.B, 0, none⟩)), (11, .pointer (some ⟨s.D, 0, none⟩)), (13, .int .i64 i)] w
    obtain ⟨hi, hp, hq, hs⟩ := hI
    by_cases hlt : i < n
    ·
     obtain ⟨m, hme⟩ : ∃ m, m = l.getD i mv0 := ⟨_, rfl⟩
     have hmk := hm i hlt
     have hmt := hm1 i hlt
     rw [← hme] at hmk hmt
     have hao : a = some (aD a) := hl.ao (by rw [mcs_len]; omega)
     have hat : ∀ {w : World} {L : Bks}, HS w0 w L → Own w0 L → CellsAt w ((aD a).add (i * 6)) m.cells := fun h1 h2 => by
      have := mv_at (hl.old h1 h2) (i := i) (by omega)
      rw [← hme] at this; exact this
     refine W_seq (W_seq (W_region (L_move rfl rfl (L_move rfl rfl (L_len rfl Try.underlying23 rfl (L_lss rfl rfl rfl (dtrue (by omega)) ?_))))))
     refine RL_then (W_if_true rfl (W_skip' (Nx_then (W_seq (W_block (W_seq (W_seq (W_region (L_move rfl rfl (L_ptrNotNil rfl Try.underlying26 rfl rfl (L_move rfl rfl (RL_want rfl rfl ?_))))))))))))
     refine L_move rfl rfl (RL_want rfl rfl (L_move rfl rfl (RL_want rfl rfl (L_move rfl rfl (RL_want rfl rfl (L_move rfl rfl (RL_want rfl rfl (L_idxN rfl Try.underlying23 Try.ti40 rfl rfl (natc_k _) (by omega) hao ?_))))))))
     refine RL_want rfl rfl (L_loadA rfl Try.agg40 Try.ti40 rfl (by exact hat hs ((hp.own far).app (hq.own five))) ?_)
     refine RL_want rfl rfl (L_call rfl Try.fun14 rfl (move_ok w0 w far p (s.bks five) m.d m.x m.y m.t m.q m.a m.ts.length m.c m.ts hs hp (hq.own five) hmk.x hmk.y hmk.t (fun w' L' h1 h2 _ => hmk.sl.old h1 h2) rfl (by omega) hmk.lt) ?_)
     rintro _ w ⟨rfl, p2, hpB, hpD, h2, hp2, _⟩
     rw [← hpB, ← hpD]
     clear hs
     refine RL_want rfl rfl (L_not rfl rfl (RL_want rfl rfl (L_move rfl rfl (RL_want rfl rfl (L_move rfl rfl (RL_want rfl rfl (L_move rfl rfl (RL_want rfl rfl (L_call rfl Try.fun15 rfl (fused2_ok w0 w far p2 (s.bks five) h2 hp2 (hq.own five) hf) ?_)))))))))
     rintro _ w ⟨rfl, hs⟩
     clear h2
     refine RL_want rfl rfl (L_not rfl rfl (RL_want rfl rfl (L_pick_f rfl rfl rfl (L_pick_t rfl rfl rfl (RL_then (W_if_false rfl ?_))))))
     have ht3 : ((i : Int).tmod 3) = ((i % 3 : Nat) : Int) := rfl
     by_cases h3 : i % 3 = 0
     ·
      refine W_skip' (Nx_then (W_seq (W_region (L_move rfl rfl (L_rem rfl rfl rfl (by omega) ?_)))))
      refine L_gtr rfl rfl rfl (dfalse (by (rw [ht3]; omega))) ?_
      refine L_move rfl rfl (RL_skip rfl rfl rfl rfl (RL_skip rfl rfl rfl rfl (RL_skip rfl rfl rfl rfl (RL_skip rfl rfl rfl rfl (RL_skip rfl rfl rfl rfl (RL_skip rfl rfl rfl rfl (RL_skip rfl rfl rfl rfl (RL_skip rfl rfl rfl rfl (L_pick_f rfl rfl rfl (RL_then (W_if_false rfl (W_skip' ?_))))))))))))
      refine Nx_block (Nx_then (W_region (L_move rfl rfl (L_add rfl rfl rfl (wrp_i64 (by omega)) ?_))))
      refine L_assign rfl rfl (RL_nil' ?_)
      refine Nx_loopP (i + 1, p2, s, _) (is := [1, 5, 7, 9, 11, 13]) (I' := (fun (i : Nat) (p : PN) (s : PN) (w : World) => (i ≤ n) ∧ (p.Ok w0) ∧ (s.Ok w0) ∧ (HS w0 w (p.bks far ++ s.bks five))) (i + 1) (p2) (s) (_)) rfl rfl rfl ?_ ?_
      ·
       exact ⟨by omega, hp2, hq, hs⟩
      ·
       omega
     ·
      refine W_skip' (Nx_then (W_seq (W_region (L_move rfl rfl (L_rem rfl rfl rfl (by omega) ?_)))))
      refine L_gtr rfl rfl rfl (dtrue (by (rw [ht3]; omega))) ?_
      refine L_move rfl rfl (RL_want rfl rfl (L_move rfl rfl (RL_want rfl rfl (L_move rfl rfl (RL_want rfl rfl (L_move rfl rfl (RL_want rfl rfl (L_move rfl rfl (RL_want rfl rfl (L_idxN rfl Try.underlying23 Try.ti40 rfl rfl (natc_k _) (by omega) hao ?_))))))))))
      refine RL_want rfl rfl (L_loadA rfl Try.agg40 Try.ti40 rfl (by exact hat hs ((hp2.own far).app (hq.own five))) ?_)
      have h3 : HS w0 w (s.bks five ++ p2.bks far) := HS.re hs (fun c => by simp only [List.map_append, List.map_cons, List.map_nil, List.sum_append, List.sum_cons, List.sum_nil]; omega)
      refine RL_want rfl rfl (L_call rfl Try.fun14 rfl (move_ok w0 w five s (p2.bks far) m.d m.x m.y m.t m.q m.a m.ts.length m.c m.ts h3 hq (hp2.own far) hmk.x hmk.y hmk.t (fun w' L' h1 h2 _ => hmk.sl.old h1 h2) rfl (by omega) hmk.lt) ?_)
      rintro _ w ⟨rfl, s2, hsB, hsD, h4, hq2, _⟩
      rw [← hsB, ← hsD]
      clear hs h3
      have hs : HS w0 w (p2.bks far ++ s2.bks five) := HS.re h4 (fun c => by simp only [List.map_append, List.map_cons, List.map_nil, List.sum_append, List.sum_cons, List.sum_nil]; omega)
      refine RL_want rfl rfl (L_not rfl rfl (L_pick_t rfl rfl rfl (RL_then (W_if_false rfl (W_skip' (Nx_block (Nx_then (W_region (L_move rfl rfl (L_add rfl rfl rfl (wrp_i64 (by omega)) ?_))))))))))
      refine L_assign rfl rfl (RL_nil' ?_)
      refine Nx_loopP (i + 1, p2, s2, _) (is := [1, 5, 7, 9, 11, 13]) (I' := (fun (i : Nat) (p : PN) (s : PN) (w : World) => (i ≤ n) ∧ (p.Ok w0) ∧ (s.Ok w0) ∧ (HS w0 w (p.bks far ++ s.bks five))) (i + 1) (p2) (s2) (_)) rfl rfl rfl ?_ ?_
      ·
       exact ⟨by omega, hp2, hq2, hs⟩
      ·
       omega
    ·
     skip
     refine W_seq (W_seq (W_region (L_move rfl rfl (L_move rfl rfl (L_len rfl Try.underlying23 rfl (L_lss rfl rfl rfl (dfalse (by omega)) ?_))))))
     refine RL_then (W_if_false rfl (W_exit' (Ex_then_exit (Ex_loop_exit (Ex_block_hit (Nx_then (W_seq (W_region (L_move rfl rfl (L_move rfl rfl ?_))))))))))
     have h3 : HS w0 w (s.bks five ++ p.bks far) := HS.re hs (fun c => by simp only [List.map_append, List.map_cons, List.map_nil, List.sum_append, List.sum_cons, List.sum_nil]; omega)
     refine L_call rfl Try.fun15 rfl (fused2_ok w0 w five s (p.bks far) h3 hq (hp.own far) f5) ?_
     rintro _ w ⟨rfl, h4⟩
     clear hs h3
     refine L_move rfl rfl (RL_want rfl rfl (L_call rfl Try.fun11 rfl (wakes_ok _) ?_))
     rintro _ w2 ⟨rfl, hs'⟩
     have hs := h4.nil hs'
     clear hs' h4
     refine L_pick_t rfl rfl rfl (L_assign rfl rfl (RL_then (W_ret' (Ex_done1 rfl rfl ?_))))
     exact ⟨_, rfl, rfl, hs.forget ((hq.own five).app (hp.own far))⟩
  ·
   refine W_skip' (Nx_then (W_seq (W_region (L_move rfl rfl (L_call rfl Try.fun12 rfl (newG far w1 wf) ?_)))))
   rintro _ w2 (⟨h, _⟩ | ⟨_, rfl, hs2⟩)
   case inl => exact absurd h h0
   have h1 := hs.nil hs2
   clear hs hs2
   refine L_move rfl rfl (L_extract rfl rfl rfl (L_extract rfl rfl rfl (L_assign rfl rfl (L_assign rfl rfl (RL_then (W_seq (W_region (L_move rfl rfl (L_call rfl Try.fun13 rfl (rnewN far w2 wf) ?_)))))))))
   rintro _ w3 (⟨h, _⟩ | ⟨_, rfl, hs3⟩)
   case inl => exact absurd h h0
   have h2 := h1.nil hs3
   clear h1 hs3
   refine L_move rfl rfl (L_extract rfl rfl rfl (L_extract rfl rfl rfl (L_assign rfl rfl (L_assign rfl rfl (RL_then (W_seq (W_region (L_call rfl Try.fun12 rfl (newG 4617315517961601024 w3 (by decide)) ?_))))))))
   rintro _ w4 (⟨_, B2, rfl, hs4, hB2⟩ | ⟨h, _⟩)
   case inr => exact absurd h5 h
   have hB2' := Nat.le_trans h2.size hB2
   have h3 := h2.call hs4 (Own.cons hB2 Own.nil)
   clear h2 hs4 hB2
   refine L_move rfl rfl (L_extract rfl rfl rfl (L_extract rfl rfl rfl (L_assign rfl rfl (L_assign rfl rfl (RL_then (W_seq (W_region (L_call rfl Try.fun13 rfl (rnewN 4617315517961601024 w4 (by decide)) ?_))))))))
   rintro _ w5 (⟨_, D2, rfl, hs5, hD2⟩ | ⟨h, _⟩)
   case inr => exact absurd h5 h
   have hD2' := Nat.le_trans h3.size hD2.own
   have h4 := h3.call hs5 hD2.owns
   clear h3 hs5 hD2
   have hN2 : NetOk w0 B2 (.slice none 0 0) [] [] := ⟨hB2', .nil, fun _ h => absurd h List.not_mem_nil, by decide⟩
   have hE2 : DOk w0 D2 (.slice none 0 0) [] (.slice none 0 0) [] [] := ⟨hD2', .nil, .nil, fun _ h => absurd h List.not_mem_nil, by decide⟩
   have hs : HS w0 w5 ((PN.mk B2 D2 (.slice none 0 0) [] [] (.slice none 0 0) [] (.slice none 0 0) [] []).bks five ++ []) := by
    rw [hfive]
    exact h4
   clear h4
   rw [← hfive] at f5
   obtain ⟨e, he⟩ : ∃ e, newE far = e := ⟨_, rfl⟩
   rw [he]
   refine L_move rfl rfl (L_extract rfl rfl rfl (L_extract rfl rfl rfl (L_assign rfl rfl (L_assign rfl rfl (RL_then (W_seq (W_seq (W_region (L_move rfl rfl (L_move rfl rfl (L_neq rfl rfl rfl (dfalse (by omega)) ?_)))))))))))
   refine L_move rfl rfl (RL_want rfl rfl (L_move rfl rfl (RL_want rfl rfl (L_move rfl rfl (RL_want rfl rfl (L_neq rfl rfl rfl (dfalse (by omega)) ?_))))))
   refine L_pick_f rfl rfl rfl (L_move rfl rfl (RL_want rfl rfl (L_move rfl rfl (RL_want rfl rfl (L_ptrNil rfl Try.underlying26 rfl rfl (RL_want rfl rfl (L_move rfl rfl (RL_want rfl rfl (L_ptrNil rfl Try.underlying30 rfl rfl (RL_want rfl rfl (RL_val rfl (R_bneq Try.underlying4 rfl rfl) (L_pick_f rfl rfl rfl ?_))))))))))))
   refine L_move rfl rfl (RL_want rfl rfl (L_move rfl rfl (RL_want rfl rfl (L_ptrNil rfl Try.underlying26 rfl rfl (L_pick_f rfl rfl rfl (L_move rfl rfl (RL_want rfl rfl (L_move rfl rfl (RL_want rfl rfl (L_ptrNil rfl Try.underlying30 rfl rfl (L_pick_f rfl rfl rfl (RL_then ?_))))))))))))
   refine W_if_false rfl (W_skip' (Nx_then (W_seq (W_seq (W_region (L_assign rfl rfl (RL_then (W_block ?_))))))))
   refine W_loop3 (fun (i : Nat) (s : PN) (w : World) => [(1, .slice a n c), (5, .pointer none), (7, .pointer none), (9, .pointer (some ⟨s.B, 0, none⟩)), (11, .pointer (some ⟨s.D, 0, none⟩)), (13, .int .i64 i)]) (fun (i : Nat) (s : PN) (w : World) => w) (fun (i : Nat) (s : PN) (w : World) => (i ≤ n) ∧ (s.Ok w0) ∧ (HS w0 w (s.bks five ++ []))) (fun (i : Nat) (s : PN) (w : World) => n - i) (0) (⟨B2, D2, .slice none 0 0, [], [], .slice none 0 0, [], .slice none 0 0, [], []⟩) (_) (is := [1, 5, 7, 9, 11, 13]) rfl rfl ?_ ?_
   ·
    exact ⟨Nat.zero_le _, PN.fresh hN2 hE2, hs⟩
   ·
    clear hs
    intro i s w hI
    show W _ _ _ _ [(1, .slice a n c), (5, .pointer none), (7, .pointer none), (9, .pointer (some ⟨s.B, 0, none⟩)), (11, .pointer (some ⟨s.D, 0, none⟩)), (13, .int .i64 i)] w
    obtain ⟨hi, hq, hs⟩ := hI
    by_cases hlt : i < n
    ·
     obtain ⟨m, hme⟩ : ∃ m, m = l.getD i mv0 := ⟨_, rfl⟩
     have hmk := hm i hlt
     have hmt := hm1 i hlt
     rw [← hme] at hmk hmt
     have hao : a = some (aD a) := hl.ao (by rw [mcs_len]; omega)
     have hat : ∀ {w : World} {L : Bks}, HS w0 w L → Own w0 L → CellsAt w ((aD a).add (i * 6)) m.cells := fun h1 h2 => by
      have := mv_at (hl.old h1 h2) (i := i) (by omega)
      rw [← hme] at this; exact this
     have ht3 : ((i : Int).tmod 3) = ((i % 3 : Nat) : Int) := rfl
     refine W_seq (W_seq (W_region (L_move rfl rfl (L_move rfl rfl (L_len rfl Try.underlying23 rfl (L_lss rfl rfl rfl (dtrue (by omega)) ?_))))))
     refine RL_then (W_if_true rfl (W_skip' (Nx_then (W_seq (W_block (W_seq (W_seq (W_region (L_move rfl rfl (L_ptrNotNil rfl Try.underlying26 rfl rfl (L_move rfl rfl (RL_skip rfl rfl rfl rfl ?_))))))))))))
     refine RL_skip rfl rfl rfl rfl (RL_skip rfl rfl rfl rfl (RL_skip rfl rfl rfl rfl (RL_skip rfl rfl rfl rfl (RL_skip rfl rfl rfl rfl (RL_skip rfl rfl rfl rfl (RL_skip rfl rfl rfl rfl (RL_skip rfl rfl rfl rfl (RL_skipU rfl rfl rfl (RL_skipU rfl rfl rfl (RL_skipU rfl rfl rfl (RL_skipU rfl rfl rfl (RL_skip rfl rfl rfl rfl ?_))))))))))))
     refine L_pick_f rfl rfl rfl (RL_then (W_if_false rfl ?_))
     by_cases h3 : i % 3 = 0
     ·
      refine W_skip' (Nx_then (W_seq (W_region (L_move rfl rfl (L_rem rfl rfl rfl (by omega) ?_)))))
      refine L_gtr rfl rfl rfl (dfalse (by (rw [ht3]; omega))) ?_
      refine L_move rfl rfl (RL_skip rfl rfl rfl rfl (RL_skip rfl rfl rfl rfl (RL_skip rfl rfl rfl rfl (RL_skip rfl rfl rfl rfl (RL_skip rfl rfl rfl rfl (RL_skip rfl rfl rfl rfl (RL_skip rfl rfl rfl rfl (RL_skip rfl rfl rfl rfl (L_pick_f rfl rfl rfl (RL_then (W_if_false rfl (W_skip' ?_))))))))))))
      refine Nx_block (Nx_then (W_region (L_move rfl rfl (L_add rfl rfl rfl (wrp_i64 (by omega)) ?_))))
      refine L_assign rfl rfl (RL_nil' ?_)
      refine Nx_loopP (i + 1, s, _) (is := [1, 5, 7, 9, 11, 13]) (I' := (fun (i : Nat) (s : PN) (w : World) => (i ≤ n) ∧ (s.Ok w0) ∧ (HS w0 w (s.bks five ++ []))) (i + 1) (s) (_)) rfl rfl rfl ?_ ?_
      ·
       exact ⟨by omega, hq, hs⟩
      ·
       omega
     ·
      refine W_skip' (Nx_then (W_seq (W_region (L_move rfl rfl (L_rem rfl rfl rfl (by omega) ?_)))))
      refine L_gtr rfl rfl rfl (dtrue (by (rw [ht3]; omega))) ?_
      refine L_move rfl rfl (RL_want rfl rfl (L_move rfl rfl (RL_want rfl rfl (L_move rfl rfl (RL_want rfl rfl (L_move rfl rfl (RL_want rfl rfl (L_move rfl rfl (RL_want rfl rfl (L_idxN rfl Try.underlying23 Try.ti40 rfl rfl (natc_k _) (by omega) hao ?_))))))))))
      refine RL_want rfl rfl (L_loadA rfl Try.agg40 Try.ti40 rfl (by exact hat hs ((hq.own five).app Own.nil)) ?_)
      refine RL_want rfl rfl (L_call rfl Try.fun14 rfl (move_ok w0 w five s [] m.d m.x m.y m.t m.q m.a m.ts.length m.c m.ts hs hq Own.nil hmk.x hmk.y hmk.t (fun w' L' h1 h2 _ => hmk.sl.old h1 h2) rfl (by omega) hmk.lt) ?_)
      rintro _ w ⟨rfl, s2, hsB, hsD, h4, hq2, _⟩
      rw [← hsB, ← hsD]
      clear hs
      refine RL_want rfl rfl (L_not rfl rfl (L_pick_t rfl rfl rfl (RL_then (W_if_false rfl (W_skip' (Nx_block (Nx_then (W_region (L_move rfl rfl (L_add rfl rfl rfl (wrp_i64 (by omega)) ?_))))))))))
      refine L_assign rfl rfl (RL_nil' ?_)
      refine Nx_loopP (i + 1, s2, _) (is := [1, 5, 7, 9, 11, 13]) (I' := (fun (i : Nat) (s : PN) (w : World) => (i ≤ n) ∧ (s.Ok w0) ∧ (HS w0 w (s.bks five ++ []))) (i + 1) (s2) (_)) rfl rfl rfl ?_ ?_
      ·
       exact ⟨by omega, hq2, h4⟩
      ·
       omega
    ·
     skip
     refine W_seq (W_seq (W_region (L_move rfl rfl (L_move rfl rfl (L_len rfl Try.underlying23 rfl (L_lss rfl rfl rfl (dfalse (by omega)) ?_))))))
     refine RL_then (W_if_false rfl (W_exit' (Ex_then_exit (Ex_loop_exit (Ex_block_hit (Nx_then (W_seq (W_region (L_move rfl rfl (L_move rfl rfl (L_call rfl Try.fun15 rfl (fused2_ok w0 w five s [] hs hq Own.nil f5) ?_)))))))))))
     rintro _ w ⟨rfl, h4⟩
     clear hs
     refine L_move rfl rfl (RL_want rfl rfl (L_call rfl Try.fun11 rfl (wakes_ok _) ?_))
     rintro _ w2 ⟨rfl, hs'⟩
     have hs := h4.nil hs'
     clear hs' h4
     refine L_pick_t rfl rfl rfl (L_assign rfl rfl (RL_then (W_ret' (Ex_done1 rfl rfl ?_))))
     exact ⟨_, rfl, rfl, hs.forget ((hq.own five).app Own.nil)⟩
end Go.Proofs.Ytknpoemkmcdgcaa
