/-
  A part of the proof: what functions that the statement reaches do, or a plain law on what they do. Each theorem holds under its own premises alone.
-/
import Derived.Test.YtdllakfojligjaaTKG
namespace Go.Proofs.Ytdllakfojligjaa
open Go Go.Lk
/-! ### A book that is made; what is refused -/
def pcs (l : List Plt) : List Value := l.flatMap Plt.cells
theorem pcs_len (l : List Plt) : (pcs l).length = l.length * 5 := by
 induction l with
 | nil => rfl
 | cons t ts ih =>
  show (t.cells ++ pcs ts).length = _
  rw [List.length_append, ih, List.length_cons]
  show 5 + _ = _
  omega
theorem pcs_get : ∀ {ts : List Plt} {i q : Nat} {v : Value}, i < ts.length → (ts.getD i plt0).cells[q]? = some v → (pcs ts)[i * 5 + q]? = some v
 | t :: ts, 0, q, v, _, h => by
  show (t.cells ++ pcs ts)[0 * 5 + q]? = some v
  rw [Nat.zero_mul, Nat.zero_add]
  have hq : q < t.cells.length := (List.getElem?_eq_some_iff.1 h).1
  rw [List.getElem?_append_left hq]; exact h
 | t :: ts, i + 1, q, v, hi, h => by
  show (t.cells ++ pcs ts)[(i + 1) * 5 + q]? = some v
  have hl : t.cells.length = 5 := rfl
  rw [List.getElem?_append_right (by omega), show (i + 1) * 5 + q - t.cells.length = i * 5 + q by omega]
  exact pcs_get (by simpa using hi) h
theorem plt_at {w : World} {a : Option Addr} {ts : List Plt} (h : SlC w a (pcs ts)) {i : Nat} (hi : i < ts.length) : CellsAt w ((aD a).add (i * 5)) (ts.getD i plt0).cells := h.sub fun _ _ hv => pcs_get hi hv
theorem Plt.one (t : Plt) : ∀ v ∈ t.cells, v.oneCell' = true := by simp [Plt.cells, Value.oneCell']
structure PltLt (l : Plt) : Prop where
 r : l.r < 18446744073709551616
 b : l.b < 18446744073709551616
def finP (l : Plt) : Bool := [l.r, l.b].all finB
theorem badplot_ok (l : Plt) (hl : PltLt l) (w0 : World) : Ret Try.prog 67 [.agg l.cells.toArray] w0 fun v w' => v = .bool (!finP l) ∧ HS w0 w' [] := by
 refine Ret.start fun w hs => ?_
 refine calls_of_W Try.func67 rfl rfl rfl ?_
 refine W_seq ?_
 refine W_region ?_
 refine L_box rfl hs rfl ?_
 intro b1 w hb1 hnb1 hs
 try dsimp only [List.set_cons_succ, List.set_cons_zero, List.cons_append, List.nil_append] at hs
 refine L_assign rfl rfl ?_
 refine RL_then ?_
 refine W_seq ?_
 refine W_region ?_
 replace hs : HS w0 w [(b1, Row 35 l.cells)] := hs
 refine L_fieldAddr rfl (off := 0) Try.underlying35 rfl rfl Try.ti23 rfl ?_
 refine L_load rfl Try.one23 rfl (by exact hs.cell (i := 0) rfl rfl) ?_
 refine L_fieldAddr rfl (off := 3) Try.underlying35 rfl rfl Try.ti23 rfl ?_
 refine L_load rfl Try.one23 rfl (by exact hs.cell (i := 0) rfl rfl) ?_
 refine L_buildSlice1 rfl hs Try.underlying79 Try.ti23 rfl (by decide) rfl rfl ?_
 intro b7 w hb7 hnb7 hs
 simp only [List.map_cons, List.map_nil] at hs
 try dsimp only [List.set_cons_succ, List.set_cons_zero, List.cons_append, List.nil_append] at hs
 replace hs : HS w0 w [(b1, Row 35 l.cells), (b7, Row 23 (fl [l.r, l.b]))] := hs
 have hx : SlC w (some ⟨b7, 0, none⟩) (fl [l.r, l.b]) := SlC.of_row (sp := []) (hs.get (i := 1) rfl)
 refine L_call rfl Try.fun34 rfl (finite_ok (some ⟨b7, 0, none⟩) 2 2 [l.r, l.b] w hx rfl (by decide) (fun z hz => by match z, hz with | 0, _ => exact hl.r | 1, _ => exact hl.b)) ?_
 rintro _ w1 ⟨rfl, hs'⟩
 replace hs := hs.nil hs'
 refine L_not rfl rfl ?_
 refine L_assign rfl rfl ?_
 refine RL_then ?_
 refine W_ret' ?_
 refine Ex_done1 rfl rfl ?_
 exact ⟨_, rfl, rfl, hs.forget (Own.cons hb1 (Own.cons hb7 Own.nil))⟩
theorem pindex_ok (a : Option Addr) (k c : Nat) (xs : List Plt) (w0 : World) (hx : SlC w0 a (pcs xs)) (hk : xs.length = k) (hk2 : k ≤ 1000000) (hlt : ∀ i, i < k → PltLt (xs.getD i plt0)) :
  Ret Try.prog 81 [.slice a k c, .func (.func 67) #[] #[]] w0 fun v w' => ∃ j, v = .int .i64 j ∧ HS w0 w' [] ∧ Found (fun i => finP (xs.getD i plt0) = false) k j := by
 refine Ret.start fun w hs => ?_
 refine calls_of_W Try.func81 rfl rfl rfl ?_
 refine W_seq ?_
 refine W_region ?_
 refine L_assign rfl rfl ?_
 refine RL_then ?_
 refine W_seq ?_
 refine W_seq ?_
 refine W_region ?_
 refine L_move rfl rfl ?_
 refine L_len rfl Try.underlying36 rfl ?_
 refine L_move rfl rfl ?_
 refine RL_then ?_
 refine W_block ?_
 refine W_loop2 (fun (i : Nat) (w : World) => [(0, .slice a k c), (1, .func (.func 67) #[] #[]), (7, .int .i64 k), (8, .int .i64 i)]) (fun (i : Nat) (w : World) => w) (fun (i : Nat) (w : World) => (i ≤ k) ∧ (∀ q, q < i → finP (xs.getD q plt0) = true) ∧ (HS w0 w [])) (fun (i : Nat) (w : World) => k - i) (0) (w) (is := [0, 1, 7, 8]) rfl rfl ?_ ?_
 ·
  exact ⟨Nat.zero_le _, fun _ h => absurd h (Nat.not_lt_zero _), hs⟩
 ·
  clear hs
  intro i w hI
  show W _ _ _ _ [(0, .slice a k c), (1, .func (.func 67) #[] #[]), (7, .int .i64 k), (8, .int .i64 i)] w
  obtain ⟨hi, hq, hs⟩ := hI
  by_cases hlt2 : i < k
  ·
   have hxw := hx.old hs Own.nil
   refine W_seq ?_
   refine W_region ?_
   first | refine L_lss rfl rfl rfl (dtrue (by omega)) ?_ | refine L_lss rfl rfl rfl (dfalse (by omega)) ?_ | refine L_lss rfl rfl rfl rfl ?_
   refine RL_then ?_
   refine W_seq ?_
   refine W_if_true rfl ?_
   refine W_skip' ?_
   refine Nx_then ?_
   refine W_seq ?_
   refine W_block ?_
   refine W_seq ?_
   refine W_region ?_
   refine L_move rfl rfl ?_
   refine L_assign rfl rfl ?_
   refine RL_then ?_
   refine W_seq ?_
   refine W_region ?_
   refine L_move rfl rfl ?_
   refine L_move rfl rfl ?_
   refine L_move rfl rfl ?_
   refine L_idxN rfl Try.underlying36 Try.ti35 rfl rfl (by with_reducible first | exact natc_k _ | exact natc_a1 _ | exact natc_0 | exact natc_1 | exact natc_2 | exact natc_s1 _ (by omega) | exact natc_a2 _ | exact natc_add _ _ | exact natc_mul _ _ | exact natc (by omega)) (by omega) (hx.ao (by rw [pcs_len]; omega)) ?_
   refine L_loadA rfl Try.agg35 Try.ti35 rfl (by exact plt_at hxw (by omega)) ?_
   refine L_callV rfl Try.fun67 rfl rfl (badplot_ok (xs.getD i plt0) (hlt i hlt2) w) ?_
   rintro _ w' ⟨rfl, hs'⟩
   replace hs := hs.nil hs'
   cases hf : finP (xs.getD i plt0)
   ·
    refine RL_then ?_
    refine W_if_true rfl ?_
    refine W_seq ?_
    refine W_region ?_
    refine L_move rfl rfl ?_
    refine L_assign rfl rfl ?_
    refine RL_then ?_
    refine W_ret' ?_
    refine Ex_block_ret ?_
    refine Ex_then_ret ?_
    refine Ex_loop_ret ?_
    refine Ex_block_ret ?_
    refine Ex_then_ret ?_
    refine Ex_done1 rfl rfl ?_
    exact ⟨_, rfl, _, rfl, hs, .inl ⟨i, hlt2, rfl, hf, fun q hqi h => by have h := h.symm.trans (hq q hqi); cases h⟩⟩
   ·
    refine RL_then ?_
    refine W_if_false rfl ?_
    refine W_skip' ?_
    refine Nx_block ?_
    refine Nx_then ?_
    refine W_region ?_
    first | refine L_add rfl rfl rfl (wrp_i64 (by omega)) ?_ | refine L_add rfl rfl rfl rfl ?_
    refine L_move rfl rfl ?_
    refine RL_nil' ?_
    refine Nx_loopP (i + 1, _) (is := [0, 1, 7, 8]) (I' := (fun (i : Nat) (w : World) => (i ≤ k) ∧ (∀ q, q < i → finP (xs.getD q plt0) = true) ∧ (HS w0 w [])) (i + 1) (_)) rfl rfl rfl ?_ ?_
    ·
     refine ⟨by omega, fun q hq2 => ?_, hs⟩
     by_cases hqi : q = i
     ·
      rw [hqi]; exact hf
     ·
      exact hq q (by omega)
    ·
     omega
  ·
   obtain rfl : k = i := by omega
   refine W_seq ?_
   refine W_region ?_
   first | refine L_lss rfl rfl rfl (dtrue (by omega)) ?_ | refine L_lss rfl rfl rfl (dfalse (by omega)) ?_ | refine L_lss rfl rfl rfl rfl ?_
   refine RL_then ?_
   refine W_seq ?_
   refine W_if_false rfl ?_
   refine W_exit' ?_
   refine Ex_then_exit ?_
   refine Ex_loop_exit ?_
   refine Ex_block_hit ?_
   refine Nx_then ?_
   refine W_seq ?_
   refine W_region ?_
   refine L_assign rfl rfl ?_
   refine RL_then ?_
   refine W_ret' ?_
   refine Ex_done1 rfl rfl ?_
   exact ⟨_, rfl, _, rfl, hs, .inr ⟨rfl, fun q hq2 h => by have h := h.symm.trans (hq q hq2); cases h⟩⟩
theorem pcontains_ok (a : Option Addr) (k c : Nat) (xs : List Plt) (w0 : World) (hx : SlC w0 a (pcs xs)) (hk : xs.length = k) (hk2 : k ≤ 1000000) (hlt : ∀ i, i < k → PltLt (xs.getD i plt0)) :
  Ret Try.prog 66 [.slice a k c, .func (.func 67) #[] #[]] w0 fun v w' => v = .bool (!xs.all finP) ∧ HS w0 w' [] := by
 refine Ret.start fun w hs => ?_
 refine calls_of_W Try.func66 rfl rfl rfl ?_
 refine W_seq ?_
 refine W_region ?_
 refine L_assign rfl rfl ?_
 refine RL_then ?_
 refine W_seq ?_
 refine W_region ?_
 refine L_move rfl rfl ?_
 refine L_move rfl rfl ?_
 refine L_call rfl Try.fun81 rfl (pindex_ok a k c xs w (hx.old hs Own.nil) hk hk2 hlt) ?_
 rintro _ w1 ⟨j, rfl, hs', hF⟩
 replace hs := hs.nil hs'
 rcases hF with ⟨i, hi, rfl, hp, _⟩ | ⟨rfl, hn⟩
 ·
  have e : xs.all finP = false := by
   rw [← Bool.not_eq_true, List.all_eq_true]
   intro h
   have := h (xs.getD i plt0) (getD_mem (by omega))
   rw [hp] at this; cases this
  first | refine L_geq rfl rfl rfl (dtrue (by omega)) ?_ | refine L_geq rfl rfl rfl (dfalse (by omega)) ?_ | refine L_geq rfl rfl rfl rfl ?_
  refine L_assign rfl rfl ?_
  refine RL_then ?_
  refine W_ret' ?_
  refine Ex_done1 rfl rfl ?_
  exact ⟨_, rfl, by rw [e]; rfl, hs⟩
 ·
  have e : xs.all finP = true := by
   rw [List.all_eq_true]
   intro x hx
   obtain ⟨i, hi, rfl⟩ := List.getElem_of_mem hx
   have : ¬ (finP (xs.getD i plt0) = false) := hn i (by omega)
   rw [List.getD_eq_getElem?_getD, List.getElem?_eq_getElem hi] at this
   cases h : finP xs[i] with
   | true => rfl
   | false => exact absurd h this
  first | refine L_geq rfl rfl rfl (dtrue (by omega)) ?_ | refine L_geq rfl rfl rfl (dfalse (by omega)) ?_ | refine L_geq rfl rfl rfl rfl ?_
  refine L_assign rfl rfl ?_
  refine RL_then ?_
  refine W_ret' ?_
  refine Ex_done1 rfl rfl ?_
  exact ⟨_, rfl, by rw [e]; rfl, hs⟩
/-- what is refused -/
def refE (last time : Nat) (l : List Plt) : Int := if 256 < l.length then 3 else if finB time && l.all finP then (if ltB time last then 2 else 0) else 6
theorem refused_ok (B time last : Nat) (a : Option Addr) (n c : Nat) (l : List Plt) (w0 : World) (hB : w0.cell? ⟨B, 8, none⟩ = some (.float .f64 last)) (ht : time < 18446744073709551616) (hx : SlC w0 a (pcs l)) (hn : l.length = n) (hn2 : n ≤ 1000000) (hlt : ∀ i, i < n → PltLt (l.getD i plt0)) :
  Ret Try.prog 37 [.pointer (some ⟨B, 0, none⟩), .float .f64 time, .slice a n c] w0 fun v w' => v = .int .i64 (refE last time l) ∧ HS w0 w' [] := by
 refine Ret.start fun w hs => ?_
 have hBl := World.block_lt_of_cell? w0 _ hB
 refine calls_of_W Try.func37 rfl rfl rfl ?_
 by_cases h256 : 256 < n
 ·
  have e : refE last time l = 3 := by unfold refE; rw [if_pos (by omega)]
  refine W_seq ?_
  refine W_region ?_
  refine L_assign rfl rfl ?_
  refine RL_then ?_
  refine W_seq ?_
  refine W_block ?_
  refine W_seq ?_
  refine W_region ?_
  refine L_move rfl rfl ?_
  refine L_len rfl Try.underlying36 rfl ?_
  first | refine L_gtr rfl rfl rfl (dtrue (by omega)) ?_ | refine L_gtr rfl rfl rfl (dfalse (by omega)) ?_ | refine L_gtr rfl rfl rfl rfl ?_
  refine L_assign rfl rfl ?_
  refine RL_then ?_
  refine W_if_true rfl ?_
  refine W_seq ?_
  refine W_region ?_
  refine L_assign rfl rfl ?_
  refine RL_then ?_
  refine W_ret' ?_
  refine Ex_block_ret ?_
  refine Ex_then_ret ?_
  refine Ex_done1 rfl rfl ?_
  exact ⟨_, rfl, by rw [e], hs⟩
 ·
  refine W_seq ?_
  refine W_region ?_
  refine L_assign rfl rfl ?_
  refine RL_then ?_
  refine W_seq ?_
  refine W_block ?_
  refine W_seq ?_
  refine W_region ?_
  refine L_move rfl rfl ?_
  refine L_len rfl Try.underlying36 rfl ?_
  first | refine L_gtr rfl rfl rfl (dtrue (by omega)) ?_ | refine L_gtr rfl rfl rfl (dfalse (by omega)) ?_ | refine L_gtr rfl rfl rfl rfl ?_
  refine L_assign rfl rfl ?_
  refine RL_then ?_
  refine W_if_false rfl ?_
  refine W_seq ?_
  refine W_seq ?_
  refine W_region ?_
  refine L_move rfl rfl ?_
  refine L_buildSlice1 rfl hs Try.underlying79 Try.ti23 rfl (by decide) rfl rfl ?_
  intro b13 w hb13 hnb13 hs
  simp only [List.map_cons, List.map_nil] at hs
  try dsimp only [List.set_cons_succ, List.set_cons_zero, List.cons_append, List.nil_append] at hs
  have hxf : SlC w (some ⟨b13, 0, none⟩) (fl [time]) := SlC.of_row (sp := []) (hs.get (i := 0) rfl)
  refine L_call rfl Try.fun34 rfl (finite_ok (some ⟨b13, 0, none⟩) 1 1 [time] w hxf rfl (by decide) (fun z hz => by match z, hz with | 0, _ => exact ht)) ?_
  rintro _ w1 ⟨rfl, hs'⟩
  have h1 : HS w0 w1 [] := (hs.nil hs').forget (Own.cons hb13 Own.nil)
  clear hs hs' hxf
  have hs := h1
  clear h1
  rw [show [time].all finB = finB time by simp]
  cases hf : finB time
  ·
   have e : refE last time l = 6 := by unfold refE; rw [if_neg (by omega), hf]; rfl
   refine L_not rfl rfl ?_
   refine L_assign rfl rfl ?_
   refine RL_then ?_
   refine W_if_true rfl ?_
   refine W_skip' ?_
   refine Nx_then ?_
   refine W_if_true rfl ?_
   refine W_seq ?_
   refine W_region ?_
   refine L_assign rfl rfl ?_
   refine RL_then ?_
   refine W_ret' ?_
   refine Ex_block_ret ?_
   refine Ex_then_ret ?_
   refine Ex_done1 rfl rfl ?_
   exact ⟨_, rfl, by rw [e], hs⟩
  ·
   refine L_not rfl rfl ?_
   refine L_assign rfl rfl ?_
   refine RL_then ?_
   refine W_if_false rfl ?_
   refine W_region ?_
   refine L_move rfl rfl ?_
   refine L_call rfl Try.fun66 rfl (pcontains_ok a n c l w1 (hx.old hs Own.nil) hn hn2 hlt) ?_
   rintro _ w2 ⟨rfl, hs'⟩
   replace hs := hs.nil hs'
   clear hs'
   cases hp : l.all finP
   ·
    have e : refE last time l = 6 := by unfold refE; rw [if_neg (by omega), hf, hp]; rfl
    refine L_assign rfl rfl ?_
    refine RL_then ?_
    refine W_if_true rfl ?_
    refine W_seq ?_
    refine W_region ?_
    refine L_assign rfl rfl ?_
    refine RL_then ?_
    refine W_ret' ?_
    refine Ex_block_ret ?_
    refine Ex_then_ret ?_
    refine Ex_done1 rfl rfl ?_
    exact ⟨_, rfl, by rw [e], hs⟩
   ·
    have hq : (FloatKind.f64.format.order time last == some .lt) = ltB time last := rfl
    cases hl : ltB time last
    ·
     have e : refE last time l = 0 := by unfold refE; rw [if_neg (by omega), hf, hp, hl]; rfl
     rw [hl] at hq
     refine L_assign rfl rfl ?_
     refine RL_then ?_
     refine W_if_false rfl ?_
     refine W_seq ?_
     refine W_region ?_
     refine L_move rfl rfl ?_
     refine L_move rfl rfl ?_
     refine L_nilCheck rfl rfl ?_
     refine L_fieldAddr rfl (off := 8) Try.underlying88 rfl rfl Try.ti23 rfl ?_
     refine L_load rfl Try.one23 rfl (by exact hs.oldcell hB (Own.nil.notin hBl)) ?_
     refine L_fcmp rfl rfl rfl (fun _ => by rw [binOp_float_cmp_lss, hq]; rfl) ?_
     refine L_assign rfl rfl ?_
     refine RL_then ?_
     refine W_if_false rfl ?_
     refine W_skip' ?_
     refine Nx_block ?_
     refine Nx_then ?_
     refine W_seq ?_
     refine W_region ?_
     refine L_assign rfl rfl ?_
     refine RL_then ?_
     refine W_ret' ?_
     refine Ex_done1 rfl rfl ?_
     exact ⟨_, rfl, by rw [e], hs⟩
    ·
     have e : refE last time l = 2 := by unfold refE; rw [if_neg (by omega), hf, hp, hl]; rfl
     rw [hl] at hq
     refine L_assign rfl rfl ?_
     refine RL_then ?_
     refine W_if_false rfl ?_
     refine W_seq ?_
     refine W_region ?_
     refine L_move rfl rfl ?_
     refine L_move rfl rfl ?_
     refine L_nilCheck rfl rfl ?_
     refine L_fieldAddr rfl (off := 8) Try.underlying88 rfl rfl Try.ti23 rfl ?_
     refine L_load rfl Try.one23 rfl (by exact hs.oldcell hB (Own.nil.notin hBl)) ?_
     refine L_fcmp rfl rfl rfl (fun _ => by rw [binOp_float_cmp_lss, hq]; rfl) ?_
     refine L_assign rfl rfl ?_
     refine RL_then ?_
     refine W_if_true rfl ?_
     refine W_seq ?_
     refine W_region ?_
     refine L_assign rfl rfl ?_
     refine RL_then ?_
     refine W_ret' ?_
     refine Ex_block_ret ?_
     refine Ex_then_ret ?_
     refine Ex_done1 rfl rfl ?_
     exact ⟨_, rfl, by rw [e], hs⟩
end Go.Proofs.Ytdllakfojligjaa
