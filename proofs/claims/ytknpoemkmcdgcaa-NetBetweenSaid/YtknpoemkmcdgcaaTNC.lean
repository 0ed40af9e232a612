/-
  A part of the proof: what functions that the statement reaches do, or a plain law on what they do. Each theorem holds under its own premises alone.
-/
import Derived.Test.YtknpoemkmcdgcaaTNB2
namespace Go.Proofs.Ytknpoemkmcdgcaa
open Go Go.Lk
/-! ### Tracks -/
structure Tk where
  id : Int
  kind : Int
  xx : Nat
  xv : Nat
  xp : Nat
  xq : Nat
  xr : Nat
  yx : Nat
  yv : Nat
  yp : Nat
  yq : Nat
  yr : Nat
  seen : Int
  steps : Int
  last : Nat
def Tk.cells (t : Tk) : List Value := [.int .i64 t.id, .int .i8 t.kind, .float .f64 t.xx, .float .f64 t.xv, .float .f64 t.xp, .float .f64 t.xq, .float .f64 t.xr, .float .f64 t.yx, .float .f64 t.yv, .float .f64 t.yp, .float .f64 t.yq, .float .f64 t.yr, .int .u16 t.seen, .int .i64 t.steps, .float .f64 t.last]
def tk0 : Tk := ⟨0, 0, 0, 0, 0, 0, 0, 0, 0, 0, 0, 0, 0, 0, 0⟩
def tcs (ts : List Tk) : List Value := ts.flatMap Tk.cells
theorem tcs_len (ts : List Tk) : (tcs ts).length = ts.length * 15 := by
  induction ts with
  | nil => rfl
  | cons t ts ih =>
    show (t.cells ++ tcs ts).length = _
    rw [List.length_append, ih, List.length_cons]
    show 15 + _ = _
    omega
theorem tcs_get : ∀ {ts : List Tk} {i q : Nat} {v : Value}, i < ts.length → (ts.getD i tk0).cells[q]? = some v → (tcs ts)[i * 15 + q]? = some v
  | t :: ts, 0, q, v, _, h => by
    show (t.cells ++ tcs ts)[0 * 15 + q]? = some v
    rw [Nat.zero_mul, Nat.zero_add]
    have hq : q < t.cells.length := (List.getElem?_eq_some_iff.1 h).1
    rw [List.getElem?_append_left hq]; exact h
  | t :: ts, i + 1, q, v, hi, h => by
    show (t.cells ++ tcs ts)[(i + 1) * 15 + q]? = some v
    have hl : t.cells.length = 15 := rfl
    rw [List.getElem?_append_right (by omega), show (i + 1) * 15 + q - t.cells.length = i * 15 + q by omega]
    exact tcs_get (by simpa using hi) h
theorem tcs_one (ts : List Tk) : ∀ u ∈ tcs ts, u.oneCell' = true := by
  intro u hu
  obtain ⟨t, _, hu⟩ := List.mem_flatMap.1 hu
  unfold Tk.cells at hu
  simp only [List.mem_cons, List.not_mem_nil, or_false] at hu
  rcases hu with rfl | rfl | rfl | rfl | rfl | rfl | rfl | rfl | rfl | rfl | rfl | rfl | rfl | rfl | rfl <;> rfl
theorem tk_at {w : World} {a : Option Addr} {ts : List Tk} (h : SlC w a (tcs ts)) {i : Nat} (hi : i < ts.length) : CellsAt w ((aD a).add (i * 15)) (ts.getD i tk0).cells := h.sub fun _ _ hv => tcs_get hi hv
theorem notfirm_ok (t : Tk) (w0 : World) : Ret Try.prog 41 [.agg t.cells.toArray] w0 fun v w' => v = .bool (!decide (t.kind = 1)) ∧ HS w0 w' [] := by
  refine Ret.start fun w hs => ?_
  refine calls_of_W Try.func41 rfl rfl rfl ?_
  refine W_seq ?_
  refine W_region ?_
  refine L_box rfl hs rfl ?_
  intro b1 w hb1 hnb1 hs
  try dsimp only [List.set_cons_succ, List.set_cons_zero, List.cons_append, List.nil_append] at hs
  refine L_assign rfl rfl ?_
  refine RL_then ?_
  refine W_seq ?_
  refine W_region ?_
  replace hs : HS w0 w [(b1, Row 48 t.cells)] := hs
  refine L_fieldAddr rfl (off := 1) Try.underlying48 rfl rfl Try.ti43 rfl ?_
  refine L_load rfl Try.one43 rfl (by first | exact hs.cell (i := 0) rfl rfl) ?_
  first | refine L_neq rfl rfl rfl (dtrue (by omega)) ?_ | refine L_neq rfl rfl rfl (dfalse (by omega)) ?_ | refine L_neq rfl rfl rfl rfl ?_
  refine L_assign rfl rfl ?_
  refine RL_then ?_
  refine W_ret' ?_
  refine Ex_done1 rfl rfl ?_
  refine ⟨_, rfl, ?_, hs.forget (Own.cons hb1 Own.nil)⟩
  congr 1
  by_cases h : t.kind = 1 <;> simp [h]
theorem clone_ok (a : Option Addr) (k c : Nat) (ts : List Tk) (w0 : World) (hx : SlC w0 a (tcs ts)) (hk : ts.length = k) (hk2 : k ≤ 1000000) :
    Ret Try.prog 40 [.slice a k c] w0 fun v w' => ∃ M, HS w0 w' M ∧ Bl w0 48 15 v k (tcs ts) M := by
  refine Ret.start fun w hs => ?_
  refine calls_of_W Try.func40 rfl rfl rfl ?_
  refine W_seq ?_
  refine W_region ?_
  refine L_assign rfl rfl ?_
  refine RL_then ?_
  refine W_seq ?_
  refine W_seq ?_
  refine W_region ?_
  refine L_move rfl rfl ?_
  refine RL_val rfl (R_sliceNil Try.underlying38 rfl rfl) ?_
  refine RL_then ?_
  cases a with
  | none =>
    have hk0 : k = 0 := by
      apply Classical.byContradiction
      intro h
      have := hx.1 (by rw [tcs_len]; omega)
      cases this
    subst hk0
    obtain rfl : ts = [] := List.eq_nil_of_length_eq_zero hk
    · refine W_if_true rfl ?_
      refine W_seq ?_
      refine W_region ?_
      refine L_assign rfl rfl ?_
      refine RL_then ?_
      refine W_ret' ?_
      refine Ex_then_ret ?_
      refine Ex_done1 rfl rfl ?_
      exact ⟨_, rfl, [], hs, Bl.nil⟩
  | some ad =>
    · refine W_if_false rfl ?_
      refine W_skip' ?_
      refine Nx_then ?_
      refine W_seq ?_
      refine W_region ?_
      refine L_buildSlice rfl hs Try.underlying38 Try.ti48 rfl (by decide) rfl (by simp [Value.cells]) ?_
      intro b5 w hb5 hnb5 hs
      try simp only [List.flatMap_cons, List.flatMap_nil, cells_int, cells_float, cells_complex, cells_bool, cells_string, cells_pointer, cells_slice, cells_map, cells_agg, List.append_nil, List.set_cons_succ, List.set_cons_zero, List.cons_append, List.nil_append] at hs
      refine L_move rfl rfl ?_
      replace hs : HS w0 w ([] ++ [(b5, Row 48 ([] ++ []))]) := hs
      have hb : Bl w0 48 15 (.slice (some ⟨b5, 0, none⟩) 0 0) 0 [] [(b5, Row 48 ([] ++ []))] := Bl.row hb5 rfl rfl (Nat.le_refl _)
      refine L_appendS (L := []) rfl Try.underlying38 Try.ti48 rfl (by decide) hs hb rfl rfl (by rw [tcs_len, hk]) (hx.old hs hb.own) (tcs_one ts) (by omega) (by omega) ?_
      intro v' w M' hs hb'
      rw [Nat.zero_add, List.nil_append] at hb'
      refine L_assign rfl rfl ?_
      refine RL_then ?_
      refine W_ret' ?_
      refine Ex_done1 rfl rfl ?_
      exact ⟨_, rfl, M', hs, hb'⟩
end Go.Proofs.Ytknpoemkmcdgcaa
