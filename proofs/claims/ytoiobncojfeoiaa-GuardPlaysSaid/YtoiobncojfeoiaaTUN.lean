/-
  A part of the proof: what functions that the statement reaches do, or a plain law on what they do. Each theorem holds under its own premises alone.
-/
import Derived.Test.YtoiobncojfeoiaaTUM
namespace Go.Proofs.Ytoiobncojfeoiaa
open Go Go.Lk
def al0 : Al := ⟨0, 0, 0, 0⟩
theorem acs_get : ∀ {ts : List Al} {i q : Nat} {v : Value}, i < ts.length → (ts.getD i al0).cells[q]? = some v → (acs ts)[i * 4 + q]? = some v
  | t :: ts, 0, q, v, _, h => by
    show (t.cells ++ acs ts)[0 * 4 + q]? = some v
    rw [Nat.zero_mul, Nat.zero_add]
    have hq : q < t.cells.length := (List.getElem?_eq_some_iff.1 h).1
    rw [List.getElem?_append_left hq]; exact h
  | t :: ts, i + 1, q, v, hi, h => by
    show (t.cells ++ acs ts)[(i + 1) * 4 + q]? = some v
    have hl : t.cells.length = 4 := rfl
    rw [List.getElem?_append_right (by omega), show (i + 1) * 4 + q - t.cells.length = i * 4 + q by omega]
    exact acs_get (by simpa using hi) h
theorem al_at {w : World} {a : Option Addr} {ts : List Al} (h : SlC w a (acs ts)) {i : Nat} (hi : i < ts.length) : CellsAt w ((aD a).add (i * 4)) (ts.getD i al0).cells := h.sub fun _ _ hv => acs_get hi hv
theorem square_ok (w0 : World) : Ret Try.prog 27 [] w0 fun v w' => ∃ b, v = .slice (some ⟨b, 0, none⟩) 4 4 ∧ HS w0 w' [(b, Row 25 (pcs [(0, 0), (4616189618054758400, 0), (4616189618054758400, 4616189618054758400), (0, 4616189618054758400)]))] ∧ w0.heap.size ≤ b := by
  refine Ret.start fun w hs => ?_
  refine calls_of_W Try.func27 rfl rfl rfl ?_
  refine W_seq ?_
  refine W_region ?_
  refine L_assign rfl rfl ?_
  refine RL_then ?_
  refine W_seq ?_
  refine W_region ?_
  refine L_build rfl rfl (Pl.built Try.pl25 rfl) ?_
  refine L_build rfl rfl (Pl.built Try.pl25 rfl) ?_
  refine L_build rfl rfl (Pl.built Try.pl25 rfl) ?_
  refine L_build rfl rfl (Pl.built Try.pl25 rfl) ?_
  refine L_buildSlice rfl hs Try.underlying22 Try.ti25 rfl (by decide) rfl (by simp [Value.cells]) ?_
  intro b5 w hb5 hnb5 hs
  try simp only [List.flatMap_cons, List.flatMap_nil, cells_int, cells_float, cells_complex, cells_bool, cells_string, cells_pointer, cells_slice, cells_map, cells_agg, List.append_nil, List.set_cons_succ, List.set_cons_zero, List.cons_append, List.nil_append] at hs
  refine L_assign rfl rfl ?_
  refine RL_then ?_
  refine W_ret' ?_
  refine Ex_done1 rfl rfl ?_
  exact ⟨_, rfl, b5, rfl, hs, hb5⟩
theorem firm_ok (id : Int) (x y vx vy : Nat) (w0 : World) : Ret Try.prog 29 [.int .i64 id, .float .f64 x, .float .f64 y, .float .f64 vx, .float .f64 vy] w0 fun v w' => v = .agg (Tk.mk id 1 x vx 0 0 0 y vy 0 0 0 0 0 0).cells.toArray ∧ HS w0 w' [] := by
  refine Ret.start fun w hs => ?_
  refine calls_of_W Try.func29 rfl rfl rfl ?_
  refine W_seq ?_
  refine W_region ?_
  refine L_alloc rfl hs Try.ti60 ?_
  intro b10 w hb10 hnb10 hs
  try dsimp only [List.set_cons_succ, List.set_cons_zero, List.cons_append, List.nil_append] at hs
  refine RL_then ?_
  refine W_seq ?_
  refine W_region ?_
  refine L_move rfl rfl ?_
  refine L_move rfl rfl ?_
  refine L_move rfl rfl ?_
  refine L_build rfl rfl (Pl.builtN Try.pl57 rfl) ?_
  refine L_move rfl rfl ?_
  refine L_move rfl rfl ?_
  refine L_build rfl rfl (Pl.builtN Try.pl57 rfl) ?_
  refine L_build rfl rfl (Pl.builtN Try.pl60 rfl) ?_
  refine RL_set 18 (v' := .agg (Tk.mk id 1 x vx 0 0 0 y vy 0 0 0 0 0 0).cells.toArray) rfl (rfl) ?_
  refine L_storeA hs (i := 0) rfl Try.ti60 rfl rfl (by first | rfl | exact add_lit0 _ _ | exact Addr.add_lit .. | (rw [add_add]; exact add_lit0 _ _)) (by simp [Tk.cells]) (by exact Tk.one _) ?_
  intro w hs
  try dsimp only [List.set_cons_succ, List.set_cons_zero, List.cons_append, List.nil_append] at hs
  refine RL_then ?_
  refine W_ret' ?_
  refine Ex_doneC rfl rfl Try.agg60 Try.ti60 (by exact cellsAt_whole (cs := (Tk.mk id 1 x vx 0 0 0 y vy 0 0 0 0 0 0).cells) (hs.get (i := 0) rfl)) ?_
  exact ⟨_, rfl, rfl, hs.forget (Own.cons hb10 Own.nil)⟩
end Go.Proofs.Ytoiobncojfeoiaa
