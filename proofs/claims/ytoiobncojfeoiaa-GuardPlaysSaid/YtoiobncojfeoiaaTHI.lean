/-
  A part of the proof: what functions that the statement reaches do, or a plain law on what they do. Each theorem holds under its own premises alone.
-/
import Derived.Test.YtoiobncojfeoiaaTHH
import Derived.Test.YtoiobncojfeoiaaTUX
import Derived.Test.YtoiobncojfeoiaaTUV3
namespace Go.Lk
open Go
theorem R_lenS {P : Program} {n : Nat} {e : Env} {w : World} {p : String} {af : Array Edge} {d : Nat} {T ty : TypeId} {x : Operand} {s : ByteArray} (hT : P.underlying T = some .string) (hx : evalE e x = some (.string s)) :
    ∀ act, Kn n act e → (execOp act.eval (Oper.mk (some d) (.call { callee := .builtin .len, args := #[x], argTypes := #[T] }) ty p af none)).run P w = .ok (.value (.int .i64 s.size)) w := fun a ha => by
  have := run_len_string (P := P) w T ty s hT
  simp [execOp, ha.eval hx, resolve, invoke, builtin, this, goInt]
end Go.Lk
namespace Go.Proofs.Ytoiobncojfeoiaa
open Go Go.Lk
/-! ### GuardPlays: the operations, beyond -/
def op0 : OPr := ⟨0, ⟨#[]⟩, none, 0, [], 0, 0, none, 0, []⟩
def ocs (os : List OPr) : List Value := os.flatMap OPr.cells
theorem ocs_len (ts : List OPr) : (ocs ts).length = ts.length * 6 := by
  induction ts with
  | nil => rfl
  | cons t ts ih =>
    show (t.cells ++ ocs ts).length = _
    rw [List.length_append, ih, List.length_cons]
    show 6 + _ = _
    omega
theorem ocs_get : ∀ {ts : List OPr} {i q : Nat} {v : Value}, i < ts.length → (ts.getD i op0).cells[q]? = some v → (ocs ts)[i * 6 + q]? = some v
  | t :: ts, 0, q, v, _, h => by
    show (t.cells ++ ocs ts)[0 * 6 + q]? = some v
    rw [Nat.zero_mul, Nat.zero_add]
    have hq : q < t.cells.length := (List.getElem?_eq_some_iff.1 h).1
    rw [List.getElem?_append_left hq]; exact h
  | t :: ts, i + 1, q, v, hi, h => by
    show (t.cells ++ ocs ts)[(i + 1) * 6 + q]? = some v
    have hl : t.cells.length = 6 := rfl
    rw [List.getElem?_append_right (by omega), show (i + 1) * 6 + q - t.cells.length = i * 6 + q by omega]
    exact ocs_get (by simpa using hi) h
theorem ocs_at {w : World} {a : Option Addr} {ts : List OPr} (h : SlC w a (ocs ts)) {i : Nat} (hi : i < ts.length) : CellsAt w ((aD a).add (i * 6)) (ts.getD i op0).cells := h.sub fun _ _ hv => ocs_get hi hv
def otS (ls : List OPr) (i : Nat) : Nat := ((ls.take i).map (·.ts.length)).sum
theorem otS_succ {ls : List OPr} {i : Nat} (h : i < ls.length) : otS ls (i + 1) = otS ls i + (ls.getD i op0).ts.length := by
  unfold otS
  rw [List.take_add_one, List.getElem?_eq_getElem h, List.getD_eq_getElem?_getD, List.getElem?_eq_getElem h, List.map_append, List.sum_append]
  rfl
theorem otS_le {ls : List OPr} : ∀ {i j : Nat}, i ≤ j → j ≤ ls.length → otS ls i ≤ otS ls j := by
  intro i j hij
  induction j with
  | zero => intro _; obtain rfl : i = 0 := by omega
            exact Nat.le_refl _
  | succ j ih =>
    intro hj
    rcases Nat.lt_or_ge j i with h | h
    · obtain rfl : i = j + 1 := by omega
      exact Nat.le_refl _
    · rw [otS_succ hj]
      exact Nat.le_trans (ih h (by omega)) (Nat.le_add_right _ _)
structure OpOk (w0 : World) (o : OPr) : Prop where
  ps : SlC w0 o.ca (pcs o.ps)
  pl : o.ps.length ≤ 1000000000000000
  pb : PtB o.ps
  ts : SlC w0 o.ta (tcs o.ts)
  tl : o.ts.length ≤ 1000000000000000
theorem beyond_ok (a : Option Addr) (k c : Nat) (os : List OPr) (w0 : World) (hk : os.length = k) (hx : SlC w0 a (ocs os)) (hl : k ≤ 1000000000000000) (hb : ∀ i, i < k → (os.getD i op0).ps.length ≤ 1000000000000000 ∧ (os.getD i op0).ts.length ≤ 1000000000000000) :
    Ret Try.prog 23 [.slice a k c] w0 fun v w' => ∃ g, v = .bool g ∧ HS w0 w' [] ∧ (g = false → k + otS os k ≤ 4096 ∧ ∀ i, i < k → (os.getD i op0).ps.length ≤ 4096) := by
  refine Ret.start fun w hs => ?_
  refine calls_of_W Try.func23 rfl rfl rfl ?_
  refine W_seq ?_
  refine W_region ?_
  refine L_assign rfl rfl ?_
  refine RL_then ?_
  refine W_seq ?_
  refine W_region ?_
  refine L_move rfl rfl ?_
  refine L_len rfl Try.underlying69 rfl ?_
  refine L_assign rfl rfl ?_
  refine RL_then ?_
  refine W_seq ?_
  refine W_seq ?_
  refine W_region ?_
  refine L_assign rfl rfl ?_
  refine RL_then ?_
  refine W_block ?_
  refine W_loop3 (fun (i : Nat) (n : Nat) (w : World) => [(0, .slice a k c), (3, .int .i64 n), (4, .int .i64 i)]) (fun (i : Nat) (n : Nat) (w : World) => w) (fun (i : Nat) (n : Nat) (w : World) => (i ≤ k) ∧ (n ≤ 3000000000000000) ∧ (n = k + otS os i) ∧ (∀ j, j < i → (os.getD j op0).ps.length ≤ 4096) ∧ (HS w0 w [])) (fun (i : Nat) (n : Nat) (w : World) => k - i) (0) (k) (w) (is := [0, 3, 4]) rfl rfl ?_ ?_
  · exact ⟨Nat.zero_le _, by omega, by simp [otS], fun j hj => by omega, hs⟩
  · clear hs
    intro i n w hI
    show W _ _ _ _ [(0, .slice a k c), (3, .int .i64 n), (4, .int .i64 i)] w
    obtain ⟨hi, hn, hne, hps, hs⟩ := hI
    by_cases hlt : i < k ∧ n ≤ 4096
    · obtain ⟨hlt, hn6⟩ := hlt
      have h2 := hb i (by omega)
      by_cases hp : 4096 < (os.getD i op0).ps.length
      · refine W_seq ?_
        refine W_seq ?_
        refine W_region ?_
        refine L_move rfl rfl ?_
        refine L_move rfl rfl ?_
        refine L_len rfl Try.underlying69 rfl ?_
        first | refine L_lss rfl rfl rfl (dtrue (by omega)) ?_ | refine L_lss rfl rfl rfl (dfalse (by omega)) ?_ | refine L_lss rfl rfl rfl rfl ?_
        refine L_move rfl rfl ?_
        first | (refine RL_want rfl rfl ?_; refine L_move rfl rfl ?_) | refine RL_skip rfl rfl rfl rfl ?_ | refine RL_skipU rfl rfl rfl ?_
        first | (refine RL_want rfl rfl ?_; (first | refine L_leq rfl rfl rfl (dtrue (by omega)) ?_ | refine L_leq rfl rfl rfl (dfalse (by omega)) ?_ | refine L_leq rfl rfl rfl rfl ?_)) | refine RL_skip rfl rfl rfl rfl ?_ | refine RL_skipU rfl rfl rfl ?_
        first | refine L_pick_t rfl rfl rfl ?_ | refine L_pick_f rfl rfl rfl ?_
        refine RL_then ?_
        refine W_if_true rfl ?_
        refine W_skip' ?_
        refine Nx_then ?_
        refine W_seq ?_
        refine W_block ?_
        refine W_seq ?_
        refine W_region ?_
        refine L_move rfl rfl ?_
        refine L_move rfl rfl ?_
        refine L_move rfl rfl ?_
        refine L_idxN rfl Try.underlying69 Try.ti75 rfl rfl (by with_reducible first | exact natc_k _ | exact natc_a1 _ | exact natc_0 | exact natc_1 | exact natc_2 | exact natc_s1 _ (by omega) | exact natc_a2 _ | exact natc_add _ _ | exact natc_mul _ _ | exact natc (by omega)) (by omega) (hx.ao (by rw [ocs_len]; omega)) ?_
        refine L_fieldAddr rfl (off := 5) Try.underlying75 rfl rfl Try.ti44 rfl ?_
        refine L_load rfl Try.one44 rfl (by exact ocs_at (hx.old hs Own.nil) (show i < os.length by omega) 5 _ rfl) ?_
        refine L_len rfl Try.underlying44 rfl ?_
        first | refine L_add rfl rfl rfl (wrp_i64 (by omega)) ?_ | refine L_add rfl rfl rfl rfl ?_
        refine L_assign rfl rfl ?_
        refine RL_then ?_
        refine W_seq ?_
        refine W_region ?_
        refine L_move rfl rfl ?_
        refine L_move rfl rfl ?_
        refine L_idxN rfl Try.underlying69 Try.ti75 rfl rfl (by with_reducible first | exact natc_k _ | exact natc_a1 _ | exact natc_0 | exact natc_1 | exact natc_2 | exact natc_s1 _ (by omega) | exact natc_a2 _ | exact natc_add _ _ | exact natc_mul _ _ | exact natc (by omega)) (by omega) (hx.ao (by rw [ocs_len]; omega)) ?_
        refine L_fieldAddr rfl (off := 1) Try.underlying75 rfl rfl Try.ti40 rfl ?_
        refine L_fieldAddr rfl (off := 1) Try.underlying40 rfl rfl Try.ti22 rfl ?_
        refine L_load rfl Try.one22 rfl (by exact ocs_at (hx.old hs Own.nil) (show i < os.length by omega) 2 _ rfl) ?_
        refine L_len rfl Try.underlying22 rfl ?_
        first | refine L_gtr rfl rfl rfl (dtrue (by omega)) ?_ | refine L_gtr rfl rfl rfl (dfalse (by omega)) ?_ | refine L_gtr rfl rfl rfl rfl ?_
        refine L_move rfl rfl ?_
        first | (refine RL_want rfl rfl ?_; refine L_move rfl rfl ?_) | refine RL_skip rfl rfl rfl rfl ?_ | refine RL_skipU rfl rfl rfl ?_
        first | (refine RL_want rfl rfl ?_; refine L_move rfl rfl ?_) | refine RL_skip rfl rfl rfl rfl ?_ | refine RL_skipU rfl rfl rfl ?_
        first | (refine RL_want rfl rfl ?_; refine L_idxN rfl Try.underlying69 Try.ti75 rfl rfl (by with_reducible first | exact natc_k _ | exact natc_a1 _ | exact natc_0 | exact natc_1 | exact natc_2 | exact natc_s1 _ (by omega) | exact natc_a2 _ | exact natc_add _ _ | exact natc_mul _ _ | exact natc (by omega)) (by omega) (hx.ao (by rw [ocs_len]; omega)) ?_) | refine RL_skip rfl rfl rfl rfl ?_ | refine RL_skipU rfl rfl rfl ?_
        first | (refine RL_want rfl rfl ?_; refine L_fieldAddr rfl (off := 1) Try.underlying75 rfl rfl Try.ti40 rfl ?_) | refine RL_skip rfl rfl rfl rfl ?_ | refine RL_skipU rfl rfl rfl ?_
        first | (refine RL_want rfl rfl ?_; refine L_fieldAddr rfl (off := 0) Try.underlying40 rfl rfl Try.ti9 rfl ?_) | refine RL_skip rfl rfl rfl rfl ?_ | refine RL_skipU rfl rfl rfl ?_
        first | (refine RL_want rfl rfl ?_; refine L_load rfl Try.one9 rfl (by exact ocs_at (hx.old hs Own.nil) (show i < os.length by omega) 1 _ rfl) ?_) | refine RL_skip rfl rfl rfl rfl ?_ | refine RL_skipU rfl rfl rfl ?_
        first | (refine RL_want rfl rfl ?_; refine RL_val rfl (R_lenS Try.underlying9 rfl) ?_) | refine RL_skip rfl rfl rfl rfl ?_ | refine RL_skipU rfl rfl rfl ?_
        first | (refine RL_want rfl rfl ?_; (first | refine L_gtr rfl rfl rfl (dtrue (by omega)) ?_ | refine L_gtr rfl rfl rfl (dfalse (by omega)) ?_ | refine L_gtr rfl rfl rfl rfl ?_)) | refine RL_skip rfl rfl rfl rfl ?_ | refine RL_skipU rfl rfl rfl ?_
        first | refine L_pick_t rfl rfl rfl ?_ | refine L_pick_f rfl rfl rfl ?_
        refine RL_then ?_
        refine W_if_true rfl ?_
        refine W_seq ?_
        refine W_region ?_
        refine L_assign rfl rfl ?_
        refine RL_then ?_
        refine W_ret' ?_
        refine Ex_block_ret ?_
        refine Ex_then_ret ?_
        refine Ex_loop_ret ?_
        refine Ex_block_ret ?_
        refine Ex_then_ret ?_
        refine Ex_done1 rfl rfl ?_
        exact ⟨_, rfl, true, rfl, hs, fun h => by cases h⟩
      · by_cases hnm : 65536 < (os.getD i op0).nm.size
        · refine W_seq ?_
          refine W_seq ?_
          refine W_region ?_
          refine L_move rfl rfl ?_
          refine L_move rfl rfl ?_
          refine L_len rfl Try.underlying69 rfl ?_
          first | refine L_lss rfl rfl rfl (dtrue (by omega)) ?_ | refine L_lss rfl rfl rfl (dfalse (by omega)) ?_ | refine L_lss rfl rfl rfl rfl ?_
          refine L_move rfl rfl ?_
          first | (refine RL_want rfl rfl ?_; refine L_move rfl rfl ?_) | refine RL_skip rfl rfl rfl rfl ?_ | refine RL_skipU rfl rfl rfl ?_
          first | (refine RL_want rfl rfl ?_; (first | refine L_leq rfl rfl rfl (dtrue (by omega)) ?_ | refine L_leq rfl rfl rfl (dfalse (by omega)) ?_ | refine L_leq rfl rfl rfl rfl ?_)) | refine RL_skip rfl rfl rfl rfl ?_ | refine RL_skipU rfl rfl rfl ?_
          first | refine L_pick_t rfl rfl rfl ?_ | refine L_pick_f rfl rfl rfl ?_
          refine RL_then ?_
          refine W_if_true rfl ?_
          refine W_skip' ?_
          refine Nx_then ?_
          refine W_seq ?_
          refine W_block ?_
          refine W_seq ?_
          refine W_region ?_
          refine L_move rfl rfl ?_
          refine L_move rfl rfl ?_
          refine L_move rfl rfl ?_
          refine L_idxN rfl Try.underlying69 Try.ti75 rfl rfl (by with_reducible first | exact natc_k _ | exact natc_a1 _ | exact natc_0 | exact natc_1 | exact natc_2 | exact natc_s1 _ (by omega) | exact natc_a2 _ | exact natc_add _ _ | exact natc_mul _ _ | exact natc (by omega)) (by omega) (hx.ao (by rw [ocs_len]; omega)) ?_
          refine L_fieldAddr rfl (off := 5) Try.underlying75 rfl rfl Try.ti44 rfl ?_
          refine L_load rfl Try.one44 rfl (by exact ocs_at (hx.old hs Own.nil) (show i < os.length by omega) 5 _ rfl) ?_
          refine L_len rfl Try.underlying44 rfl ?_
          first | refine L_add rfl rfl rfl (wrp_i64 (by omega)) ?_ | refine L_add rfl rfl rfl rfl ?_
          refine L_assign rfl rfl ?_
          refine RL_then ?_
          refine W_seq ?_
          refine W_region ?_
          refine L_move rfl rfl ?_
          refine L_move rfl rfl ?_
          refine L_idxN rfl Try.underlying69 Try.ti75 rfl rfl (by with_reducible first | exact natc_k _ | exact natc_a1 _ | exact natc_0 | exact natc_1 | exact natc_2 | exact natc_s1 _ (by omega) | exact natc_a2 _ | exact natc_add _ _ | exact natc_mul _ _ | exact natc (by omega)) (by omega) (hx.ao (by rw [ocs_len]; omega)) ?_
          refine L_fieldAddr rfl (off := 1) Try.underlying75 rfl rfl Try.ti40 rfl ?_
          refine L_fieldAddr rfl (off := 1) Try.underlying40 rfl rfl Try.ti22 rfl ?_
          refine L_load rfl Try.one22 rfl (by exact ocs_at (hx.old hs Own.nil) (show i < os.length by omega) 2 _ rfl) ?_
          refine L_len rfl Try.underlying22 rfl ?_
          first | refine L_gtr rfl rfl rfl (dtrue (by omega)) ?_ | refine L_gtr rfl rfl rfl (dfalse (by omega)) ?_ | refine L_gtr rfl rfl rfl rfl ?_
          refine L_move rfl rfl ?_
          first | (refine RL_want rfl rfl ?_; refine L_move rfl rfl ?_) | refine RL_skip rfl rfl rfl rfl ?_ | refine RL_skipU rfl rfl rfl ?_
          first | (refine RL_want rfl rfl ?_; refine L_move rfl rfl ?_) | refine RL_skip rfl rfl rfl rfl ?_ | refine RL_skipU rfl rfl rfl ?_
          first | (refine RL_want rfl rfl ?_; refine L_idxN rfl Try.underlying69 Try.ti75 rfl rfl (by with_reducible first | exact natc_k _ | exact natc_a1 _ | exact natc_0 | exact natc_1 | exact natc_2 | exact natc_s1 _ (by omega) | exact natc_a2 _ | exact natc_add _ _ | exact natc_mul _ _ | exact natc (by omega)) (by omega) (hx.ao (by rw [ocs_len]; omega)) ?_) | refine RL_skip rfl rfl rfl rfl ?_ | refine RL_skipU rfl rfl rfl ?_
          first | (refine RL_want rfl rfl ?_; refine L_fieldAddr rfl (off := 1) Try.underlying75 rfl rfl Try.ti40 rfl ?_) | refine RL_skip rfl rfl rfl rfl ?_ | refine RL_skipU rfl rfl rfl ?_
          first | (refine RL_want rfl rfl ?_; refine L_fieldAddr rfl (off := 0) Try.underlying40 rfl rfl Try.ti9 rfl ?_) | refine RL_skip rfl rfl rfl rfl ?_ | refine RL_skipU rfl rfl rfl ?_
          first | (refine RL_want rfl rfl ?_; refine L_load rfl Try.one9 rfl (by exact ocs_at (hx.old hs Own.nil) (show i < os.length by omega) 1 _ rfl) ?_) | refine RL_skip rfl rfl rfl rfl ?_ | refine RL_skipU rfl rfl rfl ?_
          first | (refine RL_want rfl rfl ?_; refine RL_val rfl (R_lenS Try.underlying9 rfl) ?_) | refine RL_skip rfl rfl rfl rfl ?_ | refine RL_skipU rfl rfl rfl ?_
          first | (refine RL_want rfl rfl ?_; (first | refine L_gtr rfl rfl rfl (dtrue (by omega)) ?_ | refine L_gtr rfl rfl rfl (dfalse (by omega)) ?_ | refine L_gtr rfl rfl rfl rfl ?_)) | refine RL_skip rfl rfl rfl rfl ?_ | refine RL_skipU rfl rfl rfl ?_
          first | refine L_pick_t rfl rfl rfl ?_ | refine L_pick_f rfl rfl rfl ?_
          refine RL_then ?_
          refine W_if_true rfl ?_
          refine W_seq ?_
          refine W_region ?_
          refine L_assign rfl rfl ?_
          refine RL_then ?_
          refine W_ret' ?_
          refine Ex_block_ret ?_
          refine Ex_then_ret ?_
          refine Ex_loop_ret ?_
          refine Ex_block_ret ?_
          refine Ex_then_ret ?_
          refine Ex_done1 rfl rfl ?_
          exact ⟨_, rfl, true, rfl, hs, fun h => by cases h⟩
        · refine W_seq ?_
          refine W_seq ?_
          refine W_region ?_
          refine L_move rfl rfl ?_
          refine L_move rfl rfl ?_
          refine L_len rfl Try.underlying69 rfl ?_
          first | refine L_lss rfl rfl rfl (dtrue (by omega)) ?_ | refine L_lss rfl rfl rfl (dfalse (by omega)) ?_ | refine L_lss rfl rfl rfl rfl ?_
          refine L_move rfl rfl ?_
          first | (refine RL_want rfl rfl ?_; refine L_move rfl rfl ?_) | refine RL_skip rfl rfl rfl rfl ?_ | refine RL_skipU rfl rfl rfl ?_
          first | (refine RL_want rfl rfl ?_; (first | refine L_leq rfl rfl rfl (dtrue (by omega)) ?_ | refine L_leq rfl rfl rfl (dfalse (by omega)) ?_ | refine L_leq rfl rfl rfl rfl ?_)) | refine RL_skip rfl rfl rfl rfl ?_ | refine RL_skipU rfl rfl rfl ?_
          first | refine L_pick_t rfl rfl rfl ?_ | refine L_pick_f rfl rfl rfl ?_
          refine RL_then ?_
          refine W_if_true rfl ?_
          refine W_skip' ?_
          refine Nx_then ?_
          refine W_seq ?_
          refine W_block ?_
          refine W_seq ?_
          refine W_region ?_
          refine L_move rfl rfl ?_
          refine L_move rfl rfl ?_
          refine L_move rfl rfl ?_
          refine L_idxN rfl Try.underlying69 Try.ti75 rfl rfl (by with_reducible first | exact natc_k _ | exact natc_a1 _ | exact natc_0 | exact natc_1 | exact natc_2 | exact natc_s1 _ (by omega) | exact natc_a2 _ | exact natc_add _ _ | exact natc_mul _ _ | exact natc (by omega)) (by omega) (hx.ao (by rw [ocs_len]; omega)) ?_
          refine L_fieldAddr rfl (off := 5) Try.underlying75 rfl rfl Try.ti44 rfl ?_
          refine L_load rfl Try.one44 rfl (by exact ocs_at (hx.old hs Own.nil) (show i < os.length by omega) 5 _ rfl) ?_
          refine L_len rfl Try.underlying44 rfl ?_
          first | refine L_add rfl rfl rfl (wrp_i64 (by omega)) ?_ | refine L_add rfl rfl rfl rfl ?_
          refine L_assign rfl rfl ?_
          refine RL_then ?_
          refine W_seq ?_
          refine W_region ?_
          refine L_move rfl rfl ?_
          refine L_move rfl rfl ?_
          refine L_idxN rfl Try.underlying69 Try.ti75 rfl rfl (by with_reducible first | exact natc_k _ | exact natc_a1 _ | exact natc_0 | exact natc_1 | exact natc_2 | exact natc_s1 _ (by omega) | exact natc_a2 _ | exact natc_add _ _ | exact natc_mul _ _ | exact natc (by omega)) (by omega) (hx.ao (by rw [ocs_len]; omega)) ?_
          refine L_fieldAddr rfl (off := 1) Try.underlying75 rfl rfl Try.ti40 rfl ?_
          refine L_fieldAddr rfl (off := 1) Try.underlying40 rfl rfl Try.ti22 rfl ?_
          refine L_load rfl Try.one22 rfl (by exact ocs_at (hx.old hs Own.nil) (show i < os.length by omega) 2 _ rfl) ?_
          refine L_len rfl Try.underlying22 rfl ?_
          first | refine L_gtr rfl rfl rfl (dtrue (by omega)) ?_ | refine L_gtr rfl rfl rfl (dfalse (by omega)) ?_ | refine L_gtr rfl rfl rfl rfl ?_
          refine L_move rfl rfl ?_
          first | (refine RL_want rfl rfl ?_; refine L_move rfl rfl ?_) | refine RL_skip rfl rfl rfl rfl ?_ | refine RL_skipU rfl rfl rfl ?_
          first | (refine RL_want rfl rfl ?_; refine L_move rfl rfl ?_) | refine RL_skip rfl rfl rfl rfl ?_ | refine RL_skipU rfl rfl rfl ?_
          first | (refine RL_want rfl rfl ?_; refine L_idxN rfl Try.underlying69 Try.ti75 rfl rfl (by with_reducible first | exact natc_k _ | exact natc_a1 _ | exact natc_0 | exact natc_1 | exact natc_2 | exact natc_s1 _ (by omega) | exact natc_a2 _ | exact natc_add _ _ | exact natc_mul _ _ | exact natc (by omega)) (by omega) (hx.ao (by rw [ocs_len]; omega)) ?_) | refine RL_skip rfl rfl rfl rfl ?_ | refine RL_skipU rfl rfl rfl ?_
          first | (refine RL_want rfl rfl ?_; refine L_fieldAddr rfl (off := 1) Try.underlying75 rfl rfl Try.ti40 rfl ?_) | refine RL_skip rfl rfl rfl rfl ?_ | refine RL_skipU rfl rfl rfl ?_
          first | (refine RL_want rfl rfl ?_; refine L_fieldAddr rfl (off := 0) Try.underlying40 rfl rfl Try.ti9 rfl ?_) | refine RL_skip rfl rfl rfl rfl ?_ | refine RL_skipU rfl rfl rfl ?_
          first | (refine RL_want rfl rfl ?_; refine L_load rfl Try.one9 rfl (by exact ocs_at (hx.old hs Own.nil) (show i < os.length by omega) 1 _ rfl) ?_) | refine RL_skip rfl rfl rfl rfl ?_ | refine RL_skipU rfl rfl rfl ?_
          first | (refine RL_want rfl rfl ?_; refine RL_val rfl (R_lenS Try.underlying9 rfl) ?_) | refine RL_skip rfl rfl rfl rfl ?_ | refine RL_skipU rfl rfl rfl ?_
          first | (refine RL_want rfl rfl ?_; (first | refine L_gtr rfl rfl rfl (dtrue (by omega)) ?_ | refine L_gtr rfl rfl rfl (dfalse (by omega)) ?_ | refine L_gtr rfl rfl rfl rfl ?_)) | refine RL_skip rfl rfl rfl rfl ?_ | refine RL_skipU rfl rfl rfl ?_
          first | refine L_pick_t rfl rfl rfl ?_ | refine L_pick_f rfl rfl rfl ?_
          refine RL_then ?_
          refine W_if_false rfl ?_
          refine W_skip' ?_
          refine Nx_block ?_
          refine Nx_then ?_
          refine W_region ?_
          refine L_move rfl rfl ?_
          first | refine L_add rfl rfl rfl (wrp_i64 (by omega)) ?_ | refine L_add rfl rfl rfl rfl ?_
          refine L_assign rfl rfl ?_
          refine RL_nil' ?_
          refine Nx_loopP (i + 1, n + (os.getD i op0).ts.length, w) (is := [0, 3, 4]) (I' := (fun (i : Nat) (n : Nat) (w : World) => (i ≤ k) ∧ (n ≤ 3000000000000000) ∧ (n = k + otS os i) ∧ (∀ j, j < i → (os.getD j op0).ps.length ≤ 4096) ∧ (HS w0 w [])) (i + 1) (n + (os.getD i op0).ts.length) (w)) rfl rfl rfl ?_ ?_
          · refine ⟨by omega, by omega, by rw [otS_succ (by omega)]; omega, fun j hj => ?_, hs⟩
            by_cases hji : j = i
            · rw [hji]; omega
            · exact hps j (by omega)
          · omega
    · rcases (show k ≤ i ∨ (i < k ∧ 4096 < n) by omega) with h5 | h5
      · obtain rfl : i = k := by omega
        by_cases hbig : 4096 < n
        · refine W_seq ?_
          refine W_seq ?_
          refine W_region ?_
          refine L_move rfl rfl ?_
          refine L_move rfl rfl ?_
          refine L_len rfl Try.underlying69 rfl ?_
          first | refine L_lss rfl rfl rfl (dtrue (by omega)) ?_ | refine L_lss rfl rfl rfl (dfalse (by omega)) ?_ | refine L_lss rfl rfl rfl rfl ?_
          refine L_move rfl rfl ?_
          first | (refine RL_want rfl rfl ?_; refine L_move rfl rfl ?_) | refine RL_skip rfl rfl rfl rfl ?_ | refine RL_skipU rfl rfl rfl ?_
          first | (refine RL_want rfl rfl ?_; (first | refine L_leq rfl rfl rfl (dtrue (by omega)) ?_ | refine L_leq rfl rfl rfl (dfalse (by omega)) ?_ | refine L_leq rfl rfl rfl rfl ?_)) | refine RL_skip rfl rfl rfl rfl ?_ | refine RL_skipU rfl rfl rfl ?_
          first | refine L_pick_t rfl rfl rfl ?_ | refine L_pick_f rfl rfl rfl ?_
          refine RL_then ?_
          refine W_if_false rfl ?_
          refine W_exit' ?_
          refine Ex_then_exit ?_
          refine Ex_loop_exit ?_
          refine Ex_block_hit ?_
          refine Nx_then ?_
          refine W_seq ?_
          refine W_region ?_
          refine L_move rfl rfl ?_
          first | refine L_gtr rfl rfl rfl (dtrue (by omega)) ?_ | refine L_gtr rfl rfl rfl (dfalse (by omega)) ?_ | refine L_gtr rfl rfl rfl rfl ?_
          refine L_assign rfl rfl ?_
          refine RL_then ?_
          refine W_ret' ?_
          refine Ex_done1 rfl rfl ?_
          exact ⟨_, rfl, true, rfl, hs, fun h => by cases h⟩
        · refine W_seq ?_
          refine W_seq ?_
          refine W_region ?_
          refine L_move rfl rfl ?_
          refine L_move rfl rfl ?_
          refine L_len rfl Try.underlying69 rfl ?_
          first | refine L_lss rfl rfl rfl (dtrue (by omega)) ?_ | refine L_lss rfl rfl rfl (dfalse (by omega)) ?_ | refine L_lss rfl rfl rfl rfl ?_
          refine L_move rfl rfl ?_
          first | (refine RL_want rfl rfl ?_; refine L_move rfl rfl ?_) | refine RL_skip rfl rfl rfl rfl ?_ | refine RL_skipU rfl rfl rfl ?_
          first | (refine RL_want rfl rfl ?_; (first | refine L_leq rfl rfl rfl (dtrue (by omega)) ?_ | refine L_leq rfl rfl rfl (dfalse (by omega)) ?_ | refine L_leq rfl rfl rfl rfl ?_)) | refine RL_skip rfl rfl rfl rfl ?_ | refine RL_skipU rfl rfl rfl ?_
          first | refine L_pick_t rfl rfl rfl ?_ | refine L_pick_f rfl rfl rfl ?_
          refine RL_then ?_
          refine W_if_false rfl ?_
          refine W_exit' ?_
          refine Ex_then_exit ?_
          refine Ex_loop_exit ?_
          refine Ex_block_hit ?_
          refine Nx_then ?_
          refine W_seq ?_
          refine W_region ?_
          refine L_move rfl rfl ?_
          first | refine L_gtr rfl rfl rfl (dtrue (by omega)) ?_ | refine L_gtr rfl rfl rfl (dfalse (by omega)) ?_ | refine L_gtr rfl rfl rfl rfl ?_
          refine L_assign rfl rfl ?_
          refine RL_then ?_
          refine W_ret' ?_
          refine Ex_done1 rfl rfl ?_
          exact ⟨_, rfl, false, rfl, hs, fun _ => ⟨by omega, hps⟩⟩
      · refine W_seq ?_
        refine W_seq ?_
        refine W_region ?_
        refine L_move rfl rfl ?_
        refine L_move rfl rfl ?_
        refine L_len rfl Try.underlying69 rfl ?_
        first | refine L_lss rfl rfl rfl (dtrue (by omega)) ?_ | refine L_lss rfl rfl rfl (dfalse (by omega)) ?_ | refine L_lss rfl rfl rfl rfl ?_
        refine L_move rfl rfl ?_
        first | (refine RL_want rfl rfl ?_; refine L_move rfl rfl ?_) | refine RL_skip rfl rfl rfl rfl ?_ | refine RL_skipU rfl rfl rfl ?_
        first | (refine RL_want rfl rfl ?_; (first | refine L_leq rfl rfl rfl (dtrue (by omega)) ?_ | refine L_leq rfl rfl rfl (dfalse (by omega)) ?_ | refine L_leq rfl rfl rfl rfl ?_)) | refine RL_skip rfl rfl rfl rfl ?_ | refine RL_skipU rfl rfl rfl ?_
        first | refine L_pick_t rfl rfl rfl ?_ | refine L_pick_f rfl rfl rfl ?_
        refine RL_then ?_
        refine W_if_false rfl ?_
        refine W_exit' ?_
        refine Ex_then_exit ?_
        refine Ex_loop_exit ?_
        refine Ex_block_hit ?_
        refine Nx_then ?_
        refine W_seq ?_
        refine W_region ?_
        refine L_move rfl rfl ?_
        first | refine L_gtr rfl rfl rfl (dtrue (by omega)) ?_ | refine L_gtr rfl rfl rfl (dfalse (by omega)) ?_ | refine L_gtr rfl rfl rfl rfl ?_
        refine L_assign rfl rfl ?_
        refine RL_then ?_
        refine W_ret' ?_
        refine Ex_done1 rfl rfl ?_
        exact ⟨_, rfl, true, rfl, hs, fun h => by cases h⟩
/-! ### What New gives, either way -/
def ga (nl : Bool) (B : Nat) : Option Addr := if nl then none else some ⟨B, 0, none⟩
def en (nl : Bool) : Int := if nl then 6 else 0
def gb0 (far : Nat) (nl : Bool) (B m : Nat) : Bks := if nl then [] else gbs B far (.slice none 0 0) [] 0 m [] 0 []
def rb0 (far : Nat) (nl : Bool) (BR : Nat) : Bks := if nl then [] else rbs BR far (.slice none 0 0) [] (.slice none 0 0) [] 0 []
theorem ga_none (nl : Bool) (B : Nat) : (ga nl B).isNone = nl := by cases nl <;> rfl
theorem ROk.mono {w0 w : World} {B : Nat} {vZ : Value} {MZ : Bks} {vK : Value} {MK : Bks} {zs : List Zn} {ks : List Kn} (h : ROk w B vZ MZ vK MK zs ks) (hle : w0.heap.size ≤ w.heap.size) : ROk w0 B vZ MZ vK MK zs ks :=
  ⟨Nat.le_trans hle h.ownB, h.zones.mono hle, h.known.mono hle, fun z hz => ⟨(h.each z hz).bl.mono hle, (h.each z hz).len⟩, h.len⟩
theorem new_any (w0 w : World) (A : Bks) (hs : HS w0 w A) (far : Nat) (nl : Bool) (hn : badNew far = nl) :
    Ret Try.prog 13 [.float .f64 far] w fun r w' => ∃ B m, r = .tuple #[.pointer (ga nl B), .int .i64 (en nl)] ∧ HS w0 w' (A ++ gb0 far nl B m) ∧ Own w0 (gb0 far nl B m) ∧ (nl = false → GOk w0 B (.slice none 0 0) [] m [] 0 []) := by
  refine Calls.mono (newG far w) fun e w' => ?_
  rintro ⟨r, rfl, h⟩
  refine ⟨_, rfl, ?_⟩
  rcases h with ⟨h1, rfl, hs1⟩ | ⟨h1, B, m, rfl, hs1, hG⟩
  · rw [h1] at hn; subst hn
    exact ⟨0, 0, rfl, by show HS w0 w' (A ++ []); rw [List.append_nil]; exact hs.nil hs1, Own.nil, fun h => by cases h⟩
  · rw [h1] at hn; subst hn
    have hG0 := hG.mono hs.size
    exact ⟨B, m, rfl, hs.call hs1 hG.owns, hG0.owns, fun _ => hG0⟩
theorem rnew_any (w0 w : World) (A : Bks) (hs : HS w0 w A) (far : Nat) (hf : far < 18446744073709551616) (nl : Bool) (hn : badNew far = nl) :
    Ret Try.prog 24 [.float .f64 far] w fun r w' => ∃ BR, r = .tuple #[.pointer (ga nl BR), .int .i64 (en nl)] ∧ HS w0 w' (A ++ rb0 far nl BR) ∧ Own w0 (rb0 far nl BR) ∧ (nl = false → ROk w0 BR (.slice none 0 0) [] (.slice none 0 0) [] [] []) := by
  rw [← bad_same hf] at hn
  refine Calls.mono (rnew_ok far w) fun e w' => ?_
  rintro ⟨r, rfl, h⟩
  refine ⟨_, rfl, ?_⟩
  rcases h with ⟨h1, rfl, hs1⟩ | ⟨h1, B, rfl, hs1, hG⟩
  · rw [h1] at hn; subst hn
    exact ⟨0, rfl, by show HS w0 w' (A ++ []); rw [List.append_nil]; exact hs.nil hs1, Own.nil, fun h => by cases h⟩
  · rw [h1] at hn; subst hn
    have hG0 := hG.mono hs.size
    exact ⟨B, rfl, hs.call hs1 hG.owns, hG0.owns, fun _ => hG0⟩
def gs0 : GS := ⟨.slice none 0 0, [], 0, [], 0, [], .slice none 0 0, [], .slice none 0 0, [], 0, [], []⟩
def bkN (nl : Bool) (B m BR far : Nat) (s : GS) : Bks := if nl then [] else s.bk B m BR far
def okN (w0 : World) (nl : Bool) (B m BR : Nat) (n : Nat) (s : GS) : Prop := if nl then True else s.ok w0 B m BR n
theorem bkN0 (nl : Bool) (B m BR far : Nat) : bkN nl B m BR far gs0 = gb0 far nl B m ++ rb0 far nl BR := by cases nl <;> rfl
theorem okN0 {w0 : World} {nl : Bool} {B m BR : Nat} (hG : nl = false → GOk w0 B (.slice none 0 0) [] m [] 0 []) (hR : nl = false → ROk w0 BR (.slice none 0 0) [] (.slice none 0 0) [] [] []) : okN w0 nl B m BR 0 gs0 := by
  cases nl with
  | true => trivial
  | false => exact (show GS.ok w0 B m BR 0 gs0 from ⟨hG rfl, hR rfl, (fun x hx => by cases hx), (fun x hx => by cases hx), List.nodup_nil, (fun z hz => by cases hz), rfl, rfl, Int.le_refl _, Int.le_refl _, kinv_nil, Nat.zero_le _⟩)
theorem Duo.any {w0 : World} (σ : Type) : Duo w0 (.pointer none) (.pointer none) σ (fun _ => []) (fun _ _ => True) := by
  have D := duo_nil w0
  refine ⟨fun _ => Own.nil, fun _ _ => trivial, ?_, ?_, ?_, ?_⟩
  · intro n s w R nm a k c ps h1 _ h2 h3 h4 h5 h6 h7
    refine Calls.mono (D.add n () w R nm a k c ps h1 trivial h2 h3 h4 h5 h6 h7) fun e w' => ?_
    rintro ⟨r, rfl, _, x, e, h8, h9, h10, h11⟩
    refine ⟨_, rfl, s, x, e, h8, h9, h10, fun w2 R2 a2 c2 g1 g2 g3 => ?_⟩
    refine Calls.mono (h11 w2 R2 a2 c2 g1 g2 g3) fun e w' => ?_
    rintro ⟨r, rfl, h12, _, h13, _⟩
    exact ⟨_, rfl, h12, s, h13, trivial⟩
  · intro n s w R q h1 _ h2 h3
    refine Calls.mono (D.drop n () w R q h1 trivial h2 h3) fun e w' => ?_
    rintro ⟨r, rfl, _, e, h8, h9, h10, h11⟩
    refine ⟨_, rfl, s, e, h8, h9, h10, fun w2 R2 g1 g2 => ?_⟩
    refine Calls.mono (h11 w2 R2 g1 g2) fun e w' => ?_
    rintro ⟨r, rfl, h12, _, h13, _⟩
    exact ⟨_, rfl, h12, s, h13, trivial⟩
  · intro n s w R time a k c ts h1 _ h2 h3 h4 h5 h6
    refine Calls.mono (D.watch n () w R time a k c ts h1 trivial h2 h3 h4 h5 h6) fun e w' => ?_
    rintro ⟨r, rfl, _, N, told, h8, h9, h10, h10', h11⟩
    refine ⟨_, rfl, s, N, told, h8, h9, h10, h10', fun w2 R2 a2 c2 g1 g2 g3 => ?_⟩
    refine Calls.mono (h11 w2 R2 a2 c2 g1 g2 g3) fun e w' => ?_
    rintro ⟨r, rfl, _, N2, h12, h13, _⟩
    exact ⟨_, rfl, s, N2, h12, h13, trivial⟩
  · intro n s w R q h1 _ h2
    exact D.inn n () w R q h1 trivial h2
theorem duoN (w0 : World) (nl : Bool) (B m BR far : Nat) : Duo w0 (.pointer (ga nl B)) (.pointer (ga nl BR)) GS (bkN nl B m BR far) (okN w0 nl B m BR) := by
  cases nl with
  | true => exact Duo.any GS
  | false => exact duo_real w0 B m BR far
end Go.Proofs.Ytoiobncojfeoiaa
