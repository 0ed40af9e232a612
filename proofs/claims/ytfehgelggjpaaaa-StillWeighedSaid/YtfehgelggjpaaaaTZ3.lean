/-
  A part of the proof: what functions that the statement reaches do, or a plain law on what they do. Each theorem holds under its own premises alone.
-/
import Derived.Test.YtfehgelggjpaaaaTZ2
import Derived.Test.YtfehgelggjpaaaaTF10
namespace Go.Proofs.Ytfehgelggjpaaaa
open Go Go.Lk
def tz (z : Int) : Int := z.tmod 549755813888
theorem tz_lt (z : Int) : (tz z).natAbs ≤ 549755813888 := by
  have h := Int.natAbs_tmod z 549755813888
  have h2 : z.natAbs % 549755813888 < 549755813888 := Nat.mod_lt _ (by decide)
  unfold tz
  have h3 : (549755813888 : Int).natAbs = 549755813888 := rfl
  rw [h, h3]; omega
def fOf (rows : List (List (Int × Int))) (i j : Nat) : Int × Int := (tz ((rows.getD i []).getD j (0, 0)).1, tz ((rows.getD i []).getD j (0, 0)).2)
theorem rep_m39 (z : Int) : RepB (m39 z) (tz z) 549755813888 := ⟨rep_nearest _ (by have := tz_lt z; unfold tz at this; omega), tz_lt z⟩
theorem rows_rep (rows : List (List (Int × Int))) (n : Nat) (h : IsMin rows n) : RepRows (rows.map fun r => (r.take n).map cOf) (fOf rows) rows.length n 549755813888 := by
  have e1 : ∀ i, i < rows.length → (rows.map fun r => (r.take n).map cOf).getD i [] = ((rows.getD i []).take n).map cOf := fun i hi => by simp [List.getD, hi]
  refine ⟨by simp, fun i hi => ?_, fun i j hi hj => ?_⟩
  · rw [e1 i hi]; have := h.le i hi; simp only [List.length_map, List.length_take]; omega
  · rw [e1 i hi]
    have hle := h.le i hi
    have e2 : (((rows.getD i []).take n).map cOf).getD j (0, 0) = cOf ((rows.getD i []).getD j (0, 0)) := by
      have h5 : j < (rows.getD i []).length := by omega
      simp only [List.getD, List.getElem?_map, List.getElem?_take, hj, if_true] at h5 ⊢
      rw [List.getElem?_eq_getElem h5]; rfl
    rw [e2]
    exact ⟨rep_m39 _, rep_m39 _⟩
theorem min_same {rows : List (List (Int × Int))} {n n' : Nat} (hk : 0 < rows.length) (h : IsMin rows n) (h' : IsMin rows n') : n = n' := by
  obtain ⟨j, h1, h2⟩ := h.ex hk
  obtain ⟨j', h3, h4⟩ := h'.ex hk
  have := h.le j' h3
  have := h'.le j h1
  omega
def addZ (p q : Int × Int) : Int × Int := (p.1 + q.1, p.2 + q.2)
def RepP (x : Nat × Nat) (v : Int × Int) : Prop := Rep x.1 v.1 ∧ Rep x.2 v.2
/-- how far the adding has come -/
def gOf (rows : List (List (Int × Int))) (z : Int × Int) (i q i' j : Nat) : Int × Int := if i' < i ∨ (i' = i ∧ j < q) then addZ (fOf rows i' j) z else fOf rows i' j
theorem rep_add_fs {x y r : Nat} {v u : Int} (h : Fs .add x y r) (hx : Rep x v) (hy : Rep y u) (hb : (v + u).natAbs < 9007199254740992) : Rep r (v + u) := by
  obtain ⟨r', h1, h2⟩ := rep_add hx hy hb
  rcases h with h | ⟨h, _⟩
  · rw [h1] at h; cases h; exact h2
  · rw [h1] at h; cases h
theorem rep_mul_fs {x y r : Nat} {v u : Int} (h : Fs .mul x y r) (hx : Rep x v) (hy : Rep y u) (hb : (v * u).natAbs < 9007199254740992) : Rep r (v * u) := by
  obtain ⟨r', h1, h2⟩ := rep_mul hx hy hb
  rcases h with h | ⟨h, _⟩
  · rw [h1] at h; cases h; exact h2
  · rw [h1] at h; cases h
theorem weighed_law (a : Option Addr) (c : Nat) (rows : List (List (Int × Int))) (rvs : List Value) (order x y : Int) (w0 : World) (hr : RowsP w0 a rows rvs) (hk63 : rows.length ≤ 5864062014634) :
    Ret Try.prog 4 [.slice a rows.length c, .int .i64 order, .agg #[.int .i64 x, .int .i64 y]] w0 fun v w' => v = .bool true ∧ HS w0 w' [] := by
  refine Ret.start fun w hs => ?_
  obtain ⟨k, hkk⟩ : ∃ k, k = rows.length := ⟨_, rfl⟩
  have hrl := hr.len
  rw [← hkk] at hk63 hrl ⊢
  refine calls_of_W Try.func4 rfl rfl rfl ?_
  refine W_seq ?_
  refine W_region ?_
  refine L_box rfl hs rfl ?_
  intro b5 w hb5 hnb5 hs
  try dsimp only [List.set_cons_succ, List.set_cons_zero, List.cons_append, List.nil_append] at hs
  refine L_assign rfl rfl ?_
  refine RL_then ?_
  refine W_seq ?_
  refine W_seq ?_
  refine W_region ?_
  have hO5 : Own w0 [(b5, Obj.cells (Value.agg #[Value.int IntKind.i64 x, Value.int IntKind.i64 y]).cells 27)] := Own.cons hb5 Own.nil
  by_cases c1 : 200 < k
  · skip
    refine L_move rfl rfl ?_
    refine L_len rfl Try.underlying26 rfl ?_
    first | refine L_gtr rfl rfl rfl (dtrue (by omega)) ?_ | refine L_gtr rfl rfl rfl (dfalse (by omega)) ?_ | refine L_gtr rfl rfl rfl rfl ?_
    refine L_move rfl rfl ?_
    first | (refine RL_want rfl rfl ?_; refine L_move rfl rfl ?_) | refine RL_skip rfl rfl rfl rfl ?_ | refine RL_skipU rfl rfl rfl ?_
    first | (refine RL_want rfl rfl ?_; refine L_len rfl Try.underlying26 rfl ?_) | refine RL_skip rfl rfl rfl rfl ?_ | refine RL_skipU rfl rfl rfl ?_
    first | (refine RL_want rfl rfl ?_; (first | refine L_gtr rfl rfl rfl (dtrue (by omega)) ?_ | refine L_gtr rfl rfl rfl (dfalse (by omega)) ?_ | refine L_gtr rfl rfl rfl rfl ?_)) | refine RL_skip rfl rfl rfl rfl ?_ | refine RL_skipU rfl rfl rfl ?_
    first | (refine RL_want rfl rfl ?_; refine L_move rfl rfl ?_) | refine RL_skip rfl rfl rfl rfl ?_ | refine RL_skipU rfl rfl rfl ?_
    first | (refine RL_want rfl rfl ?_; refine L_move rfl rfl ?_) | refine RL_skip rfl rfl rfl rfl ?_ | refine RL_skipU rfl rfl rfl ?_
    first | (refine RL_want rfl rfl ?_; refine L_idx1 rfl Try.underlying26 Try.ti28 rfl rfl (by with_reducible first | exact natc_k _ | exact natc_a1 _ | exact natc_0 | exact natc_1 | exact natc_2 | exact natc_s1 _ (by omega) | exact natc_a2 _ | exact natc_add _ _ | exact natc_mul _ _ | exact natc (by omega)) (by omega) rfl ?_) | refine RL_skip rfl rfl rfl rfl ?_ | refine RL_skipU rfl rfl rfl ?_
    first | (refine RL_want rfl rfl ?_; refine L_load rfl Try.one28 rfl (by first | exact hs.cell (i := 0) rfl rfl) ?_) | refine RL_skip rfl rfl rfl rfl ?_ | refine RL_skipU rfl rfl rfl ?_
    first | (refine RL_want rfl rfl ?_; refine L_len rfl Try.underlying28 rfl ?_) | refine RL_skip rfl rfl rfl rfl ?_ | refine RL_skipU rfl rfl rfl ?_
    first | (refine RL_want rfl rfl ?_; (first | refine L_gtr rfl rfl rfl (dtrue (by omega)) ?_ | refine L_gtr rfl rfl rfl (dfalse (by omega)) ?_ | refine L_gtr rfl rfl rfl rfl ?_)) | refine RL_skip rfl rfl rfl rfl ?_ | refine RL_skipU rfl rfl rfl ?_
    first | (refine RL_want rfl rfl ?_; (first | refine L_pick_t rfl rfl rfl ?_ | refine L_pick_f rfl rfl rfl ?_)) | refine RL_skip rfl rfl rfl rfl ?_ | refine RL_skipU rfl rfl rfl ?_
    first | refine L_pick_t rfl rfl rfl ?_ | refine L_pick_f rfl rfl rfl ?_
    refine L_move rfl rfl ?_
    first | (refine RL_want rfl rfl ?_; refine L_move rfl rfl ?_) | refine RL_skip rfl rfl rfl rfl ?_ | refine RL_skipU rfl rfl rfl ?_
    first | (refine RL_want rfl rfl ?_; (first | refine L_lss rfl rfl rfl (dtrue (by omega)) ?_ | refine L_lss rfl rfl rfl (dfalse (by omega)) ?_ | refine L_lss rfl rfl rfl rfl ?_)) | refine RL_skip rfl rfl rfl rfl ?_ | refine RL_skipU rfl rfl rfl ?_
    first | refine L_pick_t rfl rfl rfl ?_ | refine L_pick_f rfl rfl rfl ?_
    refine L_move rfl rfl ?_
    first | (refine RL_want rfl rfl ?_; refine L_move rfl rfl ?_) | refine RL_skip rfl rfl rfl rfl ?_ | refine RL_skipU rfl rfl rfl ?_
    first | (refine RL_want rfl rfl ?_; (first | refine L_gtr rfl rfl rfl (dtrue (by omega)) ?_ | refine L_gtr rfl rfl rfl (dfalse (by omega)) ?_ | refine L_gtr rfl rfl rfl rfl ?_)) | refine RL_skip rfl rfl rfl rfl ?_ | refine RL_skipU rfl rfl rfl ?_
    first | refine L_pick_t rfl rfl rfl ?_ | refine L_pick_f rfl rfl rfl ?_
    refine L_move rfl rfl ?_
    first | (refine RL_want rfl rfl ?_; refine L_move rfl rfl ?_) | refine RL_skip rfl rfl rfl rfl ?_ | refine RL_skipU rfl rfl rfl ?_
    first | (refine RL_want rfl rfl ?_; refine L_len rfl Try.underlying26 rfl ?_) | refine RL_skip rfl rfl rfl rfl ?_ | refine RL_skipU rfl rfl rfl ?_
    first | (refine RL_want rfl rfl ?_; refine L_move rfl rfl ?_) | refine RL_skip rfl rfl rfl rfl ?_ | refine RL_skipU rfl rfl rfl ?_
    first | (refine RL_want rfl rfl ?_; (first | refine L_leq rfl rfl rfl (dtrue (by omega)) ?_ | refine L_leq rfl rfl rfl (dfalse (by omega)) ?_ | refine L_leq rfl rfl rfl rfl ?_)) | refine RL_skip rfl rfl rfl rfl ?_ | refine RL_skipU rfl rfl rfl ?_
    first | refine L_pick_t rfl rfl rfl ?_ | refine L_pick_f rfl rfl rfl ?_
    refine RL_then ?_
    refine W_if_true rfl ?_
    refine W_seq ?_
    refine W_region ?_
    refine L_call rfl Try.fun10 rfl (wakes_ok w) ?_
    rintro _ w' ⟨rfl, hs'⟩
    replace hs := (hs.forget (Own.cons hb5 Own.nil)).nil hs'
    refine L_assign rfl rfl ?_
    refine RL_then ?_
    refine W_ret' ?_
    refine Ex_then_ret ?_
    refine Ex_done1 rfl rfl ?_
    exact ⟨_, rfl, rfl, hs⟩
  · skip
    by_cases hk0 : k = 0
    · skip
      by_cases c2 : order < 0
      · skip
        refine L_move rfl rfl ?_
        refine L_len rfl Try.underlying26 rfl ?_
        first | refine L_gtr rfl rfl rfl (dtrue (by omega)) ?_ | refine L_gtr rfl rfl rfl (dfalse (by omega)) ?_ | refine L_gtr rfl rfl rfl rfl ?_
        refine L_move rfl rfl ?_
        first | (refine RL_want rfl rfl ?_; refine L_move rfl rfl ?_) | refine RL_skip rfl rfl rfl rfl ?_ | refine RL_skipU rfl rfl rfl ?_
        first | (refine RL_want rfl rfl ?_; refine L_len rfl Try.underlying26 rfl ?_) | refine RL_skip rfl rfl rfl rfl ?_ | refine RL_skipU rfl rfl rfl ?_
        first | (refine RL_want rfl rfl ?_; (first | refine L_gtr rfl rfl rfl (dtrue (by omega)) ?_ | refine L_gtr rfl rfl rfl (dfalse (by omega)) ?_ | refine L_gtr rfl rfl rfl rfl ?_)) | refine RL_skip rfl rfl rfl rfl ?_ | refine RL_skipU rfl rfl rfl ?_
        first | (refine RL_want rfl rfl ?_; refine L_move rfl rfl ?_) | refine RL_skip rfl rfl rfl rfl ?_ | refine RL_skipU rfl rfl rfl ?_
        first | (refine RL_want rfl rfl ?_; refine L_move rfl rfl ?_) | refine RL_skip rfl rfl rfl rfl ?_ | refine RL_skipU rfl rfl rfl ?_
        first | (refine RL_want rfl rfl ?_; refine L_idx1 rfl Try.underlying26 Try.ti28 rfl rfl (by with_reducible first | exact natc_k _ | exact natc_a1 _ | exact natc_0 | exact natc_1 | exact natc_2 | exact natc_s1 _ (by omega) | exact natc_a2 _ | exact natc_add _ _ | exact natc_mul _ _ | exact natc (by omega)) (by omega) rfl ?_) | refine RL_skip rfl rfl rfl rfl ?_ | refine RL_skipU rfl rfl rfl ?_
        first | (refine RL_want rfl rfl ?_; refine L_load rfl Try.one28 rfl (by first | exact hs.cell (i := 0) rfl rfl) ?_) | refine RL_skip rfl rfl rfl rfl ?_ | refine RL_skipU rfl rfl rfl ?_
        first | (refine RL_want rfl rfl ?_; refine L_len rfl Try.underlying28 rfl ?_) | refine RL_skip rfl rfl rfl rfl ?_ | refine RL_skipU rfl rfl rfl ?_
        first | (refine RL_want rfl rfl ?_; (first | refine L_gtr rfl rfl rfl (dtrue (by omega)) ?_ | refine L_gtr rfl rfl rfl (dfalse (by omega)) ?_ | refine L_gtr rfl rfl rfl rfl ?_)) | refine RL_skip rfl rfl rfl rfl ?_ | refine RL_skipU rfl rfl rfl ?_
        first | (refine RL_want rfl rfl ?_; (first | refine L_pick_t rfl rfl rfl ?_ | refine L_pick_f rfl rfl rfl ?_)) | refine RL_skip rfl rfl rfl rfl ?_ | refine RL_skipU rfl rfl rfl ?_
        first | refine L_pick_t rfl rfl rfl ?_ | refine L_pick_f rfl rfl rfl ?_
        refine L_move rfl rfl ?_
        first | (refine RL_want rfl rfl ?_; refine L_move rfl rfl ?_) | refine RL_skip rfl rfl rfl rfl ?_ | refine RL_skipU rfl rfl rfl ?_
        first | (refine RL_want rfl rfl ?_; (first | refine L_lss rfl rfl rfl (dtrue (by omega)) ?_ | refine L_lss rfl rfl rfl (dfalse (by omega)) ?_ | refine L_lss rfl rfl rfl rfl ?_)) | refine RL_skip rfl rfl rfl rfl ?_ | refine RL_skipU rfl rfl rfl ?_
        first | refine L_pick_t rfl rfl rfl ?_ | refine L_pick_f rfl rfl rfl ?_
        refine L_move rfl rfl ?_
        first | (refine RL_want rfl rfl ?_; refine L_move rfl rfl ?_) | refine RL_skip rfl rfl rfl rfl ?_ | refine RL_skipU rfl rfl rfl ?_
        first | (refine RL_want rfl rfl ?_; (first | refine L_gtr rfl rfl rfl (dtrue (by omega)) ?_ | refine L_gtr rfl rfl rfl (dfalse (by omega)) ?_ | refine L_gtr rfl rfl rfl rfl ?_)) | refine RL_skip rfl rfl rfl rfl ?_ | refine RL_skipU rfl rfl rfl ?_
        first | refine L_pick_t rfl rfl rfl ?_ | refine L_pick_f rfl rfl rfl ?_
        refine L_move rfl rfl ?_
        first | (refine RL_want rfl rfl ?_; refine L_move rfl rfl ?_) | refine RL_skip rfl rfl rfl rfl ?_ | refine RL_skipU rfl rfl rfl ?_
        first | (refine RL_want rfl rfl ?_; refine L_len rfl Try.underlying26 rfl ?_) | refine RL_skip rfl rfl rfl rfl ?_ | refine RL_skipU rfl rfl rfl ?_
        first | (refine RL_want rfl rfl ?_; refine L_move rfl rfl ?_) | refine RL_skip rfl rfl rfl rfl ?_ | refine RL_skipU rfl rfl rfl ?_
        first | (refine RL_want rfl rfl ?_; (first | refine L_leq rfl rfl rfl (dtrue (by omega)) ?_ | refine L_leq rfl rfl rfl (dfalse (by omega)) ?_ | refine L_leq rfl rfl rfl rfl ?_)) | refine RL_skip rfl rfl rfl rfl ?_ | refine RL_skipU rfl rfl rfl ?_
        first | refine L_pick_t rfl rfl rfl ?_ | refine L_pick_f rfl rfl rfl ?_
        refine RL_then ?_
        refine W_if_true rfl ?_
        refine W_seq ?_
        refine W_region ?_
        refine L_call rfl Try.fun10 rfl (wakes_ok w) ?_
        rintro _ w' ⟨rfl, hs'⟩
        replace hs := (hs.forget (Own.cons hb5 Own.nil)).nil hs'
        refine L_assign rfl rfl ?_
        refine RL_then ?_
        refine W_ret' ?_
        refine Ex_then_ret ?_
        refine Ex_done1 rfl rfl ?_
        exact ⟨_, rfl, rfl, hs⟩
      · skip
        by_cases c3 : 8 < order
        · skip
          refine L_move rfl rfl ?_
          refine L_len rfl Try.underlying26 rfl ?_
          first | refine L_gtr rfl rfl rfl (dtrue (by omega)) ?_ | refine L_gtr rfl rfl rfl (dfalse (by omega)) ?_ | refine L_gtr rfl rfl rfl rfl ?_
          refine L_move rfl rfl ?_
          first | (refine RL_want rfl rfl ?_; refine L_move rfl rfl ?_) | refine RL_skip rfl rfl rfl rfl ?_ | refine RL_skipU rfl rfl rfl ?_
          first | (refine RL_want rfl rfl ?_; refine L_len rfl Try.underlying26 rfl ?_) | refine RL_skip rfl rfl rfl rfl ?_ | refine RL_skipU rfl rfl rfl ?_
          first | (refine RL_want rfl rfl ?_; (first | refine L_gtr rfl rfl rfl (dtrue (by omega)) ?_ | refine L_gtr rfl rfl rfl (dfalse (by omega)) ?_ | refine L_gtr rfl rfl rfl rfl ?_)) | refine RL_skip rfl rfl rfl rfl ?_ | refine RL_skipU rfl rfl rfl ?_
          first | (refine RL_want rfl rfl ?_; refine L_move rfl rfl ?_) | refine RL_skip rfl rfl rfl rfl ?_ | refine RL_skipU rfl rfl rfl ?_
          first | (refine RL_want rfl rfl ?_; refine L_move rfl rfl ?_) | refine RL_skip rfl rfl rfl rfl ?_ | refine RL_skipU rfl rfl rfl ?_
          first | (refine RL_want rfl rfl ?_; refine L_idx1 rfl Try.underlying26 Try.ti28 rfl rfl (by with_reducible first | exact natc_k _ | exact natc_a1 _ | exact natc_0 | exact natc_1 | exact natc_2 | exact natc_s1 _ (by omega) | exact natc_a2 _ | exact natc_add _ _ | exact natc_mul _ _ | exact natc (by omega)) (by omega) rfl ?_) | refine RL_skip rfl rfl rfl rfl ?_ | refine RL_skipU rfl rfl rfl ?_
          first | (refine RL_want rfl rfl ?_; refine L_load rfl Try.one28 rfl (by first | exact hs.cell (i := 0) rfl rfl) ?_) | refine RL_skip rfl rfl rfl rfl ?_ | refine RL_skipU rfl rfl rfl ?_
          first | (refine RL_want rfl rfl ?_; refine L_len rfl Try.underlying28 rfl ?_) | refine RL_skip rfl rfl rfl rfl ?_ | refine RL_skipU rfl rfl rfl ?_
          first | (refine RL_want rfl rfl ?_; (first | refine L_gtr rfl rfl rfl (dtrue (by omega)) ?_ | refine L_gtr rfl rfl rfl (dfalse (by omega)) ?_ | refine L_gtr rfl rfl rfl rfl ?_)) | refine RL_skip rfl rfl rfl rfl ?_ | refine RL_skipU rfl rfl rfl ?_
          first | (refine RL_want rfl rfl ?_; (first | refine L_pick_t rfl rfl rfl ?_ | refine L_pick_f rfl rfl rfl ?_)) | refine RL_skip rfl rfl rfl rfl ?_ | refine RL_skipU rfl rfl rfl ?_
          first | refine L_pick_t rfl rfl rfl ?_ | refine L_pick_f rfl rfl rfl ?_
          refine L_move rfl rfl ?_
          first | (refine RL_want rfl rfl ?_; refine L_move rfl rfl ?_) | refine RL_skip rfl rfl rfl rfl ?_ | refine RL_skipU rfl rfl rfl ?_
          first | (refine RL_want rfl rfl ?_; (first | refine L_lss rfl rfl rfl (dtrue (by omega)) ?_ | refine L_lss rfl rfl rfl (dfalse (by omega)) ?_ | refine L_lss rfl rfl rfl rfl ?_)) | refine RL_skip rfl rfl rfl rfl ?_ | refine RL_skipU rfl rfl rfl ?_
          first | refine L_pick_t rfl rfl rfl ?_ | refine L_pick_f rfl rfl rfl ?_
          refine L_move rfl rfl ?_
          first | (refine RL_want rfl rfl ?_; refine L_move rfl rfl ?_) | refine RL_skip rfl rfl rfl rfl ?_ | refine RL_skipU rfl rfl rfl ?_
          first | (refine RL_want rfl rfl ?_; (first | refine L_gtr rfl rfl rfl (dtrue (by omega)) ?_ | refine L_gtr rfl rfl rfl (dfalse (by omega)) ?_ | refine L_gtr rfl rfl rfl rfl ?_)) | refine RL_skip rfl rfl rfl rfl ?_ | refine RL_skipU rfl rfl rfl ?_
          first | refine L_pick_t rfl rfl rfl ?_ | refine L_pick_f rfl rfl rfl ?_
          refine L_move rfl rfl ?_
          first | (refine RL_want rfl rfl ?_; refine L_move rfl rfl ?_) | refine RL_skip rfl rfl rfl rfl ?_ | refine RL_skipU rfl rfl rfl ?_
          first | (refine RL_want rfl rfl ?_; refine L_len rfl Try.underlying26 rfl ?_) | refine RL_skip rfl rfl rfl rfl ?_ | refine RL_skipU rfl rfl rfl ?_
          first | (refine RL_want rfl rfl ?_; refine L_move rfl rfl ?_) | refine RL_skip rfl rfl rfl rfl ?_ | refine RL_skipU rfl rfl rfl ?_
          first | (refine RL_want rfl rfl ?_; (first | refine L_leq rfl rfl rfl (dtrue (by omega)) ?_ | refine L_leq rfl rfl rfl (dfalse (by omega)) ?_ | refine L_leq rfl rfl rfl rfl ?_)) | refine RL_skip rfl rfl rfl rfl ?_ | refine RL_skipU rfl rfl rfl ?_
          first | refine L_pick_t rfl rfl rfl ?_ | refine L_pick_f rfl rfl rfl ?_
          refine RL_then ?_
          refine W_if_true rfl ?_
          refine W_seq ?_
          refine W_region ?_
          refine L_call rfl Try.fun10 rfl (wakes_ok w) ?_
          rintro _ w' ⟨rfl, hs'⟩
          replace hs := (hs.forget (Own.cons hb5 Own.nil)).nil hs'
          refine L_assign rfl rfl ?_
          refine RL_then ?_
          refine W_ret' ?_
          refine Ex_then_ret ?_
          refine Ex_done1 rfl rfl ?_
          exact ⟨_, rfl, rfl, hs⟩
        · skip
          have c4 : (k : Int) ≤ order := by omega
          refine L_move rfl rfl ?_
          refine L_len rfl Try.underlying26 rfl ?_
          first | refine L_gtr rfl rfl rfl (dtrue (by omega)) ?_ | refine L_gtr rfl rfl rfl (dfalse (by omega)) ?_ | refine L_gtr rfl rfl rfl rfl ?_
          refine L_move rfl rfl ?_
          first | (refine RL_want rfl rfl ?_; refine L_move rfl rfl ?_) | refine RL_skip rfl rfl rfl rfl ?_ | refine RL_skipU rfl rfl rfl ?_
          first | (refine RL_want rfl rfl ?_; refine L_len rfl Try.underlying26 rfl ?_) | refine RL_skip rfl rfl rfl rfl ?_ | refine RL_skipU rfl rfl rfl ?_
          first | (refine RL_want rfl rfl ?_; (first | refine L_gtr rfl rfl rfl (dtrue (by omega)) ?_ | refine L_gtr rfl rfl rfl (dfalse (by omega)) ?_ | refine L_gtr rfl rfl rfl rfl ?_)) | refine RL_skip rfl rfl rfl rfl ?_ | refine RL_skipU rfl rfl rfl ?_
          first | (refine RL_want rfl rfl ?_; refine L_move rfl rfl ?_) | refine RL_skip rfl rfl rfl rfl ?_ | refine RL_skipU rfl rfl rfl ?_
          first | (refine RL_want rfl rfl ?_; refine L_move rfl rfl ?_) | refine RL_skip rfl rfl rfl rfl ?_ | refine RL_skipU rfl rfl rfl ?_
          first | (refine RL_want rfl rfl ?_; refine L_idx1 rfl Try.underlying26 Try.ti28 rfl rfl (by with_reducible first | exact natc_k _ | exact natc_a1 _ | exact natc_0 | exact natc_1 | exact natc_2 | exact natc_s1 _ (by omega) | exact natc_a2 _ | exact natc_add _ _ | exact natc_mul _ _ | exact natc (by omega)) (by omega) rfl ?_) | refine RL_skip rfl rfl rfl rfl ?_ | refine RL_skipU rfl rfl rfl ?_
          first | (refine RL_want rfl rfl ?_; refine L_load rfl Try.one28 rfl (by first | exact hs.cell (i := 0) rfl rfl) ?_) | refine RL_skip rfl rfl rfl rfl ?_ | refine RL_skipU rfl rfl rfl ?_
          first | (refine RL_want rfl rfl ?_; refine L_len rfl Try.underlying28 rfl ?_) | refine RL_skip rfl rfl rfl rfl ?_ | refine RL_skipU rfl rfl rfl ?_
          first | (refine RL_want rfl rfl ?_; (first | refine L_gtr rfl rfl rfl (dtrue (by omega)) ?_ | refine L_gtr rfl rfl rfl (dfalse (by omega)) ?_ | refine L_gtr rfl rfl rfl rfl ?_)) | refine RL_skip rfl rfl rfl rfl ?_ | refine RL_skipU rfl rfl rfl ?_
          first | (refine RL_want rfl rfl ?_; (first | refine L_pick_t rfl rfl rfl ?_ | refine L_pick_f rfl rfl rfl ?_)) | refine RL_skip rfl rfl rfl rfl ?_ | refine RL_skipU rfl rfl rfl ?_
          first | refine L_pick_t rfl rfl rfl ?_ | refine L_pick_f rfl rfl rfl ?_
          refine L_move rfl rfl ?_
          first | (refine RL_want rfl rfl ?_; refine L_move rfl rfl ?_) | refine RL_skip rfl rfl rfl rfl ?_ | refine RL_skipU rfl rfl rfl ?_
          first | (refine RL_want rfl rfl ?_; (first | refine L_lss rfl rfl rfl (dtrue (by omega)) ?_ | refine L_lss rfl rfl rfl (dfalse (by omega)) ?_ | refine L_lss rfl rfl rfl rfl ?_)) | refine RL_skip rfl rfl rfl rfl ?_ | refine RL_skipU rfl rfl rfl ?_
          first | refine L_pick_t rfl rfl rfl ?_ | refine L_pick_f rfl rfl rfl ?_
          refine L_move rfl rfl ?_
          first | (refine RL_want rfl rfl ?_; refine L_move rfl rfl ?_) | refine RL_skip rfl rfl rfl rfl ?_ | refine RL_skipU rfl rfl rfl ?_
          first | (refine RL_want rfl rfl ?_; (first | refine L_gtr rfl rfl rfl (dtrue (by omega)) ?_ | refine L_gtr rfl rfl rfl (dfalse (by omega)) ?_ | refine L_gtr rfl rfl rfl rfl ?_)) | refine RL_skip rfl rfl rfl rfl ?_ | refine RL_skipU rfl rfl rfl ?_
          first | refine L_pick_t rfl rfl rfl ?_ | refine L_pick_f rfl rfl rfl ?_
          refine L_move rfl rfl ?_
          first | (refine RL_want rfl rfl ?_; refine L_move rfl rfl ?_) | refine RL_skip rfl rfl rfl rfl ?_ | refine RL_skipU rfl rfl rfl ?_
          first | (refine RL_want rfl rfl ?_; refine L_len rfl Try.underlying26 rfl ?_) | refine RL_skip rfl rfl rfl rfl ?_ | refine RL_skipU rfl rfl rfl ?_
          first | (refine RL_want rfl rfl ?_; refine L_move rfl rfl ?_) | refine RL_skip rfl rfl rfl rfl ?_ | refine RL_skipU rfl rfl rfl ?_
          first | (refine RL_want rfl rfl ?_; (first | refine L_leq rfl rfl rfl (dtrue (by omega)) ?_ | refine L_leq rfl rfl rfl (dfalse (by omega)) ?_ | refine L_leq rfl rfl rfl rfl ?_)) | refine RL_skip rfl rfl rfl rfl ?_ | refine RL_skipU rfl rfl rfl ?_
          first | refine L_pick_t rfl rfl rfl ?_ | refine L_pick_f rfl rfl rfl ?_
          refine RL_then ?_
          refine W_if_true rfl ?_
          refine W_seq ?_
          refine W_region ?_
          refine L_call rfl Try.fun10 rfl (wakes_ok w) ?_
          rintro _ w' ⟨rfl, hs'⟩
          replace hs := (hs.forget (Own.cons hb5 Own.nil)).nil hs'
          refine L_assign rfl rfl ?_
          refine RL_then ?_
          refine W_ret' ?_
          refine Ex_then_ret ?_
          refine Ex_done1 rfl rfl ?_
          exact ⟨_, rfl, rfl, hs⟩
    · skip
      obtain ⟨a0, ca0, h01, h02, h03⟩ := hr.row 0 (by omega)
      obtain ⟨l0, hl0⟩ : ∃ l0, l0 = (rows.getD 0 []).length := ⟨_, rfl⟩
      rw [← hl0] at h01 h02
      have hla : a = some (aD a) := hr.sl.ao (by omega)
      by_cases c5 : 200 < l0
      · skip
        refine L_move rfl rfl ?_
        refine L_len rfl Try.underlying26 rfl ?_
        first | refine L_gtr rfl rfl rfl (dtrue (by omega)) ?_ | refine L_gtr rfl rfl rfl (dfalse (by omega)) ?_ | refine L_gtr rfl rfl rfl rfl ?_
        refine L_move rfl rfl ?_
        first | (refine RL_want rfl rfl ?_; refine L_move rfl rfl ?_) | refine RL_skip rfl rfl rfl rfl ?_ | refine RL_skipU rfl rfl rfl ?_
        first | (refine RL_want rfl rfl ?_; refine L_len rfl Try.underlying26 rfl ?_) | refine RL_skip rfl rfl rfl rfl ?_ | refine RL_skipU rfl rfl rfl ?_
        first | (refine RL_want rfl rfl ?_; (first | refine L_gtr rfl rfl rfl (dtrue (by omega)) ?_ | refine L_gtr rfl rfl rfl (dfalse (by omega)) ?_ | refine L_gtr rfl rfl rfl rfl ?_)) | refine RL_skip rfl rfl rfl rfl ?_ | refine RL_skipU rfl rfl rfl ?_
        first | (refine RL_want rfl rfl ?_; refine L_move rfl rfl ?_) | refine RL_skip rfl rfl rfl rfl ?_ | refine RL_skipU rfl rfl rfl ?_
        first | (refine RL_want rfl rfl ?_; refine L_move rfl rfl ?_) | refine RL_skip rfl rfl rfl rfl ?_ | refine RL_skipU rfl rfl rfl ?_
        first | (refine RL_want rfl rfl ?_; refine L_idx1 rfl Try.underlying26 Try.ti28 rfl rfl (by with_reducible first | exact natc_k _ | exact natc_a1 _ | exact natc_0 | exact natc_1 | exact natc_2 | exact natc_s1 _ (by omega) | exact natc_a2 _ | exact natc_add _ _ | exact natc_mul _ _ | exact natc (by omega)) (by omega) hla ?_) | refine RL_skip rfl rfl rfl rfl ?_ | refine RL_skipU rfl rfl rfl ?_
        first | (refine RL_want rfl rfl ?_; refine L_load rfl Try.one28 rfl (by exact (hr.sl.old hs hO5).get h01) ?_) | refine RL_skip rfl rfl rfl rfl ?_ | refine RL_skipU rfl rfl rfl ?_
        first | (refine RL_want rfl rfl ?_; refine L_len rfl Try.underlying28 rfl ?_) | refine RL_skip rfl rfl rfl rfl ?_ | refine RL_skipU rfl rfl rfl ?_
        first | (refine RL_want rfl rfl ?_; (first | refine L_gtr rfl rfl rfl (dtrue (by omega)) ?_ | refine L_gtr rfl rfl rfl (dfalse (by omega)) ?_ | refine L_gtr rfl rfl rfl rfl ?_)) | refine RL_skip rfl rfl rfl rfl ?_ | refine RL_skipU rfl rfl rfl ?_
        first | (refine RL_want rfl rfl ?_; (first | refine L_pick_t rfl rfl rfl ?_ | refine L_pick_f rfl rfl rfl ?_)) | refine RL_skip rfl rfl rfl rfl ?_ | refine RL_skipU rfl rfl rfl ?_
        first | refine L_pick_t rfl rfl rfl ?_ | refine L_pick_f rfl rfl rfl ?_
        refine L_move rfl rfl ?_
        first | (refine RL_want rfl rfl ?_; refine L_move rfl rfl ?_) | refine RL_skip rfl rfl rfl rfl ?_ | refine RL_skipU rfl rfl rfl ?_
        first | (refine RL_want rfl rfl ?_; (first | refine L_lss rfl rfl rfl (dtrue (by omega)) ?_ | refine L_lss rfl rfl rfl (dfalse (by omega)) ?_ | refine L_lss rfl rfl rfl rfl ?_)) | refine RL_skip rfl rfl rfl rfl ?_ | refine RL_skipU rfl rfl rfl ?_
        first | refine L_pick_t rfl rfl rfl ?_ | refine L_pick_f rfl rfl rfl ?_
        refine L_move rfl rfl ?_
        first | (refine RL_want rfl rfl ?_; refine L_move rfl rfl ?_) | refine RL_skip rfl rfl rfl rfl ?_ | refine RL_skipU rfl rfl rfl ?_
        first | (refine RL_want rfl rfl ?_; (first | refine L_gtr rfl rfl rfl (dtrue (by omega)) ?_ | refine L_gtr rfl rfl rfl (dfalse (by omega)) ?_ | refine L_gtr rfl rfl rfl rfl ?_)) | refine RL_skip rfl rfl rfl rfl ?_ | refine RL_skipU rfl rfl rfl ?_
        first | refine L_pick_t rfl rfl rfl ?_ | refine L_pick_f rfl rfl rfl ?_
        refine L_move rfl rfl ?_
        first | (refine RL_want rfl rfl ?_; refine L_move rfl rfl ?_) | refine RL_skip rfl rfl rfl rfl ?_ | refine RL_skipU rfl rfl rfl ?_
        first | (refine RL_want rfl rfl ?_; refine L_len rfl Try.underlying26 rfl ?_) | refine RL_skip rfl rfl rfl rfl ?_ | refine RL_skipU rfl rfl rfl ?_
        first | (refine RL_want rfl rfl ?_; refine L_move rfl rfl ?_) | refine RL_skip rfl rfl rfl rfl ?_ | refine RL_skipU rfl rfl rfl ?_
        first | (refine RL_want rfl rfl ?_; (first | refine L_leq rfl rfl rfl (dtrue (by omega)) ?_ | refine L_leq rfl rfl rfl (dfalse (by omega)) ?_ | refine L_leq rfl rfl rfl rfl ?_)) | refine RL_skip rfl rfl rfl rfl ?_ | refine RL_skipU rfl rfl rfl ?_
        first | refine L_pick_t rfl rfl rfl ?_ | refine L_pick_f rfl rfl rfl ?_
        refine RL_then ?_
        refine W_if_true rfl ?_
        refine W_seq ?_
        refine W_region ?_
        refine L_call rfl Try.fun10 rfl (wakes_ok w) ?_
        rintro _ w' ⟨rfl, hs'⟩
        replace hs := (hs.forget (Own.cons hb5 Own.nil)).nil hs'
        refine L_assign rfl rfl ?_
        refine RL_then ?_
        refine W_ret' ?_
        refine Ex_then_ret ?_
        refine Ex_done1 rfl rfl ?_
        exact ⟨_, rfl, rfl, hs⟩
      · skip
        by_cases c6 : order < 0
        · skip
          refine L_move rfl rfl ?_
          refine L_len rfl Try.underlying26 rfl ?_
          first | refine L_gtr rfl rfl rfl (dtrue (by omega)) ?_ | refine L_gtr rfl rfl rfl (dfalse (by omega)) ?_ | refine L_gtr rfl rfl rfl rfl ?_
          refine L_move rfl rfl ?_
          first | (refine RL_want rfl rfl ?_; refine L_move rfl rfl ?_) | refine RL_skip rfl rfl rfl rfl ?_ | refine RL_skipU rfl rfl rfl ?_
          first | (refine RL_want rfl rfl ?_; refine L_len rfl Try.underlying26 rfl ?_) | refine RL_skip rfl rfl rfl rfl ?_ | refine RL_skipU rfl rfl rfl ?_
          first | (refine RL_want rfl rfl ?_; (first | refine L_gtr rfl rfl rfl (dtrue (by omega)) ?_ | refine L_gtr rfl rfl rfl (dfalse (by omega)) ?_ | refine L_gtr rfl rfl rfl rfl ?_)) | refine RL_skip rfl rfl rfl rfl ?_ | refine RL_skipU rfl rfl rfl ?_
          first | (refine RL_want rfl rfl ?_; refine L_move rfl rfl ?_) | refine RL_skip rfl rfl rfl rfl ?_ | refine RL_skipU rfl rfl rfl ?_
          first | (refine RL_want rfl rfl ?_; refine L_move rfl rfl ?_) | refine RL_skip rfl rfl rfl rfl ?_ | refine RL_skipU rfl rfl rfl ?_
          first | (refine RL_want rfl rfl ?_; refine L_idx1 rfl Try.underlying26 Try.ti28 rfl rfl (by with_reducible first | exact natc_k _ | exact natc_a1 _ | exact natc_0 | exact natc_1 | exact natc_2 | exact natc_s1 _ (by omega) | exact natc_a2 _ | exact natc_add _ _ | exact natc_mul _ _ | exact natc (by omega)) (by omega) hla ?_) | refine RL_skip rfl rfl rfl rfl ?_ | refine RL_skipU rfl rfl rfl ?_
          first | (refine RL_want rfl rfl ?_; refine L_load rfl Try.one28 rfl (by exact (hr.sl.old hs hO5).get h01) ?_) | refine RL_skip rfl rfl rfl rfl ?_ | refine RL_skipU rfl rfl rfl ?_
          first | (refine RL_want rfl rfl ?_; refine L_len rfl Try.underlying28 rfl ?_) | refine RL_skip rfl rfl rfl rfl ?_ | refine RL_skipU rfl rfl rfl ?_
          first | (refine RL_want rfl rfl ?_; (first | refine L_gtr rfl rfl rfl (dtrue (by omega)) ?_ | refine L_gtr rfl rfl rfl (dfalse (by omega)) ?_ | refine L_gtr rfl rfl rfl rfl ?_)) | refine RL_skip rfl rfl rfl rfl ?_ | refine RL_skipU rfl rfl rfl ?_
          first | (refine RL_want rfl rfl ?_; (first | refine L_pick_t rfl rfl rfl ?_ | refine L_pick_f rfl rfl rfl ?_)) | refine RL_skip rfl rfl rfl rfl ?_ | refine RL_skipU rfl rfl rfl ?_
          first | refine L_pick_t rfl rfl rfl ?_ | refine L_pick_f rfl rfl rfl ?_
          refine L_move rfl rfl ?_
          first | (refine RL_want rfl rfl ?_; refine L_move rfl rfl ?_) | refine RL_skip rfl rfl rfl rfl ?_ | refine RL_skipU rfl rfl rfl ?_
          first | (refine RL_want rfl rfl ?_; (first | refine L_lss rfl rfl rfl (dtrue (by omega)) ?_ | refine L_lss rfl rfl rfl (dfalse (by omega)) ?_ | refine L_lss rfl rfl rfl rfl ?_)) | refine RL_skip rfl rfl rfl rfl ?_ | refine RL_skipU rfl rfl rfl ?_
          first | refine L_pick_t rfl rfl rfl ?_ | refine L_pick_f rfl rfl rfl ?_
          refine L_move rfl rfl ?_
          first | (refine RL_want rfl rfl ?_; refine L_move rfl rfl ?_) | refine RL_skip rfl rfl rfl rfl ?_ | refine RL_skipU rfl rfl rfl ?_
          first | (refine RL_want rfl rfl ?_; (first | refine L_gtr rfl rfl rfl (dtrue (by omega)) ?_ | refine L_gtr rfl rfl rfl (dfalse (by omega)) ?_ | refine L_gtr rfl rfl rfl rfl ?_)) | refine RL_skip rfl rfl rfl rfl ?_ | refine RL_skipU rfl rfl rfl ?_
          first | refine L_pick_t rfl rfl rfl ?_ | refine L_pick_f rfl rfl rfl ?_
          refine L_move rfl rfl ?_
          first | (refine RL_want rfl rfl ?_; refine L_move rfl rfl ?_) | refine RL_skip rfl rfl rfl rfl ?_ | refine RL_skipU rfl rfl rfl ?_
          first | (refine RL_want rfl rfl ?_; refine L_len rfl Try.underlying26 rfl ?_) | refine RL_skip rfl rfl rfl rfl ?_ | refine RL_skipU rfl rfl rfl ?_
          first | (refine RL_want rfl rfl ?_; refine L_move rfl rfl ?_) | refine RL_skip rfl rfl rfl rfl ?_ | refine RL_skipU rfl rfl rfl ?_
          first | (refine RL_want rfl rfl ?_; (first | refine L_leq rfl rfl rfl (dtrue (by omega)) ?_ | refine L_leq rfl rfl rfl (dfalse (by omega)) ?_ | refine L_leq rfl rfl rfl rfl ?_)) | refine RL_skip rfl rfl rfl rfl ?_ | refine RL_skipU rfl rfl rfl ?_
          first | refine L_pick_t rfl rfl rfl ?_ | refine L_pick_f rfl rfl rfl ?_
          refine RL_then ?_
          refine W_if_true rfl ?_
          refine W_seq ?_
          refine W_region ?_
          refine L_call rfl Try.fun10 rfl (wakes_ok w) ?_
          rintro _ w' ⟨rfl, hs'⟩
          replace hs := (hs.forget (Own.cons hb5 Own.nil)).nil hs'
          refine L_assign rfl rfl ?_
          refine RL_then ?_
          refine W_ret' ?_
          refine Ex_then_ret ?_
          refine Ex_done1 rfl rfl ?_
          exact ⟨_, rfl, rfl, hs⟩
        · skip
          by_cases c7 : 8 < order
          · skip
            refine L_move rfl rfl ?_
            refine L_len rfl Try.underlying26 rfl ?_
            first | refine L_gtr rfl rfl rfl (dtrue (by omega)) ?_ | refine L_gtr rfl rfl rfl (dfalse (by omega)) ?_ | refine L_gtr rfl rfl rfl rfl ?_
            refine L_move rfl rfl ?_
            first | (refine RL_want rfl rfl ?_; refine L_move rfl rfl ?_) | refine RL_skip rfl rfl rfl rfl ?_ | refine RL_skipU rfl rfl rfl ?_
            first | (refine RL_want rfl rfl ?_; refine L_len rfl Try.underlying26 rfl ?_) | refine RL_skip rfl rfl rfl rfl ?_ | refine RL_skipU rfl rfl rfl ?_
            first | (refine RL_want rfl rfl ?_; (first | refine L_gtr rfl rfl rfl (dtrue (by omega)) ?_ | refine L_gtr rfl rfl rfl (dfalse (by omega)) ?_ | refine L_gtr rfl rfl rfl rfl ?_)) | refine RL_skip rfl rfl rfl rfl ?_ | refine RL_skipU rfl rfl rfl ?_
            first | (refine RL_want rfl rfl ?_; refine L_move rfl rfl ?_) | refine RL_skip rfl rfl rfl rfl ?_ | refine RL_skipU rfl rfl rfl ?_
            first | (refine RL_want rfl rfl ?_; refine L_move rfl rfl ?_) | refine RL_skip rfl rfl rfl rfl ?_ | refine RL_skipU rfl rfl rfl ?_
            first | (refine RL_want rfl rfl ?_; refine L_idx1 rfl Try.underlying26 Try.ti28 rfl rfl (by with_reducible first | exact natc_k _ | exact natc_a1 _ | exact natc_0 | exact natc_1 | exact natc_2 | exact natc_s1 _ (by omega) | exact natc_a2 _ | exact natc_add _ _ | exact natc_mul _ _ | exact natc (by omega)) (by omega) hla ?_) | refine RL_skip rfl rfl rfl rfl ?_ | refine RL_skipU rfl rfl rfl ?_
            first | (refine RL_want rfl rfl ?_; refine L_load rfl Try.one28 rfl (by exact (hr.sl.old hs hO5).get h01) ?_) | refine RL_skip rfl rfl rfl rfl ?_ | refine RL_skipU rfl rfl rfl ?_
            first | (refine RL_want rfl rfl ?_; refine L_len rfl Try.underlying28 rfl ?_) | refine RL_skip rfl rfl rfl rfl ?_ | refine RL_skipU rfl rfl rfl ?_
            first | (refine RL_want rfl rfl ?_; (first | refine L_gtr rfl rfl rfl (dtrue (by omega)) ?_ | refine L_gtr rfl rfl rfl (dfalse (by omega)) ?_ | refine L_gtr rfl rfl rfl rfl ?_)) | refine RL_skip rfl rfl rfl rfl ?_ | refine RL_skipU rfl rfl rfl ?_
            first | (refine RL_want rfl rfl ?_; (first | refine L_pick_t rfl rfl rfl ?_ | refine L_pick_f rfl rfl rfl ?_)) | refine RL_skip rfl rfl rfl rfl ?_ | refine RL_skipU rfl rfl rfl ?_
            first | refine L_pick_t rfl rfl rfl ?_ | refine L_pick_f rfl rfl rfl ?_
            refine L_move rfl rfl ?_
            first | (refine RL_want rfl rfl ?_; refine L_move rfl rfl ?_) | refine RL_skip rfl rfl rfl rfl ?_ | refine RL_skipU rfl rfl rfl ?_
            first | (refine RL_want rfl rfl ?_; (first | refine L_lss rfl rfl rfl (dtrue (by omega)) ?_ | refine L_lss rfl rfl rfl (dfalse (by omega)) ?_ | refine L_lss rfl rfl rfl rfl ?_)) | refine RL_skip rfl rfl rfl rfl ?_ | refine RL_skipU rfl rfl rfl ?_
            first | refine L_pick_t rfl rfl rfl ?_ | refine L_pick_f rfl rfl rfl ?_
            refine L_move rfl rfl ?_
            first | (refine RL_want rfl rfl ?_; refine L_move rfl rfl ?_) | refine RL_skip rfl rfl rfl rfl ?_ | refine RL_skipU rfl rfl rfl ?_
            first | (refine RL_want rfl rfl ?_; (first | refine L_gtr rfl rfl rfl (dtrue (by omega)) ?_ | refine L_gtr rfl rfl rfl (dfalse (by omega)) ?_ | refine L_gtr rfl rfl rfl rfl ?_)) | refine RL_skip rfl rfl rfl rfl ?_ | refine RL_skipU rfl rfl rfl ?_
            first | refine L_pick_t rfl rfl rfl ?_ | refine L_pick_f rfl rfl rfl ?_
            refine L_move rfl rfl ?_
            first | (refine RL_want rfl rfl ?_; refine L_move rfl rfl ?_) | refine RL_skip rfl rfl rfl rfl ?_ | refine RL_skipU rfl rfl rfl ?_
            first | (refine RL_want rfl rfl ?_; refine L_len rfl Try.underlying26 rfl ?_) | refine RL_skip rfl rfl rfl rfl ?_ | refine RL_skipU rfl rfl rfl ?_
            first | (refine RL_want rfl rfl ?_; refine L_move rfl rfl ?_) | refine RL_skip rfl rfl rfl rfl ?_ | refine RL_skipU rfl rfl rfl ?_
            first | (refine RL_want rfl rfl ?_; (first | refine L_leq rfl rfl rfl (dtrue (by omega)) ?_ | refine L_leq rfl rfl rfl (dfalse (by omega)) ?_ | refine L_leq rfl rfl rfl rfl ?_)) | refine RL_skip rfl rfl rfl rfl ?_ | refine RL_skipU rfl rfl rfl ?_
            first | refine L_pick_t rfl rfl rfl ?_ | refine L_pick_f rfl rfl rfl ?_
            refine RL_then ?_
            refine W_if_true rfl ?_
            refine W_seq ?_
            refine W_region ?_
            refine L_call rfl Try.fun10 rfl (wakes_ok w) ?_
            rintro _ w' ⟨rfl, hs'⟩
            replace hs := (hs.forget (Own.cons hb5 Own.nil)).nil hs'
            refine L_assign rfl rfl ?_
            refine RL_then ?_
            refine W_ret' ?_
            refine Ex_then_ret ?_
            refine Ex_done1 rfl rfl ?_
            exact ⟨_, rfl, rfl, hs⟩
          · skip
            by_cases c8 : (k : Int) ≤ order
            · skip
              refine L_move rfl rfl ?_
              refine L_len rfl Try.underlying26 rfl ?_
              first | refine L_gtr rfl rfl rfl (dtrue (by omega)) ?_ | refine L_gtr rfl rfl rfl (dfalse (by omega)) ?_ | refine L_gtr rfl rfl rfl rfl ?_
              refine L_move rfl rfl ?_
              first | (refine RL_want rfl rfl ?_; refine L_move rfl rfl ?_) | refine RL_skip rfl rfl rfl rfl ?_ | refine RL_skipU rfl rfl rfl ?_
              first | (refine RL_want rfl rfl ?_; refine L_len rfl Try.underlying26 rfl ?_) | refine RL_skip rfl rfl rfl rfl ?_ | refine RL_skipU rfl rfl rfl ?_
              first | (refine RL_want rfl rfl ?_; (first | refine L_gtr rfl rfl rfl (dtrue (by omega)) ?_ | refine L_gtr rfl rfl rfl (dfalse (by omega)) ?_ | refine L_gtr rfl rfl rfl rfl ?_)) | refine RL_skip rfl rfl rfl rfl ?_ | refine RL_skipU rfl rfl rfl ?_
              first | (refine RL_want rfl rfl ?_; refine L_move rfl rfl ?_) | refine RL_skip rfl rfl rfl rfl ?_ | refine RL_skipU rfl rfl rfl ?_
              first | (refine RL_want rfl rfl ?_; refine L_move rfl rfl ?_) | refine RL_skip rfl rfl rfl rfl ?_ | refine RL_skipU rfl rfl rfl ?_
              first | (refine RL_want rfl rfl ?_; refine L_idx1 rfl Try.underlying26 Try.ti28 rfl rfl (by with_reducible first | exact natc_k _ | exact natc_a1 _ | exact natc_0 | exact natc_1 | exact natc_2 | exact natc_s1 _ (by omega) | exact natc_a2 _ | exact natc_add _ _ | exact natc_mul _ _ | exact natc (by omega)) (by omega) hla ?_) | refine RL_skip rfl rfl rfl rfl ?_ | refine RL_skipU rfl rfl rfl ?_
              first | (refine RL_want rfl rfl ?_; refine L_load rfl Try.one28 rfl (by exact (hr.sl.old hs hO5).get h01) ?_) | refine RL_skip rfl rfl rfl rfl ?_ | refine RL_skipU rfl rfl rfl ?_
              first | (refine RL_want rfl rfl ?_; refine L_len rfl Try.underlying28 rfl ?_) | refine RL_skip rfl rfl rfl rfl ?_ | refine RL_skipU rfl rfl rfl ?_
              first | (refine RL_want rfl rfl ?_; (first | refine L_gtr rfl rfl rfl (dtrue (by omega)) ?_ | refine L_gtr rfl rfl rfl (dfalse (by omega)) ?_ | refine L_gtr rfl rfl rfl rfl ?_)) | refine RL_skip rfl rfl rfl rfl ?_ | refine RL_skipU rfl rfl rfl ?_
              first | (refine RL_want rfl rfl ?_; (first | refine L_pick_t rfl rfl rfl ?_ | refine L_pick_f rfl rfl rfl ?_)) | refine RL_skip rfl rfl rfl rfl ?_ | refine RL_skipU rfl rfl rfl ?_
              first | refine L_pick_t rfl rfl rfl ?_ | refine L_pick_f rfl rfl rfl ?_
              refine L_move rfl rfl ?_
              first | (refine RL_want rfl rfl ?_; refine L_move rfl rfl ?_) | refine RL_skip rfl rfl rfl rfl ?_ | refine RL_skipU rfl rfl rfl ?_
              first | (refine RL_want rfl rfl ?_; (first | refine L_lss rfl rfl rfl (dtrue (by omega)) ?_ | refine L_lss rfl rfl rfl (dfalse (by omega)) ?_ | refine L_lss rfl rfl rfl rfl ?_)) | refine RL_skip rfl rfl rfl rfl ?_ | refine RL_skipU rfl rfl rfl ?_
              first | refine L_pick_t rfl rfl rfl ?_ | refine L_pick_f rfl rfl rfl ?_
              refine L_move rfl rfl ?_
              first | (refine RL_want rfl rfl ?_; refine L_move rfl rfl ?_) | refine RL_skip rfl rfl rfl rfl ?_ | refine RL_skipU rfl rfl rfl ?_
              first | (refine RL_want rfl rfl ?_; (first | refine L_gtr rfl rfl rfl (dtrue (by omega)) ?_ | refine L_gtr rfl rfl rfl (dfalse (by omega)) ?_ | refine L_gtr rfl rfl rfl rfl ?_)) | refine RL_skip rfl rfl rfl rfl ?_ | refine RL_skipU rfl rfl rfl ?_
              first | refine L_pick_t rfl rfl rfl ?_ | refine L_pick_f rfl rfl rfl ?_
              refine L_move rfl rfl ?_
              first | (refine RL_want rfl rfl ?_; refine L_move rfl rfl ?_) | refine RL_skip rfl rfl rfl rfl ?_ | refine RL_skipU rfl rfl rfl ?_
              first | (refine RL_want rfl rfl ?_; refine L_len rfl Try.underlying26 rfl ?_) | refine RL_skip rfl rfl rfl rfl ?_ | refine RL_skipU rfl rfl rfl ?_
              first | (refine RL_want rfl rfl ?_; refine L_move rfl rfl ?_) | refine RL_skip rfl rfl rfl rfl ?_ | refine RL_skipU rfl rfl rfl ?_
              first | (refine RL_want rfl rfl ?_; (first | refine L_leq rfl rfl rfl (dtrue (by omega)) ?_ | refine L_leq rfl rfl rfl (dfalse (by omega)) ?_ | refine L_leq rfl rfl rfl rfl ?_)) | refine RL_skip rfl rfl rfl rfl ?_ | refine RL_skipU rfl rfl rfl ?_
              first | refine L_pick_t rfl rfl rfl ?_ | refine L_pick_f rfl rfl rfl ?_
              refine RL_then ?_
              refine W_if_true rfl ?_
              refine W_seq ?_
              refine W_region ?_
              refine L_call rfl Try.fun10 rfl (wakes_ok w) ?_
              rintro _ w' ⟨rfl, hs'⟩
              replace hs := (hs.forget (Own.cons hb5 Own.nil)).nil hs'
              refine L_assign rfl rfl ?_
              refine RL_then ?_
              refine W_ret' ?_
              refine Ex_then_ret ?_
              refine Ex_done1 rfl rfl ?_
              exact ⟨_, rfl, rfl, hs⟩
            · skip
              obtain ⟨m, rfl⟩ : ∃ m : Nat, order = (m : Int) := ⟨order.toNat, by omega⟩
              refine L_move rfl rfl ?_
              refine L_len rfl Try.underlying26 rfl ?_
              first | refine L_gtr rfl rfl rfl (dtrue (by omega)) ?_ | refine L_gtr rfl rfl rfl (dfalse (by omega)) ?_ | refine L_gtr rfl rfl rfl rfl ?_
              refine L_move rfl rfl ?_
              first | (refine RL_want rfl rfl ?_; refine L_move rfl rfl ?_) | refine RL_skip rfl rfl rfl rfl ?_ | refine RL_skipU rfl rfl rfl ?_
              first | (refine RL_want rfl rfl ?_; refine L_len rfl Try.underlying26 rfl ?_) | refine RL_skip rfl rfl rfl rfl ?_ | refine RL_skipU rfl rfl rfl ?_
              first | (refine RL_want rfl rfl ?_; (first | refine L_gtr rfl rfl rfl (dtrue (by omega)) ?_ | refine L_gtr rfl rfl rfl (dfalse (by omega)) ?_ | refine L_gtr rfl rfl rfl rfl ?_)) | refine RL_skip rfl rfl rfl rfl ?_ | refine RL_skipU rfl rfl rfl ?_
              first | (refine RL_want rfl rfl ?_; refine L_move rfl rfl ?_) | refine RL_skip rfl rfl rfl rfl ?_ | refine RL_skipU rfl rfl rfl ?_
              first | (refine RL_want rfl rfl ?_; refine L_move rfl rfl ?_) | refine RL_skip rfl rfl rfl rfl ?_ | refine RL_skipU rfl rfl rfl ?_
              first | (refine RL_want rfl rfl ?_; refine L_idx1 rfl Try.underlying26 Try.ti28 rfl rfl (by with_reducible first | exact natc_k _ | exact natc_a1 _ | exact natc_0 | exact natc_1 | exact natc_2 | exact natc_s1 _ (by omega) | exact natc_a2 _ | exact natc_add _ _ | exact natc_mul _ _ | exact natc (by omega)) (by omega) hla ?_) | refine RL_skip rfl rfl rfl rfl ?_ | refine RL_skipU rfl rfl rfl ?_
              first | (refine RL_want rfl rfl ?_; refine L_load rfl Try.one28 rfl (by exact (hr.sl.old hs hO5).get h01) ?_) | refine RL_skip rfl rfl rfl rfl ?_ | refine RL_skipU rfl rfl rfl ?_
              first | (refine RL_want rfl rfl ?_; refine L_len rfl Try.underlying28 rfl ?_) | refine RL_skip rfl rfl rfl rfl ?_ | refine RL_skipU rfl rfl rfl ?_
              first | (refine RL_want rfl rfl ?_; (first | refine L_gtr rfl rfl rfl (dtrue (by omega)) ?_ | refine L_gtr rfl rfl rfl (dfalse (by omega)) ?_ | refine L_gtr rfl rfl rfl rfl ?_)) | refine RL_skip rfl rfl rfl rfl ?_ | refine RL_skipU rfl rfl rfl ?_
              first | (refine RL_want rfl rfl ?_; (first | refine L_pick_t rfl rfl rfl ?_ | refine L_pick_f rfl rfl rfl ?_)) | refine RL_skip rfl rfl rfl rfl ?_ | refine RL_skipU rfl rfl rfl ?_
              first | refine L_pick_t rfl rfl rfl ?_ | refine L_pick_f rfl rfl rfl ?_
              refine L_move rfl rfl ?_
              first | (refine RL_want rfl rfl ?_; refine L_move rfl rfl ?_) | refine RL_skip rfl rfl rfl rfl ?_ | refine RL_skipU rfl rfl rfl ?_
              first | (refine RL_want rfl rfl ?_; (first | refine L_lss rfl rfl rfl (dtrue (by omega)) ?_ | refine L_lss rfl rfl rfl (dfalse (by omega)) ?_ | refine L_lss rfl rfl rfl rfl ?_)) | refine RL_skip rfl rfl rfl rfl ?_ | refine RL_skipU rfl rfl rfl ?_
              first | refine L_pick_t rfl rfl rfl ?_ | refine L_pick_f rfl rfl rfl ?_
              refine L_move rfl rfl ?_
              first | (refine RL_want rfl rfl ?_; refine L_move rfl rfl ?_) | refine RL_skip rfl rfl rfl rfl ?_ | refine RL_skipU rfl rfl rfl ?_
              first | (refine RL_want rfl rfl ?_; (first | refine L_gtr rfl rfl rfl (dtrue (by omega)) ?_ | refine L_gtr rfl rfl rfl (dfalse (by omega)) ?_ | refine L_gtr rfl rfl rfl rfl ?_)) | refine RL_skip rfl rfl rfl rfl ?_ | refine RL_skipU rfl rfl rfl ?_
              first | refine L_pick_t rfl rfl rfl ?_ | refine L_pick_f rfl rfl rfl ?_
              refine L_move rfl rfl ?_
              first | (refine RL_want rfl rfl ?_; refine L_move rfl rfl ?_) | refine RL_skip rfl rfl rfl rfl ?_ | refine RL_skipU rfl rfl rfl ?_
              first | (refine RL_want rfl rfl ?_; refine L_len rfl Try.underlying26 rfl ?_) | refine RL_skip rfl rfl rfl rfl ?_ | refine RL_skipU rfl rfl rfl ?_
              first | (refine RL_want rfl rfl ?_; refine L_move rfl rfl ?_) | refine RL_skip rfl rfl rfl rfl ?_ | refine RL_skipU rfl rfl rfl ?_
              first | (refine RL_want rfl rfl ?_; (first | refine L_leq rfl rfl rfl (dtrue (by omega)) ?_ | refine L_leq rfl rfl rfl (dfalse (by omega)) ?_ | refine L_leq rfl rfl rfl rfl ?_)) | refine RL_skip rfl rfl rfl rfl ?_ | refine RL_skipU rfl rfl rfl ?_
              first | refine L_pick_t rfl rfl rfl ?_ | refine L_pick_f rfl rfl rfl ?_
              refine RL_then ?_
              refine W_if_false rfl ?_
              refine W_skip' ?_
              refine Nx_then ?_
              refine W_seq ?_
              refine W_region ?_
              refine L_move rfl rfl ?_
              rw [hkk]
              refine L_call rfl Try.fun11 rfl (whole_ok a c rows rvs w (hr.old hs hO5) (by omega)) ?_
              rintro _ w1 ⟨n, tvs, M0, Ms, hmin, hbo, hbs, hs1⟩
              rw [← hkk] at hbo ⊢
              obtain ⟨TR, hTR⟩ : ∃ TR, TR = rows.map fun r => (r.take n).map cOf := ⟨_, rfl⟩
              have hTRl : TR.length = k := by rw [hTR, hkk]; simp
              rw [← hTR] at hbs
              have hrepT : RepRows TR (fOf rows) k n 549755813888 := by rw [hTR, hkk]; exact rows_rep rows n hmin
              have hOM : Own w (Ms ++ M0) := hbs.own.app hbo.own
              have hn200 : n ≤ 200 := by have := hmin.le 0 (by omega); omega
              -- the table, read in w1
              have hrowsT := hbs.rows (L := M0) hs1.rot
              obtain ⟨ta, tc, rfl, hslT⟩ := SlC.of_bl hbo hs1
              have hT : RowsC w1 ta TR tvs := ⟨hslT, by rw [hbs.len], fun i hi => by
                obtain ⟨ai, ci, h1, h2⟩ := hrowsT i hi
                exact ⟨ai, ci, by rw [h1, hrepT.row i (by omega)], h2⟩⟩
              have hsr := hs.call hs1 hOM
              have hf := hsr.forget (hO5.app (hOM.le hs.size))
              have hxy : w1.heap[b5]? = some (Obj.cells (Value.agg #[Value.int IntKind.i64 x, Value.int IntKind.i64 y]).cells 27) := hsr.has (b5, _) (by simp)
              have hr1 : RowsP w1 a rows rvs := hr.old hf Own.nil
              clear hsr hs hs1 hrowsT hslT hO5 hbs hbo hOM hr h03 h01
              have hs := HS.refl w1
              refine L_assign rfl rfl ?_
              refine RL_then ?_
              refine W_seq ?_
              refine W_region ?_
              refine L_move rfl rfl ?_
              refine L_call rfl Try.fun8 rfl (weights_some m w1 (by omega)) ?_
              rintro _ w2 ⟨bw, rfl, hbw, hs1⟩
              have hslW : SlC w2 (some ⟨bw, 0, none⟩) (il (wOut m m)) := SlC.of_row (sp := []) (by rw [List.append_nil]; exact hs1.get (i := 0) rfl)
              replace hT := hT.old hs1 (Own.cons hbw Own.nil)
              replace hr1 := hr1.old hs1 (Own.cons hbw Own.nil)
              replace hxy := (hs1.old (Array.getElem?_eq_some_iff.1 hxy).1 (by have := (Array.getElem?_eq_some_iff.1 hxy).1; simp; omega)).trans hxy
              replace hf := hf.nil (hs1.forget (Own.cons hbw Own.nil))
              clear hs hs1
              have hs := HS.refl w2
              refine L_assign rfl rfl ?_
              refine RL_then ?_
              refine W_seq ?_
              refine W_region ?_
              refine L_move rfl rfl ?_
              refine L_move rfl rfl ?_
              have hTn : ∀ i, i < TR.length → (TR.getD i []).length = n := fun i hi => hrepT.row i (by omega)
              have hcall := cancel_ok ta tc TR tvs n m w2 hT hTn (by omega) (by omega) (by rw [hTRl]; exact Nat.le_trans (Nat.mul_le_mul (show k ≤ 200 by omega) hn200) (by decide)) (by omega) (by omega)
              rw [hTRl] at hcall
              refine L_call rfl Try.fun12 rfl (hcall) ?_
              rintro _ w3 ⟨xb, xcap, xvs, XR, rfl, hs1, hXl, hX, hXn, hXc⟩
              clear hcall
              have h2m : 2 ^ m ≤ 256 := Nat.pow_le_pow_right (by decide) (show m ≤ 8 by omega)
              have hrepX : RepRows XR (dz (fOf rows) m) (k - m) n (549755813888 * 2 ^ m) := by
                refine rep_back ?_
                rw [hXc]
                exact hrepT.crow.dIter m (by omega)
              replace hT := hT.old hs1 Own.nil
              replace hr1 := hr1.old hs1 Own.nil
              replace hslW := hslW.old hs1 Own.nil
              replace hxy := (hs1.old (Array.getElem?_eq_some_iff.1 hxy).1 (by simp)).trans hxy
              replace hf := hf.nil hs1
              clear hs hs1 hXc
              have hs := HS.refl w3
              refine L_move rfl rfl ?_
              refine L_extract rfl rfl rfl ?_
              refine L_extract rfl rfl rfl ?_
              refine L_assign rfl rfl ?_
              refine L_assign rfl rfl ?_
              refine RL_then ?_
              refine W_seq ?_
              refine W_seq ?_
              refine W_region ?_
              refine L_move rfl rfl ?_
              first | refine L_neq rfl rfl rfl (dtrue (by omega)) ?_ | refine L_neq rfl rfl rfl (dfalse (by omega)) ?_ | refine L_neq rfl rfl rfl rfl ?_
              refine L_move rfl rfl ?_
              first | (refine RL_want rfl rfl ?_; refine L_move rfl rfl ?_) | refine RL_skip rfl rfl rfl rfl ?_ | refine RL_skipU rfl rfl rfl ?_
              first | (refine RL_want rfl rfl ?_; refine L_len rfl Try.underlying29 rfl ?_) | refine RL_skip rfl rfl rfl rfl ?_ | refine RL_skipU rfl rfl rfl ?_
              first | (refine RL_want rfl rfl ?_; refine L_move rfl rfl ?_) | refine RL_skip rfl rfl rfl rfl ?_ | refine RL_skipU rfl rfl rfl ?_
              first | (refine RL_want rfl rfl ?_; refine L_len rfl Try.underlying29 rfl ?_) | refine RL_skip rfl rfl rfl rfl ?_ | refine RL_skipU rfl rfl rfl ?_
              first | (refine RL_want rfl rfl ?_; refine L_move rfl rfl ?_) | refine RL_skip rfl rfl rfl rfl ?_ | refine RL_skipU rfl rfl rfl ?_
              first | (refine RL_want rfl rfl ?_; (first | refine L_sub rfl rfl rfl (wrp_i64 (by omega)) ?_ | refine L_sub rfl rfl rfl rfl ?_)) | refine RL_skip rfl rfl rfl rfl ?_ | refine RL_skipU rfl rfl rfl ?_
              first | (refine RL_want rfl rfl ?_; (first | refine L_neq rfl rfl rfl (dtrue (by omega)) ?_ | refine L_neq rfl rfl rfl (dfalse (by omega)) ?_ | refine L_neq rfl rfl rfl rfl ?_)) | refine RL_skip rfl rfl rfl rfl ?_ | refine RL_skipU rfl rfl rfl ?_
              first | refine L_pick_t rfl rfl rfl ?_ | refine L_pick_f rfl rfl rfl ?_
              refine L_move rfl rfl ?_
              first | (refine RL_want rfl rfl ?_; refine L_move rfl rfl ?_) | refine RL_skip rfl rfl rfl rfl ?_ | refine RL_skipU rfl rfl rfl ?_
              first | (refine RL_want rfl rfl ?_; refine L_len rfl Try.underlying22 rfl ?_) | refine RL_skip rfl rfl rfl rfl ?_ | refine RL_skipU rfl rfl rfl ?_
              first | (refine RL_want rfl rfl ?_; refine L_move rfl rfl ?_) | refine RL_skip rfl rfl rfl rfl ?_ | refine RL_skipU rfl rfl rfl ?_
              first | (refine RL_want rfl rfl ?_; (first | refine L_add rfl rfl rfl (wrp_i64 (by omega)) ?_ | refine L_add rfl rfl rfl rfl ?_)) | refine RL_skip rfl rfl rfl rfl ?_ | refine RL_skipU rfl rfl rfl ?_
              first | (refine RL_want rfl rfl ?_; (first | refine L_neq rfl rfl rfl (dtrue (by omega)) ?_ | refine L_neq rfl rfl rfl (dfalse (by omega)) ?_ | refine L_neq rfl rfl rfl rfl ?_)) | refine RL_skip rfl rfl rfl rfl ?_ | refine RL_skipU rfl rfl rfl ?_
              first | refine L_pick_t rfl rfl rfl ?_ | refine L_pick_f rfl rfl rfl ?_
              refine RL_then ?_
              refine W_if_false rfl ?_
              refine W_skip' ?_
              refine Nx_then ?_
              refine W_seq ?_
              refine W_region ?_
              refine L_idxA rfl Try.underlying27 Try.ti2 rfl rfl (by with_reducible first | exact natc_k _ | exact natc_a1 _ | exact natc_0 | exact natc_1 | exact natc_2 | exact natc_s1 _ (by omega) | exact natc_a2 _ | exact natc_add _ _ | exact natc_mul _ _ | exact natc (by omega)) (by omega) ?_
              refine L_load rfl Try.one2 rfl (by rw [add_lit0]; exact Lk.cell_of_row (T := 27) (cs := [.int .i64 x, .int .i64 y]) hxy rfl) ?_
              refine L_rem rfl rfl rfl (by omega) ?_
              refine L_itof rfl Try.underlying2 Try.underlying35 rfl ?_
              refine L_idxA rfl Try.underlying27 Try.ti2 rfl rfl (by with_reducible first | exact natc_k _ | exact natc_a1 _ | exact natc_0 | exact natc_1 | exact natc_2 | exact natc_s1 _ (by omega) | exact natc_a2 _ | exact natc_add _ _ | exact natc_mul _ _ | exact natc (by omega)) (by omega) ?_
              refine L_load rfl Try.one2 rfl (by rw [add_lit0]; exact Lk.cell_of_row (T := 27) (cs := [.int .i64 x, .int .i64 y]) hxy rfl) ?_
              refine L_rem rfl rfl rfl (by omega) ?_
              refine L_itof rfl Try.underlying2 Try.underlying35 rfl ?_
              refine L_complex rfl rfl rfl ?_
              refine L_assign rfl rfl ?_
              refine RL_then ?_
              refine W_seq ?_
              refine W_region ?_
              refine L_move rfl rfl ?_
              rw [hkk]
              refine L_call rfl Try.fun11 rfl (whole_ok a c rows rvs w3 hr1 (by omega)) ?_
              rintro _ w4 ⟨n', uvs, M0, Ms, hmin', hbo, hbs, hs1⟩
              rw [← hkk] at hbo ⊢
              obtain rfl : n = n' := min_same (by omega) hmin hmin'
              rw [← hTR] at hbs
              have hs := hs1
              clear hs1 hmin'
              obtain ⟨ua, uc, rfl, _⟩ := hbo.slice
              refine L_assign rfl rfl ?_
              refine RL_then ?_
              refine W_seq ?_
              refine W_seq ?_
              refine W_region ?_
              refine L_assign rfl rfl ?_
              refine RL_then ?_
              refine W_block ?_
              obtain ⟨g0, cap0, sp0, hu, rfl, hg0, hc0, hn0⟩ := hbo.own_row (by omega)
              injection hu with hu1 _ hu2
              subst hu1 hu2
              replace hs := hs.rot
              have hulen := hbs.len
              rw [hTRl] at hulen
              clear hbo
              refine W_loop4 (fun (i : Nat) (rs : List (List (Nat × Nat))) (Ms : List (Nat × Obj)) (w : World) => [(1, .int .i64 m), (7, .slice ta k tc), (8, .slice (some ⟨bw, 0, none⟩) (m + 1) (m + 1)), (9, .slice xb (k - m) xcap), (11, .complex .f64 (m39 x) (m39 y)), (12, .slice (some ⟨g0, 0, none⟩) k uc), (13, .int .i64 i)]) (fun (i : Nat) (rs : List (List (Nat × Nat))) (Ms : List (Nat × Obj)) (w : World) => w) (fun (i : Nat) (rs : List (List (Nat × Nat))) (Ms : List (Nat × Obj)) (w : World) => (i ≤ k) ∧ (BlL w3 n uvs rs Ms) ∧ (rs.length = k) ∧ (∀ i' j, i' < k → j < n → RepP ((rs.getD i' []).getD j (0, 0)) (gOf rows (tz x, tz y) i 0 i' j)) ∧ (HS w3 w ((g0, Row 36 (uvs ++ sp0)) :: Ms))) (fun (i : Nat) (rs : List (List (Nat × Nat))) (Ms : List (Nat × Obj)) (w : World) => k - i) (0) (TR) (Ms) (w4) (is := [1, 7, 8, 9, 11, 12, 13]) rfl rfl ?_ ?_
              · refine ⟨Nat.zero_le _, hbs, hTRl, fun i' j hi' hj => ?_, hs⟩
                have h5 := hrepT.rep i' j hi' hj
                rw [gOf, if_neg (by omega)]
                exact ⟨h5.1.1, h5.2.1⟩
              · clear hs hbs
                intro i rs Ms w hI
                show W _ _ _ _ [(1, .int .i64 m), (7, .slice ta k tc), (8, .slice (some ⟨bw, 0, none⟩) (m + 1) (m + 1)), (9, .slice xb (k - m) xcap), (11, .complex .f64 (m39 x) (m39 y)), (12, .slice (some ⟨g0, 0, none⟩) k uc), (13, .int .i64 i)] w
                obtain ⟨hi, hbs, hrl', hG, hs⟩ := hI
                by_cases hlt : i < k
                · obtain ⟨ao, co, hvi⟩ := hbs.val i (by omega)
                  have hvi' : (uvs ++ sp0)[i]? = some (.slice ao n co) := by rw [List.getElem?_append_left (by omega)]; exact hvi
                  refine W_seq ?_
                  refine W_seq ?_
                  refine W_region ?_
                  refine L_move rfl rfl ?_
                  refine L_move rfl rfl ?_
                  refine L_len rfl Try.underlying29 rfl ?_
                  first | refine L_lss rfl rfl rfl (dtrue (by omega)) ?_ | refine L_lss rfl rfl rfl (dfalse (by omega)) ?_ | refine L_lss rfl rfl rfl rfl ?_
                  refine RL_then ?_
                  refine W_if_true rfl ?_
                  refine W_skip' ?_
                  refine Nx_then ?_
                  refine W_seq ?_
                  refine W_block ?_
                  refine W_seq ?_
                  refine W_region ?_
                  refine L_assign rfl rfl ?_
                  refine RL_then ?_
                  refine W_block ?_
                  refine W_loop4 (fun (q : Nat) (rs : List (List (Nat × Nat))) (Ms : List (Nat × Obj)) (w : World) => [(1, .int .i64 m), (7, .slice ta k tc), (8, .slice (some ⟨bw, 0, none⟩) (m + 1) (m + 1)), (9, .slice xb (k - m) xcap), (11, .complex .f64 (m39 x) (m39 y)), (12, .slice (some ⟨g0, 0, none⟩) k uc), (13, .int .i64 i), (14, .int .i64 q)]) (fun (q : Nat) (rs : List (List (Nat × Nat))) (Ms : List (Nat × Obj)) (w : World) => w) (fun (q : Nat) (rs : List (List (Nat × Nat))) (Ms : List (Nat × Obj)) (w : World) => (q ≤ n) ∧ (BlL w3 n uvs rs Ms) ∧ (rs.length = k) ∧ (∀ i' j, i' < k → j < n → RepP ((rs.getD i' []).getD j (0, 0)) (gOf rows (tz x, tz y) i q i' j)) ∧ (HS w3 w ((g0, Row 36 (uvs ++ sp0)) :: Ms))) (fun (q : Nat) (rs : List (List (Nat × Nat))) (Ms : List (Nat × Obj)) (w : World) => n - q) (0) (rs) (Ms) (w) (is := [1, 7, 8, 9, 11, 12, 13, 14]) rfl rfl ?_ ?_
                  · exact ⟨Nat.zero_le _, hbs, hrl', hG, hs⟩
                  · clear hs hbs hG hrl'
                    intro q rs Ms w hI
                    show W _ _ _ _ [(1, .int .i64 m), (7, .slice ta k tc), (8, .slice (some ⟨bw, 0, none⟩) (m + 1) (m + 1)), (9, .slice xb (k - m) xcap), (11, .complex .f64 (m39 x) (m39 y)), (12, .slice (some ⟨g0, 0, none⟩) k uc), (13, .int .i64 i), (14, .int .i64 q)] w
                    obtain ⟨hq, hbs, hrl', hG, hs⟩ := hI
                    by_cases hlt2 : q < n
                    · obtain ⟨j1, g1, cap1, sp1, hM1, hv1, hset1⟩ := hbs.at (by omega) i (by omega)
                      obtain ⟨hao, hcc⟩ : ao = some ⟨g1, 0, none⟩ ∧ co = cap1 := by rw [hvi] at hv1; injection hv1 with h1; injection h1 with h1 h2 h3; exact ⟨h1, h3⟩
                      have hrow := hbs.rowlen i (by omega)
                      obtain ⟨xr, hxr⟩ : ∃ xr, xr = rs.getD i [] := ⟨_, rfl⟩
                      rw [← hxr] at hM1 hrow
                      refine W_seq ?_
                      refine W_seq ?_
                      refine W_region ?_
                      refine L_move rfl rfl ?_
                      refine L_move rfl rfl ?_
                      refine L_move rfl rfl ?_
                      refine L_idx1 rfl Try.underlying29 Try.ti36 rfl rfl (by with_reducible first | exact natc_k _ | exact natc_a1 _ | exact natc_0 | exact natc_1 | exact natc_2 | exact natc_s1 _ (by omega) | exact natc_a2 _ | exact natc_add _ _ | exact natc_mul _ _ | exact natc (by omega)) (by omega) (by first | rfl | exact hao) ?_
                      refine L_load rfl Try.one36 rfl (by first | exact hs.cellA (i := 0) rfl hvi' | exact hs.cellA (i := j1 + 1) (by simpa using hM1) (cl_get' (by omega))) ?_
                      refine L_len rfl Try.underlying36 rfl ?_
                      first | refine L_lss rfl rfl rfl (dtrue (by omega)) ?_ | refine L_lss rfl rfl rfl (dfalse (by omega)) ?_ | refine L_lss rfl rfl rfl rfl ?_
                      refine RL_then ?_
                      refine W_if_true rfl ?_
                      refine W_skip' ?_
                      refine Nx_then ?_
                      refine W_seq ?_
                      refine W_block ?_
                      refine W_pht [0, 1, 2, 4, 5, 6, 7, 9, 12] [3, 8, 10, 11, 13, 14] [15] (fun _ _ _ => False) Try.mixed (by kernel_rfl) (fun _ _ _ _ _ h => h) hs ?_
                      refine PL_val rfl (fun w => R_move rfl) ?_
                      refine PL_val rfl (fun w => R_move rfl) ?_
                      refine PL_val rfl (fun w => R_idx1 Try.underlying29 Try.ti36 rfl rfl (by with_reducible first | exact natc_k _ | exact natc_a1 _ | exact natc_0 | exact natc_1 | exact natc_2 | exact natc_s1 _ (by omega) | exact natc_a2 _ | exact natc_add _ _ | exact natc_mul _ _ | exact natc (by omega)) (by omega) (by first | rfl | exact hao)) ?_
                      refine PL_val rfl (fun w => R_move rfl) ?_
                      refine PL_val rfl (fun w => R_move rfl) ?_
                      refine PL_val rfl (fun w => R_move rfl) ?_
                      refine PL_val rfl (fun w => R_idx1 Try.underlying29 Try.ti36 rfl rfl (by with_reducible first | exact natc_k _ | exact natc_a1 _ | exact natc_0 | exact natc_1 | exact natc_2 | exact natc_s1 _ (by omega) | exact natc_a2 _ | exact natc_add _ _ | exact natc_mul _ _ | exact natc (by omega)) (by omega) (by first | rfl | exact hao)) ?_
                      refine PL_val rfl (fun w => R_move rfl) ?_
                      refine PL_val rfl (fun w => R_move rfl) ?_
                      refine PL_end ?_
                      refine HL_val rfl (fun w hs => R_load Try.one36 rfl (by first | exact hs.cellA (i := 0) rfl hvi' | exact hs.cellA (i := j1 + 1) (by simpa using hM1) (cl_get' (by omega)))) ?_
                      refine HL_val rfl (fun w hs => R_load Try.one36 rfl (by first | exact hs.cellA (i := 0) rfl hvi' | exact hs.cellA (i := j1 + 1) (by simpa using hM1) (cl_get' (by omega)))) ?_
                      refine HL_val rfl (fun w hs => R_idx1 Try.underlying36 Try.ti34 rfl rfl (by with_reducible first | exact natc_k _ | exact natc_a1 _ | exact natc_0 | exact natc_1 | exact natc_2 | exact natc_s1 _ (by omega) | exact natc_a2 _ | exact natc_add _ _ | exact natc_mul _ _ | exact natc (by omega)) (by omega) (by first | rfl | exact hao)) ?_
                      refine HL_val rfl (fun w hs => R_load Try.one34 rfl (by first | exact hs.cellA (i := 0) rfl hvi' | exact hs.cellA (i := j1 + 1) (by simpa using hM1) (cl_get' (by omega)))) ?_
                      refine HL_csum rfl (op := .add) (by simp) rfl rfl ?_
                      intro r118 s118 hr118 hi118
                      refine HL_val rfl (fun w hs => R_idx1 Try.underlying36 Try.ti34 rfl rfl (by with_reducible first | exact natc_k _ | exact natc_a1 _ | exact natc_0 | exact natc_1 | exact natc_2 | exact natc_s1 _ (by omega) | exact natc_a2 _ | exact natc_add _ _ | exact natc_mul _ _ | exact natc (by omega)) (by omega) (by first | rfl | exact hao)) ?_
                      refine HL_tail ?_
                      intro w hs
                      refine L_store hs (i := (j1 + 1)) (by simpa using hM1) Try.ti34 rfl rfl (by first | rfl | exact add_lit0 _ _) (by simp; omega) rfl ?_
                      intro w hs
                      try dsimp only [List.set_cons_succ, List.set_cons_zero, List.cons_append, List.nil_append] at hs
                      refine RL_nil' ?_
                      refine Nx_block ?_
                      refine Nx_then ?_
                      refine W_region ?_
                      refine L_move rfl rfl ?_
                      first | refine L_add rfl rfl rfl (wrp_i64 (by omega)) ?_ | refine L_add rfl rfl rfl rfl ?_
                      refine L_assign rfl rfl ?_
                      refine RL_nil' ?_
                      rw [cl_set' _ _ _ _ _ (by omega)] at hs
                      have hbs2 := hset1 (xr.set q (r118, s118)) (by simp [hrow])
                      refine Nx_loopP (q + 1, rs.set i (xr.set q (r118, s118)), Ms.set j1 (g1, Row 34 (cl (xr.set q (r118, s118)) ++ sp1)), w) (is := [1, 7, 8, 9, 11, 12, 13, 14]) (I' := (fun (q : Nat) (rs : List (List (Nat × Nat))) (Ms : List (Nat × Obj)) (w : World) => (q ≤ n) ∧ (BlL w3 n uvs rs Ms) ∧ (rs.length = k) ∧ (∀ i' j, i' < k → j < n → RepP ((rs.getD i' []).getD j (0, 0)) (gOf rows (tz x, tz y) i q i' j)) ∧ (HS w3 w ((g0, Row 36 (uvs ++ sp0)) :: Ms))) (q + 1) (rs.set i (xr.set q (r118, s118))) (Ms.set j1 (g1, Row 34 (cl (xr.set q (r118, s118)) ++ sp1))) (w)) rfl rfl rfl ?_ ?_
                      · refine ⟨by omega, hbs2, by simp [hrl'], fun i' j hi' hj => ?_, hs⟩
                        by_cases h5 : i' = i
                        · subst h5
                          rw [getD_set_same (by omega)]
                          by_cases h6 : j = q
                          · subst h6
                            rw [getD_set_same (by omega), gOf, if_pos (by omega)]
                            have h7 := hG i' j hi' hj
                            rw [gOf, if_neg (by omega), ← hxr] at h7
                            have b1 := tz_lt ((rows.getD i' []).getD j (0, 0)).1
                            have b2 := tz_lt ((rows.getD i' []).getD j (0, 0)).2
                            have b3 := tz_lt x
                            have b4 := tz_lt y
                            exact ⟨rep_add_fs hr118 h7.1 (rep_m39 x).1 (by simp only [fOf]; omega), rep_add_fs hi118 h7.2 (rep_m39 y).1 (by simp only [fOf]; omega)⟩
                          · rw [getD_set_other (by omega)]
                            have h7 := hG i' j hi' hj
                            rw [← hxr] at h7
                            have e : gOf rows (tz x, tz y) i' (q + 1) i' j = gOf rows (tz x, tz y) i' q i' j := by
                              unfold gOf
                              by_cases h8 : j < q
                              · rw [if_pos (by omega), if_pos (by omega)]
                              · rw [if_neg (by omega), if_neg (by omega)]
                            rw [e]; exact h7
                        · rw [getD_set_other (fun h => h5 h.symm)]
                          have h7 := hG i' j hi' hj
                          have e : gOf rows (tz x, tz y) i (q + 1) i' j = gOf rows (tz x, tz y) i q i' j := by
                            unfold gOf
                            by_cases h8 : i' < i
                            · rw [if_pos (by omega), if_pos (by omega)]
                            · rw [if_neg (by omega), if_neg (by omega)]
                          rw [e]; exact h7
                      · omega
                    · skip
                      refine W_seq ?_
                      refine W_seq ?_
                      refine W_region ?_
                      refine L_move rfl rfl ?_
                      refine L_move rfl rfl ?_
                      refine L_move rfl rfl ?_
                      refine L_idx1 rfl Try.underlying29 Try.ti36 rfl rfl (by with_reducible first | exact natc_k _ | exact natc_a1 _ | exact natc_0 | exact natc_1 | exact natc_2 | exact natc_s1 _ (by omega) | exact natc_a2 _ | exact natc_add _ _ | exact natc_mul _ _ | exact natc (by omega)) (by omega) rfl ?_
                      refine L_load rfl Try.one36 rfl (by exact hs.cellA (i := 0) rfl hvi') ?_
                      refine L_len rfl Try.underlying36 rfl ?_
                      first | refine L_lss rfl rfl rfl (dtrue (by omega)) ?_ | refine L_lss rfl rfl rfl (dfalse (by omega)) ?_ | refine L_lss rfl rfl rfl rfl ?_
                      refine RL_then ?_
                      refine W_if_false rfl ?_
                      refine W_exit' ?_
                      refine Ex_then_exit ?_
                      refine Ex_loop_exit ?_
                      refine Ex_block_hit ?_
                      refine Nx_block ?_
                      refine Nx_then ?_
                      refine W_region ?_
                      refine L_move rfl rfl ?_
                      first | refine L_add rfl rfl rfl (wrp_i64 (by omega)) ?_ | refine L_add rfl rfl rfl rfl ?_
                      refine L_assign rfl rfl ?_
                      refine RL_nil' ?_
                      refine Nx_loopP (i + 1, rs, Ms, w) (is := [1, 7, 8, 9, 11, 12, 13]) (I' := (fun (i : Nat) (rs : List (List (Nat × Nat))) (Ms : List (Nat × Obj)) (w : World) => (i ≤ k) ∧ (BlL w3 n uvs rs Ms) ∧ (rs.length = k) ∧ (∀ i' j, i' < k → j < n → RepP ((rs.getD i' []).getD j (0, 0)) (gOf rows (tz x, tz y) i 0 i' j)) ∧ (HS w3 w ((g0, Row 36 (uvs ++ sp0)) :: Ms))) (i + 1) (rs) (Ms) (w)) rfl rfl rfl ?_ ?_
                      · refine ⟨by omega, hbs, hrl', fun i' j hi' hj => ?_, hs⟩
                        have h7 := hG i' j hi' hj
                        have e : gOf rows (tz x, tz y) (i + 1) 0 i' j = gOf rows (tz x, tz y) i q i' j := by
                          unfold gOf
                          by_cases h8 : i' < i + 1
                          · rw [if_pos (by omega), if_pos (by omega)]
                          · rw [if_neg (by omega), if_neg (by omega)]
                        rw [e]; exact h7
                      · omega
                · skip
                  refine W_seq ?_
                  refine W_seq ?_
                  refine W_region ?_
                  refine L_move rfl rfl ?_
                  refine L_move rfl rfl ?_
                  refine L_len rfl Try.underlying29 rfl ?_
                  first | refine L_lss rfl rfl rfl (dtrue (by omega)) ?_ | refine L_lss rfl rfl rfl (dfalse (by omega)) ?_ | refine L_lss rfl rfl rfl rfl ?_
                  refine RL_then ?_
                  refine W_if_false rfl ?_
                  obtain rfl : k = i := by omega
                  have hrepU : RepRows rs (fun i j => addZ (fOf rows i j) (tz x, tz y)) k n 1099511627776 := ⟨hrl', fun i hi => hbs.rowlen i (by omega), fun i j hi hj => by
                    have h7 := hG i j hi hj
                    rw [gOf, if_pos (by omega)] at h7
                    have b1 := tz_lt ((rows.getD i []).getD j (0, 0)).1
                    have b2 := tz_lt ((rows.getD i []).getD j (0, 0)).2
                    have b3 := tz_lt x
                    have b4 := tz_lt y
                    exact ⟨⟨h7.1, by simp only [addZ, fOf]; omega⟩, ⟨h7.2, by simp only [addZ, fOf]; omega⟩⟩⟩
                  have hrowsU := hbs.rows (L := [(g0, Row 36 (uvs ++ sp0))]) hs
                  have hslU : SlC w (some ⟨g0, 0, none⟩) uvs := SlC.of_row (sp := sp0) (hs.get (i := 0) rfl)
                  have hU : RowsC w (some ⟨g0, 0, none⟩) rs uvs := ⟨hslU, by rw [hulen, hrl'], fun i hi => by
                    obtain ⟨ai, ci, h1, h2⟩ := hrowsU i hi
                    exact ⟨ai, ci, by rw [h1, hbs.rowlen i hi], h2⟩⟩
                  have hcall2 := cancel_ok (some ⟨g0, 0, none⟩) uc rs uvs n m w hU (fun i hi => hbs.rowlen i hi) (by omega) (by omega) (by rw [hrl']; exact Nat.le_trans (Nat.mul_le_mul (show k ≤ 200 by omega) hn200) (by decide)) (by omega) (by omega)
                  rw [hrl'] at hcall2
                  refine W_exit' ?_
                  refine Ex_then_exit ?_
                  refine Ex_loop_exit ?_
                  refine Ex_block_hit ?_
                  refine Nx_then ?_
                  refine W_seq ?_
                  refine W_region ?_
                  refine L_move rfl rfl ?_
                  refine L_move rfl rfl ?_
                  refine L_call rfl Try.fun12 rfl (hcall2) ?_
                  rintro _ w5 ⟨yb, ycap, yvs, YR, rfl, hs1, hYl, hY, hYn, hYc⟩
                  have hrepY : RepRows YR (dz (fun i j => addZ (fOf rows i j) (tz x, tz y)) m) (k - m) n (1099511627776 * 2 ^ m) := by
                    refine rep_back ?_
                    rw [hYc]
                    exact hrepU.crow.dIter m (by omega)
                  replace hs := (hs.forget (Own.cons hg0 hbs.own)).nil hs1
                  replace hT := hT.old hs Own.nil
                  replace hX := hX.old hs Own.nil
                  replace hslW := hslW.old hs Own.nil
                  replace hf := hf.nil hs
                  clear hs hs1 hcall2 hU hslU hrowsU hrepU hG hbs hYc
                  have hs := HS.refl w5
                  refine L_move rfl rfl ?_
                  refine L_extract rfl rfl rfl ?_
                  refine L_extract rfl rfl rfl ?_
                  refine L_assign rfl rfl ?_
                  refine L_assign rfl rfl ?_
                  refine RL_then ?_
                  refine W_seq ?_
                  refine W_seq ?_
                  refine W_region ?_
                  refine L_move rfl rfl ?_
                  first | refine L_neq rfl rfl rfl (dtrue (by omega)) ?_ | refine L_neq rfl rfl rfl (dfalse (by omega)) ?_ | refine L_neq rfl rfl rfl rfl ?_
                  refine L_move rfl rfl ?_
                  first | (refine RL_want rfl rfl ?_; refine L_move rfl rfl ?_) | refine RL_skip rfl rfl rfl rfl ?_ | refine RL_skipU rfl rfl rfl ?_
                  first | (refine RL_want rfl rfl ?_; refine L_len rfl Try.underlying29 rfl ?_) | refine RL_skip rfl rfl rfl rfl ?_ | refine RL_skipU rfl rfl rfl ?_
                  first | (refine RL_want rfl rfl ?_; refine L_move rfl rfl ?_) | refine RL_skip rfl rfl rfl rfl ?_ | refine RL_skipU rfl rfl rfl ?_
                  first | (refine RL_want rfl rfl ?_; refine L_len rfl Try.underlying29 rfl ?_) | refine RL_skip rfl rfl rfl rfl ?_ | refine RL_skipU rfl rfl rfl ?_
                  first | (refine RL_want rfl rfl ?_; (first | refine L_neq rfl rfl rfl (dtrue (by omega)) ?_ | refine L_neq rfl rfl rfl (dfalse (by omega)) ?_ | refine L_neq rfl rfl rfl rfl ?_)) | refine RL_skip rfl rfl rfl rfl ?_ | refine RL_skipU rfl rfl rfl ?_
                  first | refine L_pick_t rfl rfl rfl ?_ | refine L_pick_f rfl rfl rfl ?_
                  refine RL_then ?_
                  refine W_if_false rfl ?_
                  refine W_skip' ?_
                  refine Nx_then ?_
                  refine W_seq ?_
                  refine W_seq ?_
                  refine W_region ?_
                  refine L_assign rfl rfl ?_
                  refine RL_then ?_
                  refine W_block ?_
                  refine W_loop2 (fun (p : Nat) (w : World) => [(1, .int .i64 m), (7, .slice ta k tc), (8, .slice (some ⟨bw, 0, none⟩) (m + 1) (m + 1)), (9, .slice xb (k - m) xcap), (15, .slice yb (k - m) ycap), (17, .int .i64 p)]) (fun (p : Nat) (w : World) => w) (fun (p : Nat) (w : World) => (p ≤ k - m) ∧ (HS w5 w [])) (fun (p : Nat) (w : World) => k - m - p) (0) (w5) (is := [1, 7, 8, 9, 15, 17]) rfl rfl ?_ ?_
                  · exact ⟨Nat.zero_le _, hs⟩
                  · clear hs
                    intro p w hI
                    show W _ _ _ _ [(1, .int .i64 m), (7, .slice ta k tc), (8, .slice (some ⟨bw, 0, none⟩) (m + 1) (m + 1)), (9, .slice xb (k - m) xcap), (15, .slice yb (k - m) ycap), (17, .int .i64 p)] w
                    obtain ⟨hp, hs⟩ := hI
                    by_cases hlt3 : p < k - m
                    · obtain ⟨ax, cx, hx1, hx2⟩ := hX.row p (by omega)
                      obtain ⟨at', ct, ht1, ht2⟩ := hT.row p (by omega)
                      obtain ⟨ay, cy, hy1, hy2⟩ := hY.row p (by omega)
                      rw [hXn p (by omega)] at hx1
                      rw [hTn p (by omega)] at ht1
                      rw [hYn p (by omega)] at hy1
                      have ox := hX.sl.ao (by rw [hX.len]; omega)
                      have ot := hT.sl.ao (by rw [hT.len]; omega)
                      have oy := hY.sl.ao (by rw [hY.len]; omega)
                      refine W_seq ?_
                      refine W_seq ?_
                      refine W_region ?_
                      refine L_move rfl rfl ?_
                      refine L_move rfl rfl ?_
                      refine L_len rfl Try.underlying29 rfl ?_
                      first | refine L_lss rfl rfl rfl (dtrue (by omega)) ?_ | refine L_lss rfl rfl rfl (dfalse (by omega)) ?_ | refine L_lss rfl rfl rfl rfl ?_
                      refine RL_then ?_
                      refine W_if_true rfl ?_
                      refine W_skip' ?_
                      refine Nx_then ?_
                      refine W_seq ?_
                      refine W_block ?_
                      refine W_seq ?_
                      refine W_seq ?_
                      refine W_pht [0, 1, 2, 5, 6, 7] [3, 4, 8, 9, 10, 11, 12, 13, 14, 15, 16, 17, 18, 19, 20, 21, 22, 23] [] (fun _ _ _ => False) Try.mixed (by kernel_rfl) (fun _ _ _ _ _ h => h) hs ?_
                      refine PL_val rfl (fun w => R_move rfl) ?_
                      refine PL_val rfl (fun w => R_move rfl) ?_
                      refine PL_val rfl (fun w => R_idx1 Try.underlying29 Try.ti36 rfl rfl (by with_reducible first | exact natc_k _ | exact natc_a1 _ | exact natc_0 | exact natc_1 | exact natc_2 | exact natc_s1 _ (by omega) | exact natc_a2 _ | exact natc_add _ _ | exact natc_mul _ _ | exact natc (by omega)) (by omega) (by first | exact ox | exact ot | exact oy)) ?_
                      refine PL_val rfl (fun w => R_move rfl) ?_
                      refine PL_val rfl (fun w => R_move rfl) ?_
                      refine PL_val rfl (fun w => R_idx1 Try.underlying29 Try.ti36 rfl rfl (by with_reducible first | exact natc_k _ | exact natc_a1 _ | exact natc_0 | exact natc_1 | exact natc_2 | exact natc_s1 _ (by omega) | exact natc_a2 _ | exact natc_add _ _ | exact natc_mul _ _ | exact natc (by omega)) (by omega) (by first | exact ox | exact ot | exact oy)) ?_
                      refine PL_end ?_
                      refine HL_val rfl (fun w hs => R_load Try.one36 rfl (by first | exact (hX.sl.old hs Own.nil).get hx1 | exact (hT.sl.old hs Own.nil).get ht1 | exact (hY.sl.old hs Own.nil).get hy1)) ?_
                      refine HL_val rfl (fun w hs => R_len Try.underlying36 rfl) ?_
                      refine HL_val rfl (fun w hs => R_load Try.one36 rfl (by first | exact (hX.sl.old hs Own.nil).get hx1 | exact (hT.sl.old hs Own.nil).get ht1 | exact (hY.sl.old hs Own.nil).get hy1)) ?_
                      refine HL_val rfl (fun w hs => R_len Try.underlying36 rfl) ?_
                      first | refine HL_val rfl (fun w hs => R_neq rfl rfl (dtrue (by omega))) ?_ | refine HL_val rfl (fun w hs => R_neq rfl rfl (dfalse (by omega))) ?_ | refine HL_val rfl (fun w hs => R_neq rfl rfl rfl) ?_
                      refine HL_val rfl (fun w hs => R_move rfl) ?_
                      first | (refine HL_want rfl rfl ?_; refine HL_val rfl (fun w hs => R_move rfl) ?_) | refine HL_skip rfl rfl rfl rfl ?_ | refine HL_skipU rfl rfl rfl ?_
                      first | (refine HL_want rfl rfl ?_; refine HL_val rfl (fun w hs => R_move rfl) ?_) | refine HL_skip rfl rfl rfl rfl ?_ | refine HL_skipU rfl rfl rfl ?_
                      first | (refine HL_want rfl rfl ?_; refine HL_val rfl (fun w hs => R_idx1 Try.underlying29 Try.ti36 rfl rfl (by with_reducible first | exact natc_k _ | exact natc_a1 _ | exact natc_0 | exact natc_1 | exact natc_2 | exact natc_s1 _ (by omega) | exact natc_a2 _ | exact natc_add _ _ | exact natc_mul _ _ | exact natc (by omega)) (by omega) (by first | exact ox | exact ot | exact oy)) ?_) | refine HL_skip rfl rfl rfl rfl ?_ | refine HL_skipU rfl rfl rfl ?_
                      first | (refine HL_want rfl rfl ?_; refine HL_val rfl (fun w hs => R_load Try.one36 rfl (by first | exact (hX.sl.old hs Own.nil).get hx1 | exact (hT.sl.old hs Own.nil).get ht1 | exact (hY.sl.old hs Own.nil).get hy1)) ?_) | refine HL_skip rfl rfl rfl rfl ?_ | refine HL_skipU rfl rfl rfl ?_
                      first | (refine HL_want rfl rfl ?_; refine HL_val rfl (fun w hs => R_len Try.underlying36 rfl) ?_) | refine HL_skip rfl rfl rfl rfl ?_ | refine HL_skipU rfl rfl rfl ?_
                      first | (refine HL_want rfl rfl ?_; refine HL_val rfl (fun w hs => R_move rfl) ?_) | refine HL_skip rfl rfl rfl rfl ?_ | refine HL_skipU rfl rfl rfl ?_
                      first | (refine HL_want rfl rfl ?_; refine HL_val rfl (fun w hs => R_move rfl) ?_) | refine HL_skip rfl rfl rfl rfl ?_ | refine HL_skipU rfl rfl rfl ?_
                      first | (refine HL_want rfl rfl ?_; refine HL_val rfl (fun w hs => R_idx1 Try.underlying29 Try.ti36 rfl rfl (by with_reducible first | exact natc_k _ | exact natc_a1 _ | exact natc_0 | exact natc_1 | exact natc_2 | exact natc_s1 _ (by omega) | exact natc_a2 _ | exact natc_add _ _ | exact natc_mul _ _ | exact natc (by omega)) (by omega) (by first | exact ox | exact ot | exact oy)) ?_) | refine HL_skip rfl rfl rfl rfl ?_ | refine HL_skipU rfl rfl rfl ?_
                      first | (refine HL_want rfl rfl ?_; refine HL_val rfl (fun w hs => R_load Try.one36 rfl (by first | exact (hX.sl.old hs Own.nil).get hx1 | exact (hT.sl.old hs Own.nil).get ht1 | exact (hY.sl.old hs Own.nil).get hy1)) ?_) | refine HL_skip rfl rfl rfl rfl ?_ | refine HL_skipU rfl rfl rfl ?_
                      first | (refine HL_want rfl rfl ?_; refine HL_val rfl (fun w hs => R_len Try.underlying36 rfl) ?_) | refine HL_skip rfl rfl rfl rfl ?_ | refine HL_skipU rfl rfl rfl ?_
                      first | (refine HL_want rfl rfl ?_; (first | refine HL_val rfl (fun w hs => R_neq rfl rfl (dtrue (by omega))) ?_ | refine HL_val rfl (fun w hs => R_neq rfl rfl (dfalse (by omega))) ?_ | refine HL_val rfl (fun w hs => R_neq rfl rfl rfl) ?_)) | refine HL_skip rfl rfl rfl rfl ?_ | refine HL_skipU rfl rfl rfl ?_
                      first | refine HL_val rfl (fun w hs => R_pick_t rfl rfl) ?_ | refine HL_val rfl (fun w hs => R_pick_f rfl rfl) ?_
                      refine HL_tail ?_
                      intro w hs
                      refine RL_then ?_
                      refine W_if_false rfl ?_
                      refine W_skip' ?_
                      refine Nx_then ?_
                      refine W_seq ?_
                      refine W_region ?_
                      refine L_assign rfl rfl ?_
                      refine RL_then ?_
                      refine W_block ?_
                      refine W_loop2 (fun (q : Nat) (w : World) => [(1, .int .i64 m), (7, .slice ta k tc), (8, .slice (some ⟨bw, 0, none⟩) (m + 1) (m + 1)), (9, .slice xb (k - m) xcap), (15, .slice yb (k - m) ycap), (17, .int .i64 p), (18, .int .i64 q)]) (fun (q : Nat) (w : World) => w) (fun (q : Nat) (w : World) => (q ≤ n) ∧ (HS w5 w [])) (fun (q : Nat) (w : World) => n - q) (0) (w) (is := [1, 7, 8, 9, 15, 17, 18]) rfl rfl ?_ ?_
                      · exact ⟨Nat.zero_le _, hs⟩
                      · clear hs
                        intro q w hI
                        show W _ _ _ _ [(1, .int .i64 m), (7, .slice ta k tc), (8, .slice (some ⟨bw, 0, none⟩) (m + 1) (m + 1)), (9, .slice xb (k - m) xcap), (15, .slice yb (k - m) ycap), (17, .int .i64 p), (18, .int .i64 q)] w
                        obtain ⟨hq, hs⟩ := hI
                        by_cases hlt4 : q < n
                        · refine W_seq ?_
                          refine W_seq ?_
                          refine W_region ?_
                          refine L_move rfl rfl ?_
                          refine L_move rfl rfl ?_
                          refine L_move rfl rfl ?_
                          refine L_idx1 rfl Try.underlying29 Try.ti36 rfl rfl (by with_reducible first | exact natc_k _ | exact natc_a1 _ | exact natc_0 | exact natc_1 | exact natc_2 | exact natc_s1 _ (by omega) | exact natc_a2 _ | exact natc_add _ _ | exact natc_mul _ _ | exact natc (by omega)) (by omega) (by first | exact ox | exact ot | exact oy) ?_
                          refine L_load rfl Try.one36 rfl (by first | exact (hX.sl.old hs Own.nil).get hx1 | exact (hT.sl.old hs Own.nil).get ht1 | exact (hY.sl.old hs Own.nil).get hy1) ?_
                          refine L_len rfl Try.underlying36 rfl ?_
                          first | refine L_lss rfl rfl rfl (dtrue (by omega)) ?_ | refine L_lss rfl rfl rfl (dfalse (by omega)) ?_ | refine L_lss rfl rfl rfl rfl ?_
                          refine RL_then ?_
                          refine W_if_true rfl ?_
                          refine W_skip' ?_
                          refine Nx_then ?_
                          refine W_seq ?_
                          refine W_block ?_
                          refine W_seq ?_
                          refine W_region ?_
                          refine L_assign rfl rfl ?_
                          refine RL_then ?_
                          refine W_seq ?_
                          refine W_seq ?_
                          refine W_region ?_
                          refine L_assign rfl rfl ?_
                          refine RL_then ?_
                          refine W_block ?_
                          refine W_loop4 (fun (j : Nat) (sa : Nat) (sb : Nat) (w : World) => [(1, .int .i64 m), (7, .slice ta k tc), (8, .slice (some ⟨bw, 0, none⟩) (m + 1) (m + 1)), (9, .slice xb (k - m) xcap), (15, .slice yb (k - m) ycap), (17, .int .i64 p), (18, .int .i64 q), (19, .complex .f64 sa sb), (20, .int .i64 j)]) (fun (j : Nat) (sa : Nat) (sb : Nat) (w : World) => w) (fun (j : Nat) (sa : Nat) (sb : Nat) (w : World) => (j ≤ m + 1) ∧ (Rep sa (sumZ (wOut m m) (fun l => (fOf rows (p + l) q).1) j)) ∧ (Rep sb (sumZ (wOut m m) (fun l => (fOf rows (p + l) q).2) j)) ∧ (HS w5 w [])) (fun (j : Nat) (sa : Nat) (sb : Nat) (w : World) => m + 1 - j) (0) (0) (0) (w) (is := [1, 7, 8, 9, 15, 17, 18, 19, 20]) rfl rfl ?_ ?_
                          · exact ⟨Nat.zero_le _, .inl ⟨rfl, .inl rfl⟩, .inl ⟨rfl, .inl rfl⟩, hs⟩
                          · clear hs
                            intro j sa sb w hI
                            show W _ _ _ _ [(1, .int .i64 m), (7, .slice ta k tc), (8, .slice (some ⟨bw, 0, none⟩) (m + 1) (m + 1)), (9, .slice xb (k - m) xcap), (15, .slice yb (k - m) ycap), (17, .int .i64 p), (18, .int .i64 q), (19, .complex .f64 sa sb), (20, .int .i64 j)] w
                            obtain ⟨hj, hsa, hsb, hs⟩ := hI
                            by_cases hlt5 : j < m + 1
                            · obtain ⟨aj, cj, hj1, hj2⟩ := hT.row (p + j) (by omega)
                              rw [hTn (p + j) (by omega)] at hj1
                              have ow := hslW.ao (by simp [wOut_len])
                              have oj := hj2.ao (by rw [cl_length, hTn (p + j) (by omega)]; omega)
                              have hTq := hrepT.rep (p + j) q (by omega) hlt4
                              have hwl : j < (wOut m m).length := by rw [wOut_len]; omega
                              have hql : q < (TR.getD (p + j) []).length := by rw [hTn (p + j) (by omega)]; exact hlt4
                              refine W_seq ?_
                              refine W_seq ?_
                              refine W_region ?_
                              refine L_move rfl rfl ?_
                              refine L_move rfl rfl ?_
                              first | refine L_leq rfl rfl rfl (dtrue (by omega)) ?_ | refine L_leq rfl rfl rfl (dfalse (by omega)) ?_ | refine L_leq rfl rfl rfl rfl ?_
                              refine RL_then ?_
                              refine W_if_true rfl ?_
                              refine W_skip' ?_
                              refine Nx_then ?_
                              refine W_seq ?_
                              refine W_block ?_
                              refine W_pht [0, 1, 2, 3, 6, 7, 8, 9, 10, 12, 17, 18, 19, 22, 23, 24, 25, 26, 28] [4, 5, 11, 13, 14, 15, 16, 20, 21, 27, 29, 30, 31, 32, 33, 34, 35] [] (fun _ _ _ => False) Try.mixed (by kernel_rfl) (fun _ _ _ _ _ h => h) hs ?_
                              refine PL_val rfl (fun w => R_move rfl) ?_
                              refine PL_val rfl (fun w => R_move rfl) ?_
                              refine PL_val rfl (fun w => R_move rfl) ?_
                              refine PL_val rfl (fun w => R_idx1 Try.underlying22 Try.ti2 rfl rfl (by with_reducible first | exact natc_k _ | exact natc_a1 _ | exact natc_0 | exact natc_1 | exact natc_2 | exact natc_s1 _ (by omega) | exact natc_a2 _ | exact natc_add _ _ | exact natc_mul _ _ | exact natc (by omega)) (by omega) (by first | rfl | exact ot | exact oj)) ?_
                              refine PL_val rfl (fun w => R_move rfl) ?_
                              refine PL_val rfl (fun w => R_move rfl) ?_
                              refine PL_val rfl (fun w => R_move rfl) ?_
                              first | refine PL_val rfl (fun w => R_add rfl rfl (wrp_i64 (by omega))) ?_ | refine PL_val rfl (fun w => R_add rfl rfl rfl) ?_
                              refine PL_val rfl (fun w => R_idx1 Try.underlying29 Try.ti36 rfl rfl (by with_reducible first | exact natc_k _ | exact natc_a1 _ | exact natc_0 | exact natc_1 | exact natc_2 | exact natc_s1 _ (by omega) | exact natc_a2 _ | exact natc_add _ _ | exact natc_mul _ _ | exact natc (by omega)) (by omega) (by first | rfl | exact ot | exact oj)) ?_
                              refine PL_val rfl (fun w => R_move rfl) ?_
                              refine PL_val rfl (fun w => R_move rfl) ?_
                              refine PL_val rfl (fun w => R_move rfl) ?_
                              refine PL_val rfl (fun w => R_idx1 Try.underlying22 Try.ti2 rfl rfl (by with_reducible first | exact natc_k _ | exact natc_a1 _ | exact natc_0 | exact natc_1 | exact natc_2 | exact natc_s1 _ (by omega) | exact natc_a2 _ | exact natc_add _ _ | exact natc_mul _ _ | exact natc (by omega)) (by omega) (by first | rfl | exact ot | exact oj)) ?_
                              refine PL_val rfl (fun w => R_move rfl) ?_
                              refine PL_val rfl (fun w => R_move rfl) ?_
                              refine PL_val rfl (fun w => R_move rfl) ?_
                              first | refine PL_val rfl (fun w => R_add rfl rfl (wrp_i64 (by omega))) ?_ | refine PL_val rfl (fun w => R_add rfl rfl rfl) ?_
                              refine PL_val rfl (fun w => R_idx1 Try.underlying29 Try.ti36 rfl rfl (by with_reducible first | exact natc_k _ | exact natc_a1 _ | exact natc_0 | exact natc_1 | exact natc_2 | exact natc_s1 _ (by omega) | exact natc_a2 _ | exact natc_add _ _ | exact natc_mul _ _ | exact natc (by omega)) (by omega) (by first | rfl | exact ot | exact oj)) ?_
                              refine PL_val rfl (fun w => R_move rfl) ?_
                              refine PL_end ?_
                              refine HL_val rfl (fun w hs => R_load Try.one2 rfl (by first | exact (hslW.old hs Own.nil).get (il_get hwl) | exact (hT.sl.old hs Own.nil).get hj1 | exact (hj2.old hs Own.nil).get (cl_get hql))) ?_
                              refine HL_val rfl (fun w hs => R_itof Try.underlying2 Try.underlying35 rfl) ?_
                              refine HL_val rfl (fun w hs => R_load Try.one36 rfl (by first | exact (hslW.old hs Own.nil).get (il_get hwl) | exact (hT.sl.old hs Own.nil).get hj1 | exact (hj2.old hs Own.nil).get (cl_get hql))) ?_
                              refine HL_val rfl (fun w hs => R_idx1 Try.underlying36 Try.ti34 rfl rfl (by with_reducible first | exact natc_k _ | exact natc_a1 _ | exact natc_0 | exact natc_1 | exact natc_2 | exact natc_s1 _ (by omega) | exact natc_a2 _ | exact natc_add _ _ | exact natc_mul _ _ | exact natc (by omega)) (by omega) (by first | rfl | exact ot | exact oj)) ?_
                              refine HL_val rfl (fun w hs => R_load Try.one34 rfl (by first | exact (hslW.old hs Own.nil).get (il_get hwl) | exact (hT.sl.old hs Own.nil).get hj1 | exact (hj2.old hs Own.nil).get (cl_get hql))) ?_
                              refine HL_val rfl (fun w hs => R_real rfl) ?_
                              refine HL_farith rfl (op := .mul) rfl rfl rfl ?_
                              intro r195 hr195
                              refine HL_val rfl (fun w hs => R_load Try.one2 rfl (by first | exact (hslW.old hs Own.nil).get (il_get hwl) | exact (hT.sl.old hs Own.nil).get hj1 | exact (hj2.old hs Own.nil).get (cl_get hql))) ?_
                              refine HL_val rfl (fun w hs => R_itof Try.underlying2 Try.underlying35 rfl) ?_
                              refine HL_val rfl (fun w hs => R_load Try.one36 rfl (by first | exact (hslW.old hs Own.nil).get (il_get hwl) | exact (hT.sl.old hs Own.nil).get hj1 | exact (hj2.old hs Own.nil).get (cl_get hql))) ?_
                              refine HL_val rfl (fun w hs => R_idx1 Try.underlying36 Try.ti34 rfl rfl (by with_reducible first | exact natc_k _ | exact natc_a1 _ | exact natc_0 | exact natc_1 | exact natc_2 | exact natc_s1 _ (by omega) | exact natc_a2 _ | exact natc_add _ _ | exact natc_mul _ _ | exact natc (by omega)) (by omega) (by first | rfl | exact ot | exact oj)) ?_
                              refine HL_val rfl (fun w hs => R_load Try.one34 rfl (by first | exact (hslW.old hs Own.nil).get (il_get hwl) | exact (hT.sl.old hs Own.nil).get hj1 | exact (hj2.old hs Own.nil).get (cl_get hql))) ?_
                              refine HL_val rfl (fun w hs => R_imag rfl) ?_
                              refine HL_farith rfl (op := .mul) rfl rfl rfl ?_
                              intro r211 hr211
                              refine HL_val rfl (fun w hs => R_complex rfl rfl) ?_
                              refine HL_csum rfl (op := .add) (by simp) rfl rfl ?_
                              intro r213 s213 hr213 hi213
                              refine HL_val rfl (fun w hs => R_assign rfl) ?_
                              refine HL_tail ?_
                              intro w hs
                              refine RL_nil' ?_
                              refine Nx_block ?_
                              refine Nx_then ?_
                              refine W_region ?_
                              refine L_move rfl rfl ?_
                              first | refine L_add rfl rfl rfl (wrp_i64 (by omega)) ?_ | refine L_add rfl rfl rfl rfl ?_
                              refine L_assign rfl rfl ?_
                              refine RL_nil' ?_
                              have hw70 := weights_small m (by omega) j (by omega)
                              have hbd : ∀ z : Int, z.natAbs ≤ 549755813888 → ((wOut m m).getD j 0 * z).natAbs ≤ 70 * 549755813888 := fun z hz => by rw [Int.natAbs_mul]; exact Nat.mul_le_mul hw70 hz
                              have hrw : Rep (FloatKind.f64.nearest ((wOut m m).getD j 0)) ((wOut m m).getD j 0) := rep_nearest _ (by omega)
                              have b1 := hbd _ hTq.1.2
                              have b2 := hbd _ hTq.2.2
                              have p1 := rep_mul_fs hr195 hrw hTq.1.1 (by omega)
                              have p2 := rep_mul_fs hr211 hrw hTq.2.1 (by omega)
                              have s1 := sumZ_le (w := wOut m m) (g := fun l => (fOf rows (p + l) q).1) (m := m + 1) (B := 549755813888) (fun l hl => weights_small m (by omega) l (by omega)) (fun l hl => tz_lt _) j (by omega)
                              have s2 := sumZ_le (w := wOut m m) (g := fun l => (fOf rows (p + l) q).2) (m := m + 1) (B := 549755813888) (fun l hl => weights_small m (by omega) l (by omega)) (fun l hl => tz_lt _) j (by omega)
                              have t1 := rep_add_fs hr213 hsa p1 (by have := Int.natAbs_add_le (sumZ (wOut m m) (fun l => (fOf rows (p + l) q).1) j) ((wOut m m).getD j 0 * (fOf rows (p + j) q).1); omega)
                              have t2 := rep_add_fs hi213 hsb p2 (by have := Int.natAbs_add_le (sumZ (wOut m m) (fun l => (fOf rows (p + l) q).2) j) ((wOut m m).getD j 0 * (fOf rows (p + j) q).2); omega)
                              refine Nx_loopP (j + 1, r213, s213, w) (is := [1, 7, 8, 9, 15, 17, 18, 19, 20]) (I' := (fun (j : Nat) (sa : Nat) (sb : Nat) (w : World) => (j ≤ m + 1) ∧ (Rep sa (sumZ (wOut m m) (fun l => (fOf rows (p + l) q).1) j)) ∧ (Rep sb (sumZ (wOut m m) (fun l => (fOf rows (p + l) q).2) j)) ∧ (HS w5 w [])) (j + 1) (r213) (s213) (w)) rfl rfl rfl ?_ ?_
                              · exact ⟨by omega, t1, t2, hs⟩
                              · omega
                            · obtain rfl : m + 1 = j := by omega
                              have hXq := hrepX.rep p q hlt3 hlt4
                              have hYq := hrepY.rep p q hlt3 hlt4
                              have eX1 : Rep ((XR.getD p []).getD q (0, 0)).1 (sumZ (wOut m m) (fun l => (fOf rows (p + l) q).1) (m + 1)) := by
                                rw [sum_is (fun i => (fOf rows i q).1) p m (by omega), ← dz_fst]; exact hXq.1.1
                              have eX2 : Rep ((XR.getD p []).getD q (0, 0)).2 (sumZ (wOut m m) (fun l => (fOf rows (p + l) q).2) (m + 1)) := by
                                rw [sum_is (fun i => (fOf rows i q).2) p m (by omega), ← dz_snd]; exact hXq.2.1
                              have hqx : q < (XR.getD p []).length := by rw [hXn p (by omega)]; exact hlt4
                              have hqy : q < (YR.getD p []).length := by rw [hYn p (by omega)]; exact hlt4
                              have oxp := hx2.ao (by rw [cl_length]; omega)
                              have oyp := hy2.ao (by rw [cl_length]; omega)
                              skip
                              refine W_seq ?_
                              refine W_seq ?_
                              refine W_region ?_
                              refine L_move rfl rfl ?_
                              refine L_move rfl rfl ?_
                              first | refine L_leq rfl rfl rfl (dtrue (by omega)) ?_ | refine L_leq rfl rfl rfl (dfalse (by omega)) ?_ | refine L_leq rfl rfl rfl rfl ?_
                              refine RL_then ?_
                              refine W_if_false rfl ?_
                              refine W_exit' ?_
                              refine Ex_then_exit ?_
                              refine Ex_loop_exit ?_
                              refine Ex_block_hit ?_
                              refine Nx_then ?_
                              refine W_seq ?_
                              refine W_pht [0, 1, 2, 4, 7] [3, 5, 6, 8, 9, 10, 11, 12, 13, 14, 15, 16, 17, 18, 19, 20, 21, 22, 23, 24, 25, 26, 27, 28, 29] [] (fun _ _ _ => False) Try.mixed (by kernel_rfl) (fun _ _ _ _ _ h => h) hs ?_
                              refine PL_val rfl (fun w => R_move rfl) ?_
                              refine PL_val rfl (fun w => R_move rfl) ?_
                              refine PL_val rfl (fun w => R_idx1 Try.underlying29 Try.ti36 rfl rfl (by with_reducible first | exact natc_k _ | exact natc_a1 _ | exact natc_0 | exact natc_1 | exact natc_2 | exact natc_s1 _ (by omega) | exact natc_a2 _ | exact natc_add _ _ | exact natc_mul _ _ | exact natc (by omega)) (by omega) (by first | exact ox | exact oy | exact oxp | exact oyp)) ?_
                              refine PL_val rfl (fun w => R_move rfl) ?_
                              refine PL_val rfl (fun w => R_move rfl) ?_
                              refine PL_end ?_
                              refine HL_val rfl (fun w hs => R_load Try.one36 rfl (by first | exact (hX.sl.old hs Own.nil).get hx1 | exact (hY.sl.old hs Own.nil).get hy1 | exact (hx2.old hs Own.nil).get (cl_get hqx) | exact (hy2.old hs Own.nil).get (cl_get hqy))) ?_
                              refine HL_val rfl (fun w hs => R_idx1 Try.underlying36 Try.ti34 rfl rfl (by with_reducible first | exact natc_k _ | exact natc_a1 _ | exact natc_0 | exact natc_1 | exact natc_2 | exact natc_s1 _ (by omega) | exact natc_a2 _ | exact natc_add _ _ | exact natc_mul _ _ | exact natc (by omega)) (by omega) (by first | exact ox | exact oy | exact oxp | exact oyp)) ?_
                              refine HL_val rfl (fun w hs => R_load Try.one34 rfl (by first | exact (hX.sl.old hs Own.nil).get hx1 | exact (hY.sl.old hs Own.nil).get hy1 | exact (hx2.old hs Own.nil).get (cl_get hqx) | exact (hy2.old hs Own.nil).get (cl_get hqy))) ?_
                              refine HL_val rfl (fun w hs => R_cneq rfl rfl) ?_
                              refine HL_val rfl (fun w hs => R_move rfl) ?_
                              rw [rep_eq eX1 hsa, rep_eq eX2 hsb]
                              by_cases hm0 : m = 0
                              · first | (refine HL_want rfl rfl ?_; refine HL_val rfl (fun w hs => R_move rfl) ?_) | refine HL_skip rfl rfl rfl rfl ?_ | refine HL_skipU rfl rfl rfl ?_
                                first | (refine HL_want rfl rfl ?_; (first | refine HL_val rfl (fun w hs => R_gtr rfl rfl (dtrue (by omega))) ?_ | refine HL_val rfl (fun w hs => R_gtr rfl rfl (dfalse (by omega))) ?_ | refine HL_val rfl (fun w hs => R_gtr rfl rfl rfl) ?_)) | refine HL_skip rfl rfl rfl rfl ?_ | refine HL_skipU rfl rfl rfl ?_
                                first | (refine HL_want rfl rfl ?_; refine HL_val rfl (fun w hs => R_move rfl) ?_) | refine HL_skip rfl rfl rfl rfl ?_ | refine HL_skipU rfl rfl rfl ?_
                                first | (refine HL_want rfl rfl ?_; refine HL_val rfl (fun w hs => R_move rfl) ?_) | refine HL_skip rfl rfl rfl rfl ?_ | refine HL_skipU rfl rfl rfl ?_
                                first | (refine HL_want rfl rfl ?_; refine HL_val rfl (fun w hs => R_move rfl) ?_) | refine HL_skip rfl rfl rfl rfl ?_ | refine HL_skipU rfl rfl rfl ?_
                                first | (refine HL_want rfl rfl ?_; refine HL_val rfl (fun w hs => R_idx1 Try.underlying29 Try.ti36 rfl rfl (by with_reducible first | exact natc_k _ | exact natc_a1 _ | exact natc_0 | exact natc_1 | exact natc_2 | exact natc_s1 _ (by omega) | exact natc_a2 _ | exact natc_add _ _ | exact natc_mul _ _ | exact natc (by omega)) (by omega) (by first | exact ox | exact oy | exact oxp | exact oyp)) ?_) | refine HL_skip rfl rfl rfl rfl ?_ | refine HL_skipU rfl rfl rfl ?_
                                first | (refine HL_want rfl rfl ?_; refine HL_val rfl (fun w hs => R_load Try.one36 rfl (by first | exact (hX.sl.old hs Own.nil).get hx1 | exact (hY.sl.old hs Own.nil).get hy1 | exact (hx2.old hs Own.nil).get (cl_get hqx) | exact (hy2.old hs Own.nil).get (cl_get hqy))) ?_) | refine HL_skip rfl rfl rfl rfl ?_ | refine HL_skipU rfl rfl rfl ?_
                                first | (refine HL_want rfl rfl ?_; refine HL_val rfl (fun w hs => R_move rfl) ?_) | refine HL_skip rfl rfl rfl rfl ?_ | refine HL_skipU rfl rfl rfl ?_
                                first | (refine HL_want rfl rfl ?_; refine HL_val rfl (fun w hs => R_idx1 Try.underlying36 Try.ti34 rfl rfl (by with_reducible first | exact natc_k _ | exact natc_a1 _ | exact natc_0 | exact natc_1 | exact natc_2 | exact natc_s1 _ (by omega) | exact natc_a2 _ | exact natc_add _ _ | exact natc_mul _ _ | exact natc (by omega)) (by omega) (by first | exact ox | exact oy | exact oxp | exact oyp)) ?_) | refine HL_skip rfl rfl rfl rfl ?_ | refine HL_skipU rfl rfl rfl ?_
                                first | (refine HL_want rfl rfl ?_; refine HL_val rfl (fun w hs => R_load Try.one34 rfl (by first | exact (hX.sl.old hs Own.nil).get hx1 | exact (hY.sl.old hs Own.nil).get hy1 | exact (hx2.old hs Own.nil).get (cl_get hqx) | exact (hy2.old hs Own.nil).get (cl_get hqy))) ?_) | refine HL_skip rfl rfl rfl rfl ?_ | refine HL_skipU rfl rfl rfl ?_
                                first | (refine HL_want rfl rfl ?_; refine HL_val rfl (fun w hs => R_move rfl) ?_) | refine HL_skip rfl rfl rfl rfl ?_ | refine HL_skipU rfl rfl rfl ?_
                                first | (refine HL_want rfl rfl ?_; refine HL_val rfl (fun w hs => R_move rfl) ?_) | refine HL_skip rfl rfl rfl rfl ?_ | refine HL_skipU rfl rfl rfl ?_
                                first | (refine HL_want rfl rfl ?_; refine HL_val rfl (fun w hs => R_idx1 Try.underlying29 Try.ti36 rfl rfl (by with_reducible first | exact natc_k _ | exact natc_a1 _ | exact natc_0 | exact natc_1 | exact natc_2 | exact natc_s1 _ (by omega) | exact natc_a2 _ | exact natc_add _ _ | exact natc_mul _ _ | exact natc (by omega)) (by omega) (by first | exact ox | exact oy | exact oxp | exact oyp)) ?_) | refine HL_skip rfl rfl rfl rfl ?_ | refine HL_skipU rfl rfl rfl ?_
                                first | (refine HL_want rfl rfl ?_; refine HL_val rfl (fun w hs => R_load Try.one36 rfl (by first | exact (hX.sl.old hs Own.nil).get hx1 | exact (hY.sl.old hs Own.nil).get hy1 | exact (hx2.old hs Own.nil).get (cl_get hqx) | exact (hy2.old hs Own.nil).get (cl_get hqy))) ?_) | refine HL_skip rfl rfl rfl rfl ?_ | refine HL_skipU rfl rfl rfl ?_
                                first | (refine HL_want rfl rfl ?_; refine HL_val rfl (fun w hs => R_move rfl) ?_) | refine HL_skip rfl rfl rfl rfl ?_ | refine HL_skipU rfl rfl rfl ?_
                                first | (refine HL_want rfl rfl ?_; refine HL_val rfl (fun w hs => R_idx1 Try.underlying36 Try.ti34 rfl rfl (by with_reducible first | exact natc_k _ | exact natc_a1 _ | exact natc_0 | exact natc_1 | exact natc_2 | exact natc_s1 _ (by omega) | exact natc_a2 _ | exact natc_add _ _ | exact natc_mul _ _ | exact natc (by omega)) (by omega) (by first | exact ox | exact oy | exact oxp | exact oyp)) ?_) | refine HL_skip rfl rfl rfl rfl ?_ | refine HL_skipU rfl rfl rfl ?_
                                first | (refine HL_want rfl rfl ?_; refine HL_val rfl (fun w hs => R_load Try.one34 rfl (by first | exact (hX.sl.old hs Own.nil).get hx1 | exact (hY.sl.old hs Own.nil).get hy1 | exact (hx2.old hs Own.nil).get (cl_get hqx) | exact (hy2.old hs Own.nil).get (cl_get hqy))) ?_) | refine HL_skip rfl rfl rfl rfl ?_ | refine HL_skipU rfl rfl rfl ?_
                                first | (refine HL_want rfl rfl ?_; refine HL_val rfl (fun w hs => R_cneq rfl rfl) ?_) | refine HL_skip rfl rfl rfl rfl ?_ | refine HL_skipU rfl rfl rfl ?_
                                first | (refine HL_want rfl rfl ?_; (first | refine HL_val rfl (fun w hs => R_pick_t rfl rfl) ?_ | refine HL_val rfl (fun w hs => R_pick_f rfl rfl) ?_)) | refine HL_skip rfl rfl rfl rfl ?_ | refine HL_skipU rfl rfl rfl ?_
                                first | refine HL_val rfl (fun w hs => R_pick_t rfl rfl) ?_ | refine HL_val rfl (fun w hs => R_pick_f rfl rfl) ?_
                                refine HL_tail ?_
                                intro w hs
                                refine RL_then ?_
                                refine W_if_false rfl ?_
                                refine W_skip' ?_
                                refine Nx_block ?_
                                refine Nx_then ?_
                                refine W_region ?_
                                refine L_move rfl rfl ?_
                                first | refine L_add rfl rfl rfl (wrp_i64 (by omega)) ?_ | refine L_add rfl rfl rfl rfl ?_
                                refine L_assign rfl rfl ?_
                                refine RL_nil' ?_
                                refine Nx_loopP (q + 1, w) (is := [1, 7, 8, 9, 15, 17, 18]) (I' := (fun (q : Nat) (w : World) => (q ≤ n) ∧ (HS w5 w [])) (q + 1) (w)) rfl rfl rfl ?_ ?_
                                · exact ⟨by omega, hs⟩
                                · omega
                              · obtain ⟨o, ho⟩ : ∃ o, m = o + 1 := ⟨m - 1, by omega⟩
                                have eY1 : Rep ((YR.getD p []).getD q (0, 0)).1 (dz (fOf rows) m p q).1 := by
                                  have h5 := hYq.1.1
                                  rw [dz_fst] at h5 ⊢
                                  rw [ho] at h5 ⊢
                                  rw [← dz1_shift (fun i => (fOf rows i q).1) (tz x) o p]
                                  exact h5
                                have eY2 : Rep ((YR.getD p []).getD q (0, 0)).2 (dz (fOf rows) m p q).2 := by
                                  have h5 := hYq.2.1
                                  rw [dz_snd] at h5 ⊢
                                  rw [ho] at h5 ⊢
                                  rw [← dz1_shift (fun i => (fOf rows i q).2) (tz y) o p]
                                  exact h5
                                first | (refine HL_want rfl rfl ?_; refine HL_val rfl (fun w hs => R_move rfl) ?_) | refine HL_skip rfl rfl rfl rfl ?_ | refine HL_skipU rfl rfl rfl ?_
                                first | (refine HL_want rfl rfl ?_; (first | refine HL_val rfl (fun w hs => R_gtr rfl rfl (dtrue (by omega))) ?_ | refine HL_val rfl (fun w hs => R_gtr rfl rfl (dfalse (by omega))) ?_ | refine HL_val rfl (fun w hs => R_gtr rfl rfl rfl) ?_)) | refine HL_skip rfl rfl rfl rfl ?_ | refine HL_skipU rfl rfl rfl ?_
                                first | (refine HL_want rfl rfl ?_; refine HL_val rfl (fun w hs => R_move rfl) ?_) | refine HL_skip rfl rfl rfl rfl ?_ | refine HL_skipU rfl rfl rfl ?_
                                first | (refine HL_want rfl rfl ?_; refine HL_val rfl (fun w hs => R_move rfl) ?_) | refine HL_skip rfl rfl rfl rfl ?_ | refine HL_skipU rfl rfl rfl ?_
                                first | (refine HL_want rfl rfl ?_; refine HL_val rfl (fun w hs => R_move rfl) ?_) | refine HL_skip rfl rfl rfl rfl ?_ | refine HL_skipU rfl rfl rfl ?_
                                first | (refine HL_want rfl rfl ?_; refine HL_val rfl (fun w hs => R_idx1 Try.underlying29 Try.ti36 rfl rfl (by with_reducible first | exact natc_k _ | exact natc_a1 _ | exact natc_0 | exact natc_1 | exact natc_2 | exact natc_s1 _ (by omega) | exact natc_a2 _ | exact natc_add _ _ | exact natc_mul _ _ | exact natc (by omega)) (by omega) (by first | exact ox | exact oy | exact oxp | exact oyp)) ?_) | refine HL_skip rfl rfl rfl rfl ?_ | refine HL_skipU rfl rfl rfl ?_
                                first | (refine HL_want rfl rfl ?_; refine HL_val rfl (fun w hs => R_load Try.one36 rfl (by first | exact (hX.sl.old hs Own.nil).get hx1 | exact (hY.sl.old hs Own.nil).get hy1 | exact (hx2.old hs Own.nil).get (cl_get hqx) | exact (hy2.old hs Own.nil).get (cl_get hqy))) ?_) | refine HL_skip rfl rfl rfl rfl ?_ | refine HL_skipU rfl rfl rfl ?_
                                first | (refine HL_want rfl rfl ?_; refine HL_val rfl (fun w hs => R_move rfl) ?_) | refine HL_skip rfl rfl rfl rfl ?_ | refine HL_skipU rfl rfl rfl ?_
                                first | (refine HL_want rfl rfl ?_; refine HL_val rfl (fun w hs => R_idx1 Try.underlying36 Try.ti34 rfl rfl (by with_reducible first | exact natc_k _ | exact natc_a1 _ | exact natc_0 | exact natc_1 | exact natc_2 | exact natc_s1 _ (by omega) | exact natc_a2 _ | exact natc_add _ _ | exact natc_mul _ _ | exact natc (by omega)) (by omega) (by first | exact ox | exact oy | exact oxp | exact oyp)) ?_) | refine HL_skip rfl rfl rfl rfl ?_ | refine HL_skipU rfl rfl rfl ?_
                                first | (refine HL_want rfl rfl ?_; refine HL_val rfl (fun w hs => R_load Try.one34 rfl (by first | exact (hX.sl.old hs Own.nil).get hx1 | exact (hY.sl.old hs Own.nil).get hy1 | exact (hx2.old hs Own.nil).get (cl_get hqx) | exact (hy2.old hs Own.nil).get (cl_get hqy))) ?_) | refine HL_skip rfl rfl rfl rfl ?_ | refine HL_skipU rfl rfl rfl ?_
                                first | (refine HL_want rfl rfl ?_; refine HL_val rfl (fun w hs => R_move rfl) ?_) | refine HL_skip rfl rfl rfl rfl ?_ | refine HL_skipU rfl rfl rfl ?_
                                first | (refine HL_want rfl rfl ?_; refine HL_val rfl (fun w hs => R_move rfl) ?_) | refine HL_skip rfl rfl rfl rfl ?_ | refine HL_skipU rfl rfl rfl ?_
                                first | (refine HL_want rfl rfl ?_; refine HL_val rfl (fun w hs => R_idx1 Try.underlying29 Try.ti36 rfl rfl (by with_reducible first | exact natc_k _ | exact natc_a1 _ | exact natc_0 | exact natc_1 | exact natc_2 | exact natc_s1 _ (by omega) | exact natc_a2 _ | exact natc_add _ _ | exact natc_mul _ _ | exact natc (by omega)) (by omega) (by first | exact ox | exact oy | exact oxp | exact oyp)) ?_) | refine HL_skip rfl rfl rfl rfl ?_ | refine HL_skipU rfl rfl rfl ?_
                                first | (refine HL_want rfl rfl ?_; refine HL_val rfl (fun w hs => R_load Try.one36 rfl (by first | exact (hX.sl.old hs Own.nil).get hx1 | exact (hY.sl.old hs Own.nil).get hy1 | exact (hx2.old hs Own.nil).get (cl_get hqx) | exact (hy2.old hs Own.nil).get (cl_get hqy))) ?_) | refine HL_skip rfl rfl rfl rfl ?_ | refine HL_skipU rfl rfl rfl ?_
                                first | (refine HL_want rfl rfl ?_; refine HL_val rfl (fun w hs => R_move rfl) ?_) | refine HL_skip rfl rfl rfl rfl ?_ | refine HL_skipU rfl rfl rfl ?_
                                first | (refine HL_want rfl rfl ?_; refine HL_val rfl (fun w hs => R_idx1 Try.underlying36 Try.ti34 rfl rfl (by with_reducible first | exact natc_k _ | exact natc_a1 _ | exact natc_0 | exact natc_1 | exact natc_2 | exact natc_s1 _ (by omega) | exact natc_a2 _ | exact natc_add _ _ | exact natc_mul _ _ | exact natc (by omega)) (by omega) (by first | exact ox | exact oy | exact oxp | exact oyp)) ?_) | refine HL_skip rfl rfl rfl rfl ?_ | refine HL_skipU rfl rfl rfl ?_
                                first | (refine HL_want rfl rfl ?_; refine HL_val rfl (fun w hs => R_load Try.one34 rfl (by first | exact (hX.sl.old hs Own.nil).get hx1 | exact (hY.sl.old hs Own.nil).get hy1 | exact (hx2.old hs Own.nil).get (cl_get hqx) | exact (hy2.old hs Own.nil).get (cl_get hqy))) ?_) | refine HL_skip rfl rfl rfl rfl ?_ | refine HL_skipU rfl rfl rfl ?_
                                first | (refine HL_want rfl rfl ?_; refine HL_val rfl (fun w hs => R_cneq rfl rfl) ?_) | refine HL_skip rfl rfl rfl rfl ?_ | refine HL_skipU rfl rfl rfl ?_
                                rw [rep_eq eY1 hXq.1.1, rep_eq eY2 hXq.2.1]
                                first | (refine HL_want rfl rfl ?_; (first | refine HL_val rfl (fun w hs => R_pick_t rfl rfl) ?_ | refine HL_val rfl (fun w hs => R_pick_f rfl rfl) ?_)) | refine HL_skip rfl rfl rfl rfl ?_ | refine HL_skipU rfl rfl rfl ?_
                                first | refine HL_val rfl (fun w hs => R_pick_t rfl rfl) ?_ | refine HL_val rfl (fun w hs => R_pick_f rfl rfl) ?_
                                refine HL_tail ?_
                                intro w hs
                                refine RL_then ?_
                                refine W_if_false rfl ?_
                                refine W_skip' ?_
                                refine Nx_block ?_
                                refine Nx_then ?_
                                refine W_region ?_
                                refine L_move rfl rfl ?_
                                first | refine L_add rfl rfl rfl (wrp_i64 (by omega)) ?_ | refine L_add rfl rfl rfl rfl ?_
                                refine L_assign rfl rfl ?_
                                refine RL_nil' ?_
                                refine Nx_loopP (q + 1, w) (is := [1, 7, 8, 9, 15, 17, 18]) (I' := (fun (q : Nat) (w : World) => (q ≤ n) ∧ (HS w5 w [])) (q + 1) (w)) rfl rfl rfl ?_ ?_
                                · exact ⟨by omega, hs⟩
                                · omega
                        · skip
                          refine W_seq ?_
                          refine W_seq ?_
                          refine W_region ?_
                          refine L_move rfl rfl ?_
                          refine L_move rfl rfl ?_
                          refine L_move rfl rfl ?_
                          refine L_idx1 rfl Try.underlying29 Try.ti36 rfl rfl (by with_reducible first | exact natc_k _ | exact natc_a1 _ | exact natc_0 | exact natc_1 | exact natc_2 | exact natc_s1 _ (by omega) | exact natc_a2 _ | exact natc_add _ _ | exact natc_mul _ _ | exact natc (by omega)) (by omega) (by first | exact ox) ?_
                          refine L_load rfl Try.one36 rfl (by exact (hX.sl.old hs Own.nil).get hx1) ?_
                          refine L_len rfl Try.underlying36 rfl ?_
                          first | refine L_lss rfl rfl rfl (dtrue (by omega)) ?_ | refine L_lss rfl rfl rfl (dfalse (by omega)) ?_ | refine L_lss rfl rfl rfl rfl ?_
                          refine RL_then ?_
                          refine W_if_false rfl ?_
                          refine W_exit' ?_
                          refine Ex_then_exit ?_
                          refine Ex_loop_exit ?_
                          refine Ex_block_hit ?_
                          refine Nx_block ?_
                          refine Nx_then ?_
                          refine W_region ?_
                          refine L_move rfl rfl ?_
                          first | refine L_add rfl rfl rfl (wrp_i64 (by omega)) ?_ | refine L_add rfl rfl rfl rfl ?_
                          refine L_assign rfl rfl ?_
                          refine RL_nil' ?_
                          refine Nx_loopP (p + 1, w) (is := [1, 7, 8, 9, 15, 17]) (I' := (fun (p : Nat) (w : World) => (p ≤ k - m) ∧ (HS w5 w [])) (p + 1) (w)) rfl rfl rfl ?_ ?_
                          · exact ⟨by omega, hs⟩
                          · omega
                    · skip
                      refine W_seq ?_
                      refine W_seq ?_
                      refine W_region ?_
                      refine L_move rfl rfl ?_
                      refine L_move rfl rfl ?_
                      refine L_len rfl Try.underlying29 rfl ?_
                      first | refine L_lss rfl rfl rfl (dtrue (by omega)) ?_ | refine L_lss rfl rfl rfl (dfalse (by omega)) ?_ | refine L_lss rfl rfl rfl rfl ?_
                      refine RL_then ?_
                      refine W_if_false rfl ?_
                      refine W_exit' ?_
                      refine Ex_then_exit ?_
                      refine Ex_loop_exit ?_
                      refine Ex_block_hit ?_
                      refine Nx_then ?_
                      refine W_seq ?_
                      refine W_region ?_
                      refine L_call rfl Try.fun10 rfl (wakes_ok w) ?_
                      rintro _ w' ⟨rfl, hs'⟩
                      replace hs := hf.nil (hs.nil hs')
                      refine L_assign rfl rfl ?_
                      refine RL_then ?_
                      refine W_ret' ?_
                      refine Ex_done1 rfl rfl ?_
                      exact ⟨_, rfl, rfl, hs⟩
end Go.Proofs.Ytfehgelggjpaaaa
