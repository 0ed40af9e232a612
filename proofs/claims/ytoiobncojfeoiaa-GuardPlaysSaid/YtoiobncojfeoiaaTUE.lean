/-
  A part of the proof: what functions that the statement reaches do, or a plain law on what they do. Each theorem holds under its own premises alone.
-/
import Derived.Test.YtoiobncojfeoiaaTUD
namespace Go.Proofs.Ytoiobncojfeoiaa
open Go Go.Lk
/-! ### Corners: copied, looked through -/
theorem clone_ok (a : Option Addr) (k c : Nat) (ps : List Pt) (w0 : World) (hx : SlC w0 a (pcs ps)) (hk : ps.length = k) (hk2 : k ≤ 1000000) :
    Ret Try.prog 37 [.slice a k c] w0 fun v w' => ∃ M, HS w0 w' M ∧ Bl w0 25 2 v k (pcs ps) M := by
  refine Ret.start fun w hs => ?_
  refine calls_of_W Try.func37 rfl rfl rfl ?_
  refine W_seq ?_
  refine W_region ?_
  refine L_assign rfl rfl ?_
  refine RL_then ?_
  refine W_seq ?_
  refine W_seq ?_
  refine W_region ?_
  refine L_move rfl rfl ?_
  refine RL_val rfl (R_sliceNil Try.underlying22 rfl rfl) ?_
  refine RL_then ?_
  cases a with
  | none =>
    have hk0 : k = 0 := by
      apply Classical.byContradiction
      intro h
      have := hx.1 (by rw [pcs_len]; omega)
      cases this
    subst hk0
    obtain rfl : ps = [] := List.eq_nil_of_length_eq_zero hk
    · refine W_if_true rfl ?_
      refine W_seq ?_
      refine W_region ?_
      refine L_assign rfl rfl ?_
      refine RL_then ?_
      refine W_ret' ?_
      refine Ex_then_ret ?_
      refine Ex_done1 rfl rfl ?_
      exact ⟨_, rfl, [], hs, Bl.nil⟩
  | some ad =>
    · refine W_if_false rfl ?_
      refine W_skip' ?_
      refine Nx_then ?_
      refine W_seq ?_
      refine W_region ?_
      refine L_buildSlice rfl hs Try.underlying22 Try.ti25 rfl (by decide) rfl (by simp [Value.cells]) ?_
      intro b5 w hb5 hnb5 hs
      try simp only [List.flatMap_cons, List.flatMap_nil, cells_int, cells_float, cells_complex, cells_bool, cells_string, cells_pointer, cells_slice, cells_map, cells_agg, List.append_nil, List.set_cons_succ, List.set_cons_zero, List.cons_append, List.nil_append] at hs
      refine L_move rfl rfl ?_
      replace hs : HS w0 w ([] ++ [(b5, Row 25 ([] ++ []))]) := hs
      have hb : Bl w0 25 2 (.slice (some ⟨b5, 0, none⟩) 0 0) 0 [] [(b5, Row 25 ([] ++ []))] := Bl.row hb5 rfl rfl (Nat.le_refl _)
      refine L_appendS (L := []) rfl Try.underlying22 Try.ti25 rfl (by decide) hs hb rfl rfl (by rw [pcs_len, hk]) (hx.old hs hb.own) (pcs_one ps) (by omega) (by omega) ?_
      intro v' w M' hs hb'
      rw [Nat.zero_add, List.nil_append] at hb'
      refine L_assign rfl rfl ?_
      refine RL_then ?_
      refine W_ret' ?_
      refine Ex_done1 rfl rfl ?_
      exact ⟨_, rfl, M', hs, hb'⟩
def nfX (x : Nat) : Bool := !eqB (fop .sub x x) 0
def pnf (p : Pt) : Bool := nfX p.1 || nfX p.2
theorem nfX_ok {x r : Nat} (h : Fs .sub x x r) : (FloatKind.f64.format.order r 0 != some .eq) = nfX x := by
  show (!eqB r 0) = _
  unfold nfX
  rw [eqB_congr (Fs.of h rfl rfl) rfl]
theorem pnf_ok (p : Pt) (w0 : World) : Ret Try.prog 36 [.agg #[.float .f64 p.1, .float .f64 p.2]] w0 fun v w' => v = .bool (pnf p) ∧ HS w0 w' [] := by
  refine Ret.start fun w hs => ?_
  refine calls_of_W Try.func36 rfl rfl rfl ?_
  refine W_seq ?_
  refine W_region ?_
  refine L_box rfl hs rfl ?_
  intro b1 w hb1 hnb1 hs
  try dsimp only [List.set_cons_succ, List.set_cons_zero, List.cons_append, List.nil_append] at hs
  refine L_assign rfl rfl ?_
  refine RL_then ?_
  refine W_seq ?_
  refine W_region ?_
  replace hs : HS w0 w [(b1, Row 25 [.float .f64 p.1, .float .f64 p.2])] := hs
  have ho := Own.cons (L := []) hb1 Own.nil (o := Row 25 [.float .f64 p.1, .float .f64 p.2])
  refine L_fieldAddr rfl (off := 0) Try.underlying25 rfl rfl Try.ti23 rfl ?_
  refine L_load rfl Try.one23 rfl (by first | exact hs.cell (i := 0) rfl rfl) ?_
  refine L_fieldAddr rfl (off := 0) Try.underlying25 rfl rfl Try.ti23 rfl ?_
  refine L_load rfl Try.one23 rfl (by first | exact hs.cell (i := 0) rfl rfl) ?_
  refine L_farith rfl (op := .sub) rfl rfl rfl ?_
  intro r7 k7 hr7
  try replace hs := hs.drewN k7
  have e1 := nfX_ok hr7
  cases h1 : nfX p.1
  · skip
    refine L_fcmp rfl rfl rfl (fun _ => by rw [binOp_float_cmp_neq, (e1.trans h1)]; rfl) ?_
    refine L_move rfl rfl ?_
    first | (refine RL_want rfl rfl ?_; refine L_fieldAddr rfl (off := 1) Try.underlying25 rfl rfl Try.ti23 rfl ?_) | refine RL_skip rfl rfl rfl rfl ?_ | refine RL_skipU rfl rfl rfl ?_
    first | (refine RL_want rfl rfl ?_; refine L_load rfl Try.one23 rfl (by first | exact hs.cell (i := 0) rfl rfl) ?_) | refine RL_skip rfl rfl rfl rfl ?_ | refine RL_skipU rfl rfl rfl ?_
    first | (refine RL_want rfl rfl ?_; refine L_fieldAddr rfl (off := 1) Try.underlying25 rfl rfl Try.ti23 rfl ?_) | refine RL_skip rfl rfl rfl rfl ?_ | refine RL_skipU rfl rfl rfl ?_
    first | (refine RL_want rfl rfl ?_; refine L_load rfl Try.one23 rfl (by first | exact hs.cell (i := 0) rfl rfl) ?_) | refine RL_skip rfl rfl rfl rfl ?_ | refine RL_skipU rfl rfl rfl ?_
    first | (refine RL_want rfl rfl ?_; refine L_farith rfl (op := .sub) rfl rfl rfl ?_; intro r14 k14 hr14; try replace hs := hs.drewN k14) | refine RL_skip rfl rfl rfl rfl ?_ | refine RL_skipU rfl rfl rfl ?_
    first | (refine RL_want rfl rfl ?_; refine L_fcmp rfl rfl rfl (fun _ => by rw [binOp_float_cmp_neq]; rfl) ?_) | refine RL_skip rfl rfl rfl rfl ?_ | refine RL_skipU rfl rfl rfl ?_
    first | refine L_pick_t rfl rfl rfl ?_ | refine L_pick_f rfl rfl rfl ?_
    refine L_assign rfl rfl ?_
    refine RL_then ?_
    refine W_ret' ?_
    refine Ex_done1 rfl rfl ?_
    have e2 := nfX_ok hr14
    exact ⟨_, rfl, by show Value.bool (FloatKind.f64.format.order r14 0 != some .eq) = _; rw [e2]; unfold pnf; rw [h1]; rfl, hs.forget ho⟩
  · skip
    refine L_fcmp rfl rfl rfl (fun _ => by rw [binOp_float_cmp_neq, (e1.trans h1)]; rfl) ?_
    refine L_move rfl rfl ?_
    first | (refine RL_want rfl rfl ?_; refine L_fieldAddr rfl (off := 1) Try.underlying25 rfl rfl Try.ti23 rfl ?_) | refine RL_skip rfl rfl rfl rfl ?_ | refine RL_skipU rfl rfl rfl ?_
    first | (refine RL_want rfl rfl ?_; refine L_load rfl Try.one23 rfl (by first | exact hs.cell (i := 0) rfl rfl) ?_) | refine RL_skip rfl rfl rfl rfl ?_ | refine RL_skipU rfl rfl rfl ?_
    first | (refine RL_want rfl rfl ?_; refine L_fieldAddr rfl (off := 1) Try.underlying25 rfl rfl Try.ti23 rfl ?_) | refine RL_skip rfl rfl rfl rfl ?_ | refine RL_skipU rfl rfl rfl ?_
    first | (refine RL_want rfl rfl ?_; refine L_load rfl Try.one23 rfl (by first | exact hs.cell (i := 0) rfl rfl) ?_) | refine RL_skip rfl rfl rfl rfl ?_ | refine RL_skipU rfl rfl rfl ?_
    first | (refine RL_want rfl rfl ?_; refine L_farith rfl (op := .sub) rfl rfl rfl ?_; intro r14 k14 hr14; try replace hs := hs.drewN k14) | refine RL_skip rfl rfl rfl rfl ?_ | refine RL_skipU rfl rfl rfl ?_
    first | (refine RL_want rfl rfl ?_; refine L_fcmp rfl rfl rfl (fun _ => by rw [binOp_float_cmp_neq]; rfl) ?_) | refine RL_skip rfl rfl rfl rfl ?_ | refine RL_skipU rfl rfl rfl ?_
    first | refine L_pick_t rfl rfl rfl ?_ | refine L_pick_f rfl rfl rfl ?_
    refine L_assign rfl rfl ?_
    refine RL_then ?_
    refine W_ret' ?_
    refine Ex_done1 rfl rfl ?_
    exact ⟨_, rfl, by unfold pnf; rw [h1]; rfl, hs.forget ho⟩
/-- the first that is not, or none -/
def Found (p : Nat → Prop) (k : Nat) (j : Int) : Prop := (∃ i, i < k ∧ j = (i : Int) ∧ p i ∧ ∀ q, q < i → ¬ p q) ∨ (j = -1 ∧ ∀ q, q < k → ¬ p q)
theorem pindex_ok (a : Option Addr) (k c : Nat) (ts : List Pt) (w0 : World) (hx : SlC w0 a (pcs ts)) (hk : ts.length = k) (hk2 : k ≤ 1000000) :
    Ret Try.prog 49 [.slice a k c, .func (.func 36) #[] #[]] w0 fun v w' => ∃ j, v = .int .i64 j ∧ HS w0 w' [] ∧ Found (fun i => pnf (ts.getD i (0, 0)) = true) k j := by
  refine Ret.start fun w hs => ?_
  refine calls_of_W Try.func49 rfl rfl rfl ?_
  refine W_seq ?_
  refine W_region ?_
  refine L_assign rfl rfl ?_
  refine RL_then ?_
  refine W_seq ?_
  refine W_seq ?_
  refine W_region ?_
  refine L_move rfl rfl ?_
  refine L_len rfl Try.underlying22 rfl ?_
  refine L_move rfl rfl ?_
  refine RL_then ?_
  refine W_block ?_
  refine W_loop2 (fun (i : Nat) (w : World) => [(0, .slice a k c), (1, .func (.func 36) #[] #[]), (7, .int .i64 k), (8, .int .i64 i)]) (fun (i : Nat) (w : World) => w) (fun (i : Nat) (w : World) => (i ≤ k) ∧ (∀ q, q < i → ¬ pnf (ts.getD q (0, 0)) = true) ∧ (HS w0 w [])) (fun (i : Nat) (w : World) => k - i) (0) (w) (is := [0, 1, 7, 8]) rfl rfl ?_ ?_
  · exact ⟨Nat.zero_le _, fun _ h => absurd h (Nat.not_lt_zero _), hs⟩
  · clear hs
    intro i w hI
    show W _ _ _ _ [(0, .slice a k c), (1, .func (.func 36) #[] #[]), (7, .int .i64 k), (8, .int .i64 i)] w
    obtain ⟨hi, hq, hs⟩ := hI
    by_cases hlt2 : i < k
    · refine W_seq ?_
      refine W_region ?_
      first | refine L_lss rfl rfl rfl (dtrue (by omega)) ?_ | refine L_lss rfl rfl rfl (dfalse (by omega)) ?_ | refine L_lss rfl rfl rfl rfl ?_
      refine RL_then ?_
      refine W_seq ?_
      refine W_if_true rfl ?_
      refine W_skip' ?_
      refine Nx_then ?_
      refine W_seq ?_
      refine W_block ?_
      refine W_seq ?_
      refine W_region ?_
      refine L_move rfl rfl ?_
      refine L_assign rfl rfl ?_
      refine RL_then ?_
      refine W_seq ?_
      refine W_region ?_
      refine L_move rfl rfl ?_
      refine L_move rfl rfl ?_
      refine L_move rfl rfl ?_
      refine L_idxN rfl Try.underlying22 Try.ti25 rfl rfl (by with_reducible first | exact natc_k _ | exact natc_a1 _ | exact natc_0 | exact natc_1 | exact natc_2 | exact natc_s1 _ (by omega) | exact natc_a2 _ | exact natc_add _ _ | exact natc_mul _ _ | exact natc (by omega)) (by omega) (hx.ao (by rw [pcs_len]; omega)) ?_
      refine L_loadA rfl Try.agg25 Try.ti25 rfl (by exact pt_at (hx.old hs Own.nil) (by omega)) ?_
      refine L_callV rfl Try.fun36 rfl rfl (pnf_ok (ts.getD i (0, 0)) w) ?_
      rintro _ w' ⟨rfl, hs'⟩
      replace hs := hs.nil hs'
      clear hs'
      cases hf : pnf (ts.getD i (0, 0))
      · refine RL_then ?_
        refine W_if_false rfl ?_
        refine W_skip' ?_
        refine Nx_block ?_
        refine Nx_then ?_
        refine W_region ?_
        first | refine L_add rfl rfl rfl (wrp_i64 (by omega)) ?_ | refine L_add rfl rfl rfl rfl ?_
        refine L_move rfl rfl ?_
        refine RL_nil' ?_
        refine Nx_loopP (i + 1, _) (is := [0, 1, 7, 8]) (I' := (fun (i : Nat) (w : World) => (i ≤ k) ∧ (∀ q, q < i → ¬ pnf (ts.getD q (0, 0)) = true) ∧ (HS w0 w [])) (i + 1) (_)) rfl rfl rfl ?_ ?_
        · refine ⟨by omega, fun q hq2 => ?_, hs⟩
          by_cases hqi : q = i
          · rw [hqi, hf]; decide
          · exact hq q (by omega)
        · omega
      · refine RL_then ?_
        refine W_if_true rfl ?_
        refine W_seq ?_
        refine W_region ?_
        refine L_move rfl rfl ?_
        refine L_assign rfl rfl ?_
        refine RL_then ?_
        refine W_ret' ?_
        refine Ex_block_ret ?_
        refine Ex_then_ret ?_
        refine Ex_loop_ret ?_
        refine Ex_block_ret ?_
        refine Ex_then_ret ?_
        refine Ex_done1 rfl rfl ?_
        exact ⟨_, rfl, _, rfl, hs, .inl ⟨i, hlt2, rfl, hf, hq⟩⟩
    · obtain rfl : k = i := by omega
      refine W_seq ?_
      refine W_region ?_
      first | refine L_lss rfl rfl rfl (dtrue (by omega)) ?_ | refine L_lss rfl rfl rfl (dfalse (by omega)) ?_ | refine L_lss rfl rfl rfl rfl ?_
      refine RL_then ?_
      refine W_seq ?_
      refine W_if_false rfl ?_
      refine W_exit' ?_
      refine Ex_then_exit ?_
      refine Ex_loop_exit ?_
      refine Ex_block_hit ?_
      refine Nx_then ?_
      refine W_seq ?_
      refine W_region ?_
      refine L_assign rfl rfl ?_
      refine RL_then ?_
      refine W_ret' ?_
      refine Ex_done1 rfl rfl ?_
      exact ⟨_, rfl, _, rfl, hs, .inr ⟨rfl, hq⟩⟩
theorem found_any {α : Type} {l : List α} {d : α} {p : α → Bool} {k : Nat} {j : Int} (hk : l.length = k) (h : Found (fun i => p (l.getD i d) = true) k j) : decide (0 ≤ j) = l.any p := by
  rcases h with ⟨i, hi, rfl, hp, _⟩ | ⟨rfl, hn⟩
  · rw [decide_eq_true (by omega)]
    symm; rw [List.any_eq_true]
    refine ⟨_, List.getElem_mem (by omega : i < l.length), ?_⟩
    rw [List.getD_eq_getElem?_getD, List.getElem?_eq_getElem (by omega)] at hp
    exact hp
  · rw [decide_eq_false (by decide)]
    symm; rw [List.any_eq_false]
    intro x hx
    obtain ⟨i, hi, rfl⟩ := List.getElem_of_mem hx
    have : ¬ p (l.getD i d) = true := hn i (by omega)
    rw [List.getD_eq_getElem?_getD, List.getElem?_eq_getElem hi] at this
    exact this
theorem pcontains_ok (a : Option Addr) (k c : Nat) (ts : List Pt) (w0 : World) (hx : SlC w0 a (pcs ts)) (hk : ts.length = k) (hk2 : k ≤ 1000000) :
    Ret Try.prog 35 [.slice a k c, .func (.func 36) #[] #[]] w0 fun v w' => v = .bool (ts.any pnf) ∧ HS w0 w' [] := by
  refine Ret.start fun w hs => ?_
  refine calls_of_W Try.func35 rfl rfl rfl ?_
  refine W_seq ?_
  refine W_region ?_
  refine L_assign rfl rfl ?_
  refine RL_then ?_
  refine W_seq ?_
  refine W_region ?_
  refine L_move rfl rfl ?_
  refine L_move rfl rfl ?_
  refine L_call rfl Try.fun49 rfl (pindex_ok a k c ts w (hx.old hs Own.nil) hk hk2) ?_
  rintro _ w1 ⟨j, rfl, hs', hF⟩
  replace hs := hs.nil hs'
  have e := found_any hk hF
  refine L_geq rfl rfl rfl e ?_
  refine L_assign rfl rfl ?_
  refine RL_then ?_
  refine W_ret' ?_
  refine Ex_done1 rfl rfl ?_
  exact ⟨_, rfl, rfl, hs⟩
/-! ### Zones -/
structure Zn where
  num : Int
  name : ByteArray
  ps : List Pt
  v : Value
  M : Bks
def zn0 : Zn := ⟨0, ⟨#[]⟩, [], .slice none 0 0, []⟩
def Zn.cells (z : Zn) : List Value := [.int .i64 z.num, .string z.name, z.v]
def zcs (zs : List Zn) : List Value := zs.flatMap Zn.cells
theorem zcs_len (ts : List Zn) : (zcs ts).length = ts.length * 3 := by
  induction ts with
  | nil => rfl
  | cons t ts ih =>
    show (t.cells ++ zcs ts).length = _
    rw [List.length_append, ih, List.length_cons]
    show 3 + _ = _
    omega
theorem zcs_get : ∀ {ts : List Zn} {i q : Nat} {v : Value}, i < ts.length → (ts.getD i zn0).cells[q]? = some v → (zcs ts)[i * 3 + q]? = some v
  | t :: ts, 0, q, v, _, h => by
    show (t.cells ++ zcs ts)[0 * 3 + q]? = some v
    rw [Nat.zero_mul, Nat.zero_add]
    have hq : q < t.cells.length := (List.getElem?_eq_some_iff.1 h).1
    rw [List.getElem?_append_left hq]; exact h
  | t :: ts, i + 1, q, v, hi, h => by
    show (t.cells ++ zcs ts)[(i + 1) * 3 + q]? = some v
    have hl : t.cells.length = 3 := rfl
    rw [List.getElem?_append_right (by omega), show (i + 1) * 3 + q - t.cells.length = i * 3 + q by omega]
    exact zcs_get (by simpa using hi) h
theorem zn_at {w : World} {a : Option Addr} {ts : List Zn} (h : SlC w a (zcs ts)) {i : Nat} (hi : i < ts.length) : CellsAt w ((aD a).add (i * 3)) (ts.getD i zn0).cells := h.sub fun _ _ hv => zcs_get hi hv
theorem zcs_app (ts us : List Zn) : zcs (ts ++ us) = zcs ts ++ zcs us := List.flatMap_append ..
theorem zindex_ok (f : Nat) (cap : List Value) (p : Zn → Bool) (hf : Fun Try.prog f) (a : Option Addr) (k c : Nat) (ts : List Zn) (w0 : World) (hcall : ∀ i w, i < k → HS w0 w [] → Ret Try.prog f ([] ++ [.agg (ts.getD i zn0).cells.toArray] ++ cap) w fun v w' => v = .bool (p (ts.getD i zn0)) ∧ HS w w' [])
    (hx : SlC w0 a (zcs ts)) (hk : ts.length = k) (hk2 : k ≤ 1000000) :
    Ret Try.prog 46 [.slice a k c, .func (.func f) #[] cap.toArray] w0 fun v w' => ∃ j, v = .int .i64 j ∧ HS w0 w' [] ∧ Found (fun i => p (ts.getD i zn0) = true) k j := by
  refine Ret.start fun w hs => ?_
  refine calls_of_W Try.func46 rfl rfl rfl ?_
  refine W_seq ?_
  refine W_region ?_
  refine L_assign rfl rfl ?_
  refine RL_then ?_
  refine W_seq ?_
  refine W_seq ?_
  refine W_region ?_
  refine L_move rfl rfl ?_
  refine L_len rfl Try.underlying85 rfl ?_
  refine L_move rfl rfl ?_
  refine RL_then ?_
  refine W_block ?_
  refine W_loop2 (fun (i : Nat) (w : World) => [(0, .slice a k c), (1, .func (.func f) #[] cap.toArray), (7, .int .i64 k), (8, .int .i64 i)]) (fun (i : Nat) (w : World) => w) (fun (i : Nat) (w : World) => (i ≤ k) ∧ (∀ q, q < i → ¬ p (ts.getD q zn0) = true) ∧ (HS w0 w [])) (fun (i : Nat) (w : World) => k - i) (0) (w) (is := [0, 1, 7, 8]) rfl rfl ?_ ?_
  · exact ⟨Nat.zero_le _, fun _ h => absurd h (Nat.not_lt_zero _), hs⟩
  · clear hs
    intro i w hI
    show W _ _ _ _ [(0, .slice a k c), (1, .func (.func f) #[] cap.toArray), (7, .int .i64 k), (8, .int .i64 i)] w
    obtain ⟨hi, hq, hs⟩ := hI
    by_cases hlt2 : i < k
    · refine W_seq ?_
      refine W_region ?_
      first | refine L_lss rfl rfl rfl (dtrue (by omega)) ?_ | refine L_lss rfl rfl rfl (dfalse (by omega)) ?_ | refine L_lss rfl rfl rfl rfl ?_
      refine RL_then ?_
      refine W_seq ?_
      refine W_if_true rfl ?_
      refine W_skip' ?_
      refine Nx_then ?_
      refine W_seq ?_
      refine W_block ?_
      refine W_seq ?_
      refine W_region ?_
      refine L_move rfl rfl ?_
      refine L_assign rfl rfl ?_
      refine RL_then ?_
      refine W_seq ?_
      refine W_region ?_
      refine L_move rfl rfl ?_
      refine L_move rfl rfl ?_
      refine L_move rfl rfl ?_
      refine L_idxN rfl Try.underlying85 Try.ti90 rfl rfl (by with_reducible first | exact natc_k _ | exact natc_a1 _ | exact natc_0 | exact natc_1 | exact natc_2 | exact natc_s1 _ (by omega) | exact natc_a2 _ | exact natc_add _ _ | exact natc_mul _ _ | exact natc (by omega)) (by omega) (hx.ao (by rw [zcs_len]; omega)) ?_
      refine L_loadA rfl Try.agg90 Try.ti90 rfl (by exact zn_at (hx.old hs Own.nil) (by omega)) ?_
      refine L_callV rfl hf (first := []) (cap := cap) rfl rfl (hcall i w hlt2 hs) ?_
      rintro _ w' ⟨rfl, hs'⟩
      replace hs := hs.nil hs'
      clear hs'
      cases hf : p (ts.getD i zn0)
      · refine RL_then ?_
        refine W_if_false rfl ?_
        refine W_skip' ?_
        refine Nx_block ?_
        refine Nx_then ?_
        refine W_region ?_
        first | refine L_add rfl rfl rfl (wrp_i64 (by omega)) ?_ | refine L_add rfl rfl rfl rfl ?_
        refine L_move rfl rfl ?_
        refine RL_nil' ?_
        refine Nx_loopP (i + 1, _) (is := [0, 1, 7, 8]) (I' := (fun (i : Nat) (w : World) => (i ≤ k) ∧ (∀ q, q < i → ¬ p (ts.getD q zn0) = true) ∧ (HS w0 w [])) (i + 1) (_)) rfl rfl rfl ?_ ?_
        · refine ⟨by omega, fun q hq2 => ?_, hs⟩
          by_cases hqi : q = i
          · rw [hqi, hf]; decide
          · exact hq q (by omega)
        · omega
      · refine RL_then ?_
        refine W_if_true rfl ?_
        refine W_seq ?_
        refine W_region ?_
        refine L_move rfl rfl ?_
        refine L_assign rfl rfl ?_
        refine RL_then ?_
        refine W_ret' ?_
        refine Ex_block_ret ?_
        refine Ex_then_ret ?_
        refine Ex_loop_ret ?_
        refine Ex_block_ret ?_
        refine Ex_then_ret ?_
        refine Ex_done1 rfl rfl ?_
        exact ⟨_, rfl, _, rfl, hs, .inl ⟨i, hlt2, rfl, hf, hq⟩⟩
    · obtain rfl : k = i := by omega
      refine W_seq ?_
      refine W_region ?_
      first | refine L_lss rfl rfl rfl (dtrue (by omega)) ?_ | refine L_lss rfl rfl rfl (dfalse (by omega)) ?_ | refine L_lss rfl rfl rfl rfl ?_
      refine RL_then ?_
      refine W_seq ?_
      refine W_if_false rfl ?_
      refine W_exit' ?_
      refine Ex_then_exit ?_
      refine Ex_loop_exit ?_
      refine Ex_block_hit ?_
      refine Nx_then ?_
      refine W_seq ?_
      refine W_region ?_
      refine L_assign rfl rfl ?_
      refine RL_then ?_
      refine W_ret' ?_
      refine Ex_done1 rfl rfl ?_
      exact ⟨_, rfl, _, rfl, hs, .inr ⟨rfl, hq⟩⟩
theorem zcontains_ok (f : Nat) (cap : List Value) (p : Zn → Bool) (hf : Fun Try.prog f) (a : Option Addr) (k c : Nat) (ts : List Zn) (w0 : World) (hcall : ∀ i w, i < k → HS w0 w [] → Ret Try.prog f ([] ++ [.agg (ts.getD i zn0).cells.toArray] ++ cap) w fun v w' => v = .bool (p (ts.getD i zn0)) ∧ HS w w' [])
    (hx : SlC w0 a (zcs ts)) (hk : ts.length = k) (hk2 : k ≤ 1000000) :
    Ret Try.prog 33 [.slice a k c, .func (.func f) #[] cap.toArray] w0 fun v w' => v = .bool (ts.any p) ∧ HS w0 w' [] := by
  refine Ret.start fun w hs => ?_
  refine calls_of_W Try.func33 rfl rfl rfl ?_
  refine W_seq ?_
  refine W_region ?_
  refine L_assign rfl rfl ?_
  refine RL_then ?_
  refine W_seq ?_
  refine W_region ?_
  refine L_move rfl rfl ?_
  refine L_move rfl rfl ?_
  refine L_call rfl Try.fun46 rfl (zindex_ok f cap p hf a k c ts w (fun i w' hi h => hcall i w' hi (hs.nil h)) (hx.old hs Own.nil) hk hk2) ?_
  rintro _ w1 ⟨j, rfl, hs', hF⟩
  replace hs := hs.nil hs'
  have e := found_any hk hF
  refine L_geq rfl rfl rfl e ?_
  refine L_assign rfl rfl ?_
  refine RL_then ?_
  refine W_ret' ?_
  refine Ex_done1 rfl rfl ?_
  exact ⟨_, rfl, rfl, hs⟩
/-! ### The two closures -/
theorem same_name (z : Zn) (b : Nat) (nm : ByteArray) (v : Value) (w0 : World) (hb : w0.cell? ⟨b, 0, none⟩ = some (.string nm)) : Ret Try.prog 34 [.agg z.cells.toArray, .pointer (some ⟨b, 0, none⟩)] w0 fun r w' => r = .bool (z.name == nm) ∧ HS w0 w' [] := by
  refine Ret.start fun w hs => ?_
  have hlt := World.block_lt_of_cell? w0 _ hb
  refine calls_of_W Try.func34 rfl rfl rfl ?_
  refine W_seq ?_
  refine W_region ?_
  refine L_box rfl hs rfl ?_
  intro b2 w hb2 hnb2 hs
  try dsimp only [List.set_cons_succ, List.set_cons_zero, List.cons_append, List.nil_append] at hs
  refine L_assign rfl rfl ?_
  refine RL_then ?_
  refine W_seq ?_
  refine W_region ?_
  replace hs : HS w0 w [(b2, Row 90 z.cells)] := hs
  have ho := Own.cons (L := []) hb2 Own.nil (o := Row 90 z.cells)
  refine L_fieldAddr rfl (off := 1) Try.underlying90 rfl rfl Try.ti40 rfl ?_
  refine L_fieldAddr rfl (off := 0) Try.underlying40 rfl rfl Try.ti9 rfl ?_
  refine L_load rfl Try.one9 rfl (by first | exact hs.cell (i := 0) rfl rfl | exact hs.oldcell hb (ho.notin hlt)) ?_
  refine L_fieldAddr rfl (off := 0) Try.underlying40 rfl rfl Try.ti9 rfl ?_
  refine L_load rfl Try.one9 rfl (by first | exact hs.cell (i := 0) rfl rfl | exact hs.oldcell hb (ho.notin hlt)) ?_
  refine RL_val rfl (R_seql rfl rfl) ?_
  refine L_assign rfl rfl ?_
  refine RL_then ?_
  refine W_ret' ?_
  refine Ex_done1 rfl rfl ?_
  exact ⟨_, rfl, rfl, hs.forget ho⟩
theorem same_num (z : Zn) (b : Nat) (q : Int) (w0 : World) (hb : w0.cell? ⟨b, 0, none⟩ = some (.int .i64 q)) : Ret Try.prog 47 [.agg z.cells.toArray, .pointer (some ⟨b, 0, none⟩)] w0 fun r w' => r = .bool (decide (z.num = q)) ∧ HS w0 w' [] := by
  refine Ret.start fun w hs => ?_
  have hlt := World.block_lt_of_cell? w0 _ hb
  refine calls_of_W Try.func47 rfl rfl rfl ?_
  refine W_seq ?_
  refine W_region ?_
  refine L_box rfl hs rfl ?_
  intro b2 w hb2 hnb2 hs
  try dsimp only [List.set_cons_succ, List.set_cons_zero, List.cons_append, List.nil_append] at hs
  refine L_assign rfl rfl ?_
  refine RL_then ?_
  refine W_seq ?_
  refine W_region ?_
  replace hs : HS w0 w [(b2, Row 90 z.cells)] := hs
  have ho := Own.cons (L := []) hb2 Own.nil (o := Row 90 z.cells)
  refine L_fieldAddr rfl (off := 0) Try.underlying90 rfl rfl Try.ti3 rfl ?_
  refine L_load rfl Try.one3 rfl (by first | exact hs.cell (i := 0) rfl rfl | exact hs.oldcell hb (ho.notin hlt)) ?_
  refine L_load rfl Try.one3 rfl (by first | exact hs.cell (i := 0) rfl rfl | exact hs.oldcell hb (ho.notin hlt)) ?_
  first | refine L_eql rfl rfl rfl (dtrue (by omega)) ?_ | refine L_eql rfl rfl rfl (dfalse (by omega)) ?_ | refine L_eql rfl rfl rfl rfl ?_
  refine L_assign rfl rfl ?_
  refine RL_then ?_
  refine W_ret' ?_
  refine Ex_done1 rfl rfl ?_
  exact ⟨_, rfl, rfl, hs.forget ho⟩
end Go.Proofs.Ytoiobncojfeoiaa
