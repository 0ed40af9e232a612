/-
  A part of the proof: what functions that the statement reaches do, or a plain law on what they do. Each theorem holds under its own premises alone.
-/
import Derived.Test.YtknpoemkmcdgcaaTNO
import Derived.Test.YtknpoemkmcdgcaaKitQ
namespace Go.Proofs.Ytknpoemkmcdgcaa
open Go Go.Lk
/-! ### Between -/
def absB (x : Nat) : Bool := FloatKind.f64.format.order (x % 9223372036854775808) 4787326403894837248 == some .lt || FloatKind.f64.format.order (x % 9223372036854775808) 4787326403894837248 == some .eq
def loB (p : Nat) : Bool := FloatKind.f64.format.order p 4427038433705197568 == some .gt || FloatKind.f64.format.order p 4427038433705197568 == some .eq
def hiB (p : Nat) : Bool := FloatKind.f64.format.order p 4787326403894837248 == some .lt || FloatKind.f64.format.order p 4787326403894837248 == some .eq
def plainB (x p : Nat) : Bool := absB x && (loB p && hiB p)
theorem plain_ok (x p : Nat) (hx : x < 18446744073709551616) (w0 : World) : Ret Try.prog 24 [.float .f64 x, .float .f64 p] w0 fun v w' => v = .bool (plainB x p) ∧ w' = w0 := by
  refine calls_of_W Try.func24 rfl rfl rfl ?_
  refine W_seq ?_
  refine W_region ?_
  refine L_assign rfl rfl ?_
  refine RL_then ?_
  refine W_seq ?_
  refine W_region ?_
  refine L_move rfl rfl ?_
  refine L_call rfl Try.fun26 rfl (abs_ok x hx w0) ?_
  rintro _ _ ⟨rfl, rfl⟩
  cases h1 : absB x
  · have c1 := h1
    unfold absB at c1
    refine L_fcmp rfl rfl rfl (fun _ => by rw [binOp_float_cmp_leq, c1]; rfl) ?_
    refine L_move rfl rfl ?_
    first | (refine RL_want rfl rfl ?_; refine L_move rfl rfl ?_) | refine RL_skip rfl rfl rfl rfl ?_ | refine RL_skipU rfl rfl rfl ?_
    first | (refine RL_want rfl rfl ?_; refine L_fcmp rfl rfl rfl (fun _ => by rw [binOp_float_cmp_geq]; rfl) ?_) | refine RL_skip rfl rfl rfl rfl ?_ | refine RL_skipU rfl rfl rfl ?_
    first | refine L_pick_t rfl rfl rfl ?_ | refine L_pick_f rfl rfl rfl ?_
    refine L_move rfl rfl ?_
    first | (refine RL_want rfl rfl ?_; refine L_move rfl rfl ?_) | refine RL_skip rfl rfl rfl rfl ?_ | refine RL_skipU rfl rfl rfl ?_
    first | (refine RL_want rfl rfl ?_; refine L_fcmp rfl rfl rfl (fun _ => by rw [binOp_float_cmp_leq]; rfl) ?_) | refine RL_skip rfl rfl rfl rfl ?_ | refine RL_skipU rfl rfl rfl ?_
    first | refine L_pick_t rfl rfl rfl ?_ | refine L_pick_f rfl rfl rfl ?_
    refine L_assign rfl rfl ?_
    refine RL_then ?_
    refine W_ret' ?_
    refine Ex_done1 rfl rfl ?_
    exact ⟨_, rfl, by unfold plainB; rw [h1]; rfl, rfl⟩
  · have c1 := h1
    unfold absB at c1
    cases h2 : loB p
    · have c2 := h2
      unfold loB at c2
      refine L_fcmp rfl rfl rfl (fun _ => by rw [binOp_float_cmp_leq, c1]; rfl) ?_
      refine L_move rfl rfl ?_
      first | (refine RL_want rfl rfl ?_; refine L_move rfl rfl ?_) | refine RL_skip rfl rfl rfl rfl ?_ | refine RL_skipU rfl rfl rfl ?_
      first | (refine RL_want rfl rfl ?_; refine L_fcmp rfl rfl rfl (fun _ => by rw [binOp_float_cmp_geq, c2]; rfl) ?_) | refine RL_skip rfl rfl rfl rfl ?_ | refine RL_skipU rfl rfl rfl ?_
      first | refine L_pick_t rfl rfl rfl ?_ | refine L_pick_f rfl rfl rfl ?_
      refine L_move rfl rfl ?_
      first | (refine RL_want rfl rfl ?_; refine L_move rfl rfl ?_) | refine RL_skip rfl rfl rfl rfl ?_ | refine RL_skipU rfl rfl rfl ?_
      first | (refine RL_want rfl rfl ?_; refine L_fcmp rfl rfl rfl (fun _ => by rw [binOp_float_cmp_leq]; rfl) ?_) | refine RL_skip rfl rfl rfl rfl ?_ | refine RL_skipU rfl rfl rfl ?_
      first | refine L_pick_t rfl rfl rfl ?_ | refine L_pick_f rfl rfl rfl ?_
      refine L_assign rfl rfl ?_
      refine RL_then ?_
      refine W_ret' ?_
      refine Ex_done1 rfl rfl ?_
      exact ⟨_, rfl, by unfold plainB; rw [h1, h2]; rfl, rfl⟩
    · have c2 := h2
      unfold loB at c2
      cases h3 : hiB p
      · have c3 := h3
        unfold hiB at c3
        refine L_fcmp rfl rfl rfl (fun _ => by rw [binOp_float_cmp_leq, c1]; rfl) ?_
        refine L_move rfl rfl ?_
        first | (refine RL_want rfl rfl ?_; refine L_move rfl rfl ?_) | refine RL_skip rfl rfl rfl rfl ?_ | refine RL_skipU rfl rfl rfl ?_
        first | (refine RL_want rfl rfl ?_; refine L_fcmp rfl rfl rfl (fun _ => by rw [binOp_float_cmp_geq, c2]; rfl) ?_) | refine RL_skip rfl rfl rfl rfl ?_ | refine RL_skipU rfl rfl rfl ?_
        first | refine L_pick_t rfl rfl rfl ?_ | refine L_pick_f rfl rfl rfl ?_
        refine L_move rfl rfl ?_
        first | (refine RL_want rfl rfl ?_; refine L_move rfl rfl ?_) | refine RL_skip rfl rfl rfl rfl ?_ | refine RL_skipU rfl rfl rfl ?_
        first | (refine RL_want rfl rfl ?_; refine L_fcmp rfl rfl rfl (fun _ => by rw [binOp_float_cmp_leq, c3]; rfl) ?_) | refine RL_skip rfl rfl rfl rfl ?_ | refine RL_skipU rfl rfl rfl ?_
        first | refine L_pick_t rfl rfl rfl ?_ | refine L_pick_f rfl rfl rfl ?_
        refine L_assign rfl rfl ?_
        refine RL_then ?_
        refine W_ret' ?_
        refine Ex_done1 rfl rfl ?_
        exact ⟨_, rfl, by unfold plainB; rw [h1, h2, h3]; rfl, rfl⟩
      · have c3 := h3
        unfold hiB at c3
        refine L_fcmp rfl rfl rfl (fun _ => by rw [binOp_float_cmp_leq, c1]; rfl) ?_
        refine L_move rfl rfl ?_
        first | (refine RL_want rfl rfl ?_; refine L_move rfl rfl ?_) | refine RL_skip rfl rfl rfl rfl ?_ | refine RL_skipU rfl rfl rfl ?_
        first | (refine RL_want rfl rfl ?_; refine L_fcmp rfl rfl rfl (fun _ => by rw [binOp_float_cmp_geq, c2]; rfl) ?_) | refine RL_skip rfl rfl rfl rfl ?_ | refine RL_skipU rfl rfl rfl ?_
        first | refine L_pick_t rfl rfl rfl ?_ | refine L_pick_f rfl rfl rfl ?_
        refine L_move rfl rfl ?_
        first | (refine RL_want rfl rfl ?_; refine L_move rfl rfl ?_) | refine RL_skip rfl rfl rfl rfl ?_ | refine RL_skipU rfl rfl rfl ?_
        first | (refine RL_want rfl rfl ?_; refine L_fcmp rfl rfl rfl (fun _ => by rw [binOp_float_cmp_leq, c3]; rfl) ?_) | refine RL_skip rfl rfl rfl rfl ?_ | refine RL_skipU rfl rfl rfl ?_
        first | refine L_pick_t rfl rfl rfl ?_ | refine L_pick_f rfl rfl rfl ?_
        refine L_assign rfl rfl ?_
        refine RL_then ?_
        refine W_ret' ?_
        refine Ex_done1 rfl rfl ?_
        exact ⟨_, rfl, by unfold plainB; rw [h1, h2, h3]; rfl, rfl⟩
theorem between_ok (x a b o : Nat) (L A B : Int) (O : Nat) (hx : FV x L) (ha : FV a A) (hb : FV b B) (ho : FV o (O : Int)) (h1 : min A B - O ≤ L) (h2 : L ≤ max A B + O) (hA : A.natAbs ≤ Bd) (hB : B.natAbs ≤ Bd) (hO : O ≤ 1024 * Bd) (w0 : World) :
    Ret Try.prog 25 [.float .f64 x, .float .f64 a, .float .f64 b, .float .f64 o] w0 fun v w' => v = .bool true ∧ HS w0 w' [] := by
  obtain ⟨c, hc⟩ : ∃ c, c = 1074 := ⟨_, rfl⟩
  obtain ⟨⟨r, hr, hr1⟩, ⟨q, hq, hq1⟩⟩ := fv_checks hc hx (ha.min hb) (ha.max hb) ho h1 h2 (by omega) (by omega) hO
  refine Ret.start fun w hs => ?_
  refine calls_of_W Try.func25 rfl rfl rfl ?_
  refine W_seq ?_
  refine W_region ?_
  refine L_assign rfl rfl ?_
  refine RL_then ?_
  refine W_seq ?_
  refine W_region ?_
  refine L_move rfl rfl ?_
  refine L_move rfl rfl ?_
  refine L_move rfl rfl ?_
  refine RL_val rfl (R_minF rfl rfl (by exact ha.neq hb)) ?_
  refine L_move rfl rfl ?_
  refine L_farith rfl (op := .sub) rfl rfl rfl ?_
  intro r14 k14 hr14
  try replace hs := hs.drewN k14
  obtain rfl := fs_val hr14 hr
  refine L_fcmp rfl rfl rfl (fun _ => by rw [binOp_float_cmp_geq, hr1]; rfl) ?_
  refine L_move rfl rfl ?_
  first | (refine RL_want rfl rfl ?_; refine L_move rfl rfl ?_) | refine RL_skip rfl rfl rfl rfl ?_ | refine RL_skipU rfl rfl rfl ?_
  first | (refine RL_want rfl rfl ?_; refine L_move rfl rfl ?_) | refine RL_skip rfl rfl rfl rfl ?_ | refine RL_skipU rfl rfl rfl ?_
  first | (refine RL_want rfl rfl ?_; refine L_move rfl rfl ?_) | refine RL_skip rfl rfl rfl rfl ?_ | refine RL_skipU rfl rfl rfl ?_
  first | (refine RL_want rfl rfl ?_; refine RL_val rfl (R_maxF rfl rfl (by exact ha.neq hb)) ?_) | refine RL_skip rfl rfl rfl rfl ?_ | refine RL_skipU rfl rfl rfl ?_
  first | (refine RL_want rfl rfl ?_; refine L_move rfl rfl ?_) | refine RL_skip rfl rfl rfl rfl ?_ | refine RL_skipU rfl rfl rfl ?_
  first | (refine RL_want rfl rfl ?_; refine L_farith rfl (op := .add) rfl rfl rfl ?_; intro r22 k22 hr22; try replace hs := hs.drewN k22) | refine RL_skip rfl rfl rfl rfl ?_ | refine RL_skipU rfl rfl rfl ?_
  obtain rfl := fs_val hr22 hq
  first | (refine RL_want rfl rfl ?_; refine L_fcmp rfl rfl rfl (fun _ => by rw [binOp_float_cmp_leq, hq1]; rfl) ?_) | refine RL_skip rfl rfl rfl rfl ?_ | refine RL_skipU rfl rfl rfl ?_
  first | refine L_pick_t rfl rfl rfl ?_ | refine L_pick_f rfl rfl rfl ?_
  refine L_assign rfl rfl ?_
  refine RL_then ?_
  refine W_ret' ?_
  refine Ex_done1 rfl rfl ?_
  exact ⟨_, rfl, rfl, hs⟩
theorem off48 (e : Nat) (he : e = 1026) : rv 4391009636686233600 = 2 ^ e := by
  obtain ⟨d, hd⟩ : ∃ d, d = 974 := ⟨_, rfl⟩
  rw [rv_norm (r := 4391009636686233600) (e := d) (m := 0) (by omega) (by decide), Nat.add_zero, ← two52, ← Nat.pow_add, show 52 + d = e by omega]
theorem off49 (e : Nat) (he : e = 1025) : rv 4386506037058863104 = 2 ^ e := by
  obtain ⟨d, hd⟩ : ∃ d, d = 973 := ⟨_, rfl⟩
  rw [rv_norm (r := 4386506037058863104) (e := d) (m := 0) (by omega) (by decide), Nat.add_zero, ← two52, ← Nat.pow_add, show 52 + d = e by omega]
theorem bN_true {p q N : Nat} (h : FV (fop .add p q) (N : Int)) (h0 : 0 < N) : bN p q = true := by
  unfold bN
  rw [h.order fv_0, Int.compare_eq_gt.2 (by omega)]; rfl
theorem plain_fv {x p : Nat} (hx : x < 18446744073709551616) (hp : p < 18446744073709551616) (h : plainB x p = true) : (∃ v, FV x v ∧ v.natAbs ≤ Hi) ∧ ∃ P : Nat, FV p (P : Int) ∧ Lo ≤ P ∧ P ≤ Hi := by
  unfold plainB at h
  rw [Bool.and_eq_true, Bool.and_eq_true] at h
  exact ⟨fv_of_abs40 hx h.1, fv_of_var hp h.2.1 h.2.2⟩
/-- the place of both, its bound, and the check's own slack -/
theorem x_part {ax bx p q A B x : Nat} {u v : Int} (hx : cn x = cn (bX ax p bx q)) (ha : FV ax u) (hb : FV bx v) (hA : u.natAbs ≤ Hi) (hB : v.natAbs ≤ Hi) (hp : FV p (A : Int)) (hq : FV q (B : Int)) (p1 : Lo ≤ A) (p2 : A ≤ Hi) (q1 : Lo ≤ B) (q2 : B ≤ Hi) :
    ∃ L, ∃ O : Nat, ∃ r, FV x L ∧ floatBits .mul .f64 4391009636686233600 (fmax (ax % 9223372036854775808) (bx % 9223372036854775808)) = some r ∧ FV r (O : Int) ∧ min u v - O ≤ L ∧ L ≤ max u v + O ∧ O ≤ 1024 * Bd := by
  obtain ⟨c, hc⟩ : ∃ c, c = 1074 := ⟨_, rfl⟩
  obtain ⟨e, he⟩ : ∃ e, e = 1026 := ⟨_, rfl⟩
  have hBd := hi_bd
  obtain ⟨T, hT⟩ : ∃ T, T = max u.natAbs v.natAbs := ⟨_, rfl⟩
  obtain ⟨N, hN, n1, _⟩ := var_sum hc hp hq p1 p2 q1 q2
  obtain ⟨L, hL, l1, l2⟩ := both_pos (T := T) hc ha hb hp hq p1 p2 q1 q2 (by omega) (by omega) (by omega)
  have hm : FV (fmax (ax % 9223372036854775808) (bx % 9223372036854775808)) (T : Int) := by
    have := ha.abs.max hb.abs
    rw [show max (u.natAbs : Int) (v.natAbs : Int) = (T : Int) by omega] at this
    exact this
  obtain ⟨r, O, h1, h2, h3, h4⟩ := off_part (k := 48) hc (by omega) (by decide) (off48 e he) hm (by omega) (E := T / 2251799813685248) (by
    rw [show (2 : Nat) ^ 48 = 281474976710656 by decide]; omega)
  have hb1 := bN_true hN (by have := lo_pos; omega)
  have ex : bX ax p bx q = fop .add ax (fop .mul (fop .sub bx ax) (fop .quo p (fop .add p q))) := by unfold bX; rw [hb1, if_pos rfl]
  rw [ex, cn_fop] at hx
  exact ⟨L, O, r, FV.cn hL hx, h1, h2, by omega, by omega, by omega⟩
theorem p_part {p q A B x : Nat} (hx : cn x = cn (bP p q)) (hp : FV p (A : Int)) (hq : FV q (B : Int)) (p1 : Lo ≤ A) (p2 : A ≤ Hi) (q1 : Lo ≤ B) (q2 : B ≤ Hi) :
    ∃ L, ∃ O : Nat, ∃ r, FV x L ∧ floatBits .mul .f64 4386506037058863104 (fmax p q) = some r ∧ FV r (O : Int) ∧ min (A : Int) (B : Int) - O ≤ L ∧ L ≤ max (A : Int) (B : Int) + O ∧ O ≤ 1024 * Bd := by
  obtain ⟨c, hc⟩ : ∃ c, c = 1074 := ⟨_, rfl⟩
  obtain ⟨e, he⟩ : ∃ e, e = 1025 := ⟨_, rfl⟩
  have hBd := hi_bd
  obtain ⟨T, hT⟩ : ∃ T, T = max A B := ⟨_, rfl⟩
  obtain ⟨N, hN, n1, _⟩ := var_sum hc hp hq p1 p2 q1 q2
  obtain ⟨V, hV, l1, l2⟩ := both_var hc hp hq p1 p2 q1 q2
  have hm : FV (fmax p q) (T : Int) := by
    have := hp.max hq
    rw [show max (A : Int) (B : Int) = (T : Int) by omega] at this
    exact this
  obtain ⟨r, O, h1, h2, h3, h4⟩ := off_part (k := 49) hc (by omega) (by decide) (off49 e he) hm (by omega) (E := T / 1125899906842624) (by
    rw [show (2 : Nat) ^ 49 = 562949953421312 by decide]; omega)
  have hb1 := bN_true hN (by have := lo_pos; omega)
  have ex : bP p q = fop .quo (fop .mul 4611686018427387904 (fop .mul p q)) (fop .add p q) := by unfold bP; rw [hb1, if_pos rfl]
  rw [ex, cn_fop] at hx
  exact ⟨V, O, r, FV.cn hV hx, h1, h2, by omega, by omega, by omega⟩
def SPT (f : FuncId) (args : Array Value) (v : Value) : Prop := match f, args.toList with
  | 26, [.float .f64 x] => v = .float .f64 (x % 9223372036854775808)
  | 25, _ => v = .bool true
  | _, _ => False
theorem absT {w0 w : World} {L : Bks} (hs : HS w0 w L) (x : Nat) (hx : x < 18446744073709551616) : Ret Try.prog 26 [.float .f64 x] w fun v w' => SPT 26 [.float .f64 x].toArray v ∧ HS w0 w' L :=
  Calls.mono (abs_ok x hx w) fun e w' => by
    rintro ⟨v, rfl, rfl, rfl⟩
    exact ⟨_, rfl, rfl, hs⟩
theorem betweenT {w0 w : World} {Lb : Bks} (hs : HS w0 w Lb) (x a b o : Nat) (L A B : Int) (O : Nat) (hx : FV x L) (ha : FV a A) (hb : FV b B) (ho : FV o (O : Int)) (h1 : min A B - O ≤ L) (h2 : L ≤ max A B + O) (hA : A.natAbs ≤ Bd) (hB : B.natAbs ≤ Bd) (hO : O ≤ 1024 * Bd) :
    Ret Try.prog 25 [.float .f64 x, .float .f64 a, .float .f64 b, .float .f64 o] w fun v w' => SPT 25 [.float .f64 x, .float .f64 a, .float .f64 b, .float .f64 o].toArray v ∧ HS w0 w' Lb :=
  Calls.mono (between_ok x a b o L A B O hx ha hb ho h1 h2 hA hB hO w) fun e w' => by
    rintro ⟨v, rfl, rfl, hs'⟩
    exact ⟨_, rfl, rfl, hs.nil hs'⟩
theorem wakesU {w0 w : World} {L : Bks} (hs : HS w0 w L) : Ret Try.prog 11 [] w fun v w' => v = .bool true ∧ HS w0 w' L :=
  Calls.mono (wakes_ok w) fun e w' => by
    rintro ⟨v, rfl, rfl, hs'⟩
    exact ⟨_, rfl, rfl, hs.nil hs'⟩
structure StaLt (s : Sta) : Prop where
  x : s.x < 18446744073709551616
  v : s.v < 18446744073709551616
  xx : s.xx < 18446744073709551616
  vv : s.vv < 18446744073709551616
set_option maxHeartbeats 1000000 in
theorem between_law (a b : Sta) (ha : StaLt a) (hb : StaLt b) (w0 : World) : Ret Try.prog 8 [.agg a.cells.toArray, .agg b.cells.toArray] w0 fun v w' => v = .bool true ∧ HS w0 w' [] := by
  refine Ret.start fun w hs => ?_
  refine calls_of_W Try.func8 rfl rfl rfl ?_
  refine W_seq ?_
  refine W_region ?_
  refine L_box rfl hs rfl ?_
  intro b2 w hb2 hnb2 hs
  try dsimp only [List.set_cons_succ, List.set_cons_zero, List.cons_append, List.nil_append] at hs
  refine L_box rfl hs rfl ?_
  intro b3 w hb3 hnb3 hs
  try dsimp only [List.set_cons_succ, List.set_cons_zero, List.cons_append, List.nil_append] at hs
  refine L_assign rfl rfl ?_
  refine RL_then ?_
  refine W_seq ?_
  refine W_seq ?_
  refine W_region ?_
  replace hs : HS w0 w [(b2, Row 45 a.cells), (b3, Row 45 b.cells)] := hs
  have ho2 : Own w0 [(b2, Row 45 a.cells), (b3, Row 45 b.cells)] := Own.cons hb2 (Own.cons hb3 Own.nil)
  refine L_fieldAddr rfl (off := 0) Try.underlying45 rfl rfl Try.ti22 rfl ?_
  refine L_load rfl Try.one22 rfl (by first | exact hs.cell (i := 0) rfl rfl | exact hs.cell (i := 1) rfl rfl) ?_
  refine L_fieldAddr rfl (off := 2) Try.underlying45 rfl rfl Try.ti22 rfl ?_
  refine L_load rfl Try.one22 rfl (by first | exact hs.cell (i := 0) rfl rfl | exact hs.cell (i := 1) rfl rfl) ?_
  refine L_call rfl Try.fun24 rfl (plain_ok a.x a.xx ha.x w) ?_
  rintro _ _ ⟨rfl, rfl⟩
  cases h1 : plainB a.x a.xx
  · refine L_not rfl rfl ?_
    refine L_move rfl rfl ?_
    first | (refine RL_want rfl rfl ?_; refine L_fieldAddr rfl (off := 0) Try.underlying45 rfl rfl Try.ti22 rfl ?_) | refine RL_skip rfl rfl rfl rfl ?_ | refine RL_skipU rfl rfl rfl ?_
    first | (refine RL_want rfl rfl ?_; refine L_load rfl Try.one22 rfl (by first | exact hs.cell (i := 0) rfl rfl | exact hs.cell (i := 1) rfl rfl) ?_) | refine RL_skip rfl rfl rfl rfl ?_ | refine RL_skipU rfl rfl rfl ?_
    first | (refine RL_want rfl rfl ?_; refine L_fieldAddr rfl (off := 2) Try.underlying45 rfl rfl Try.ti22 rfl ?_) | refine RL_skip rfl rfl rfl rfl ?_ | refine RL_skipU rfl rfl rfl ?_
    first | (refine RL_want rfl rfl ?_; refine L_load rfl Try.one22 rfl (by first | exact hs.cell (i := 0) rfl rfl | exact hs.cell (i := 1) rfl rfl) ?_) | refine RL_skip rfl rfl rfl rfl ?_ | refine RL_skipU rfl rfl rfl ?_
    refine RL_skip rfl rfl rfl rfl ?_
    first | (refine RL_want rfl rfl ?_; refine L_not rfl rfl ?_) | refine RL_skip rfl rfl rfl rfl ?_ | refine RL_skipU rfl rfl rfl ?_
    first | refine L_pick_t rfl rfl rfl ?_ | refine L_pick_f rfl rfl rfl ?_
    refine L_move rfl rfl ?_
    first | (refine RL_want rfl rfl ?_; refine L_fieldAddr rfl (off := 1) Try.underlying45 rfl rfl Try.ti22 rfl ?_) | refine RL_skip rfl rfl rfl rfl ?_ | refine RL_skipU rfl rfl rfl ?_
    first | (refine RL_want rfl rfl ?_; refine L_load rfl Try.one22 rfl (by first | exact hs.cell (i := 0) rfl rfl | exact hs.cell (i := 1) rfl rfl) ?_) | refine RL_skip rfl rfl rfl rfl ?_ | refine RL_skipU rfl rfl rfl ?_
    first | (refine RL_want rfl rfl ?_; refine L_fieldAddr rfl (off := 4) Try.underlying45 rfl rfl Try.ti22 rfl ?_) | refine RL_skip rfl rfl rfl rfl ?_ | refine RL_skipU rfl rfl rfl ?_
    first | (refine RL_want rfl rfl ?_; refine L_load rfl Try.one22 rfl (by first | exact hs.cell (i := 0) rfl rfl | exact hs.cell (i := 1) rfl rfl) ?_) | refine RL_skip rfl rfl rfl rfl ?_ | refine RL_skipU rfl rfl rfl ?_
    refine RL_skip rfl rfl rfl rfl ?_
    first | (refine RL_want rfl rfl ?_; refine L_not rfl rfl ?_) | refine RL_skip rfl rfl rfl rfl ?_ | refine RL_skipU rfl rfl rfl ?_
    first | refine L_pick_t rfl rfl rfl ?_ | refine L_pick_f rfl rfl rfl ?_
    refine L_move rfl rfl ?_
    first | (refine RL_want rfl rfl ?_; refine L_fieldAddr rfl (off := 1) Try.underlying45 rfl rfl Try.ti22 rfl ?_) | refine RL_skip rfl rfl rfl rfl ?_ | refine RL_skipU rfl rfl rfl ?_
    first | (refine RL_want rfl rfl ?_; refine L_load rfl Try.one22 rfl (by first | exact hs.cell (i := 0) rfl rfl | exact hs.cell (i := 1) rfl rfl) ?_) | refine RL_skip rfl rfl rfl rfl ?_ | refine RL_skipU rfl rfl rfl ?_
    first | (refine RL_want rfl rfl ?_; refine L_fieldAddr rfl (off := 4) Try.underlying45 rfl rfl Try.ti22 rfl ?_) | refine RL_skip rfl rfl rfl rfl ?_ | refine RL_skipU rfl rfl rfl ?_
    first | (refine RL_want rfl rfl ?_; refine L_load rfl Try.one22 rfl (by first | exact hs.cell (i := 0) rfl rfl | exact hs.cell (i := 1) rfl rfl) ?_) | refine RL_skip rfl rfl rfl rfl ?_ | refine RL_skipU rfl rfl rfl ?_
    refine RL_skip rfl rfl rfl rfl ?_
    first | (refine RL_want rfl rfl ?_; refine L_not rfl rfl ?_) | refine RL_skip rfl rfl rfl rfl ?_ | refine RL_skipU rfl rfl rfl ?_
    first | refine L_pick_t rfl rfl rfl ?_ | refine L_pick_f rfl rfl rfl ?_
    refine RL_then ?_
    refine W_if_true rfl ?_
    refine W_seq ?_
    refine W_region ?_
    refine L_call rfl Try.fun11 rfl (wakesU hs) ?_
    rintro _ w1 ⟨rfl, hs'⟩
    refine L_assign rfl rfl ?_
    refine RL_then ?_
    refine W_ret' ?_
    refine Ex_then_ret ?_
    refine Ex_done1 rfl rfl ?_
    exact ⟨_, rfl, rfl, hs'.forget ho2⟩
  · refine L_not rfl rfl ?_
    refine L_move rfl rfl ?_
    first | (refine RL_want rfl rfl ?_; refine L_fieldAddr rfl (off := 0) Try.underlying45 rfl rfl Try.ti22 rfl ?_) | refine RL_skip rfl rfl rfl rfl ?_ | refine RL_skipU rfl rfl rfl ?_
    first | (refine RL_want rfl rfl ?_; refine L_load rfl Try.one22 rfl (by first | exact hs.cell (i := 0) rfl rfl | exact hs.cell (i := 1) rfl rfl) ?_) | refine RL_skip rfl rfl rfl rfl ?_ | refine RL_skipU rfl rfl rfl ?_
    first | (refine RL_want rfl rfl ?_; refine L_fieldAddr rfl (off := 2) Try.underlying45 rfl rfl Try.ti22 rfl ?_) | refine RL_skip rfl rfl rfl rfl ?_ | refine RL_skipU rfl rfl rfl ?_
    first | (refine RL_want rfl rfl ?_; refine L_load rfl Try.one22 rfl (by first | exact hs.cell (i := 0) rfl rfl | exact hs.cell (i := 1) rfl rfl) ?_) | refine RL_skip rfl rfl rfl rfl ?_ | refine RL_skipU rfl rfl rfl ?_
    refine RL_want rfl rfl ?_
    refine L_call rfl Try.fun24 rfl (plain_ok b.x b.xx hb.x _) ?_
    rintro _ _ ⟨rfl, rfl⟩
    cases h2 : plainB b.x b.xx
    · first | (refine RL_want rfl rfl ?_; refine L_not rfl rfl ?_) | refine RL_skip rfl rfl rfl rfl ?_ | refine RL_skipU rfl rfl rfl ?_
      first | refine L_pick_t rfl rfl rfl ?_ | refine L_pick_f rfl rfl rfl ?_
      refine L_move rfl rfl ?_
      first | (refine RL_want rfl rfl ?_; refine L_fieldAddr rfl (off := 1) Try.underlying45 rfl rfl Try.ti22 rfl ?_) | refine RL_skip rfl rfl rfl rfl ?_ | refine RL_skipU rfl rfl rfl ?_
      first | (refine RL_want rfl rfl ?_; refine L_load rfl Try.one22 rfl (by first | exact hs.cell (i := 0) rfl rfl | exact hs.cell (i := 1) rfl rfl) ?_) | refine RL_skip rfl rfl rfl rfl ?_ | refine RL_skipU rfl rfl rfl ?_
      first | (refine RL_want rfl rfl ?_; refine L_fieldAddr rfl (off := 4) Try.underlying45 rfl rfl Try.ti22 rfl ?_) | refine RL_skip rfl rfl rfl rfl ?_ | refine RL_skipU rfl rfl rfl ?_
      first | (refine RL_want rfl rfl ?_; refine L_load rfl Try.one22 rfl (by first | exact hs.cell (i := 0) rfl rfl | exact hs.cell (i := 1) rfl rfl) ?_) | refine RL_skip rfl rfl rfl rfl ?_ | refine RL_skipU rfl rfl rfl ?_
      refine RL_skip rfl rfl rfl rfl ?_
      first | (refine RL_want rfl rfl ?_; refine L_not rfl rfl ?_) | refine RL_skip rfl rfl rfl rfl ?_ | refine RL_skipU rfl rfl rfl ?_
      first | refine L_pick_t rfl rfl rfl ?_ | refine L_pick_f rfl rfl rfl ?_
      refine L_move rfl rfl ?_
      first | (refine RL_want rfl rfl ?_; refine L_fieldAddr rfl (off := 1) Try.underlying45 rfl rfl Try.ti22 rfl ?_) | refine RL_skip rfl rfl rfl rfl ?_ | refine RL_skipU rfl rfl rfl ?_
      first | (refine RL_want rfl rfl ?_; refine L_load rfl Try.one22 rfl (by first | exact hs.cell (i := 0) rfl rfl | exact hs.cell (i := 1) rfl rfl) ?_) | refine RL_skip rfl rfl rfl rfl ?_ | refine RL_skipU rfl rfl rfl ?_
      first | (refine RL_want rfl rfl ?_; refine L_fieldAddr rfl (off := 4) Try.underlying45 rfl rfl Try.ti22 rfl ?_) | refine RL_skip rfl rfl rfl rfl ?_ | refine RL_skipU rfl rfl rfl ?_
      first | (refine RL_want rfl rfl ?_; refine L_load rfl Try.one22 rfl (by first | exact hs.cell (i := 0) rfl rfl | exact hs.cell (i := 1) rfl rfl) ?_) | refine RL_skip rfl rfl rfl rfl ?_ | refine RL_skipU rfl rfl rfl ?_
      refine RL_skip rfl rfl rfl rfl ?_
      first | (refine RL_want rfl rfl ?_; refine L_not rfl rfl ?_) | refine RL_skip rfl rfl rfl rfl ?_ | refine RL_skipU rfl rfl rfl ?_
      first | refine L_pick_t rfl rfl rfl ?_ | refine L_pick_f rfl rfl rfl ?_
      refine RL_then ?_
      refine W_if_true rfl ?_
      refine W_seq ?_
      refine W_region ?_
      refine L_call rfl Try.fun11 rfl (wakesU hs) ?_
      rintro _ w1 ⟨rfl, hs'⟩
      refine L_assign rfl rfl ?_
      refine RL_then ?_
      refine W_ret' ?_
      refine Ex_then_ret ?_
      refine Ex_done1 rfl rfl ?_
      exact ⟨_, rfl, rfl, hs'.forget ho2⟩
    · first | (refine RL_want rfl rfl ?_; refine L_not rfl rfl ?_) | refine RL_skip rfl rfl rfl rfl ?_ | refine RL_skipU rfl rfl rfl ?_
      first | refine L_pick_t rfl rfl rfl ?_ | refine L_pick_f rfl rfl rfl ?_
      refine L_move rfl rfl ?_
      first | (refine RL_want rfl rfl ?_; refine L_fieldAddr rfl (off := 1) Try.underlying45 rfl rfl Try.ti22 rfl ?_) | refine RL_skip rfl rfl rfl rfl ?_ | refine RL_skipU rfl rfl rfl ?_
      first | (refine RL_want rfl rfl ?_; refine L_load rfl Try.one22 rfl (by first | exact hs.cell (i := 0) rfl rfl | exact hs.cell (i := 1) rfl rfl) ?_) | refine RL_skip rfl rfl rfl rfl ?_ | refine RL_skipU rfl rfl rfl ?_
      first | (refine RL_want rfl rfl ?_; refine L_fieldAddr rfl (off := 4) Try.underlying45 rfl rfl Try.ti22 rfl ?_) | refine RL_skip rfl rfl rfl rfl ?_ | refine RL_skipU rfl rfl rfl ?_
      first | (refine RL_want rfl rfl ?_; refine L_load rfl Try.one22 rfl (by first | exact hs.cell (i := 0) rfl rfl | exact hs.cell (i := 1) rfl rfl) ?_) | refine RL_skip rfl rfl rfl rfl ?_ | refine RL_skipU rfl rfl rfl ?_
      refine RL_want rfl rfl ?_
      refine L_call rfl Try.fun24 rfl (plain_ok a.v a.vv ha.v _) ?_
      rintro _ _ ⟨rfl, rfl⟩
      cases h3 : plainB a.v a.vv
      · first | (refine RL_want rfl rfl ?_; refine L_not rfl rfl ?_) | refine RL_skip rfl rfl rfl rfl ?_ | refine RL_skipU rfl rfl rfl ?_
        first | refine L_pick_t rfl rfl rfl ?_ | refine L_pick_f rfl rfl rfl ?_
        refine L_move rfl rfl ?_
        first | (refine RL_want rfl rfl ?_; refine L_fieldAddr rfl (off := 1) Try.underlying45 rfl rfl Try.ti22 rfl ?_) | refine RL_skip rfl rfl rfl rfl ?_ | refine RL_skipU rfl rfl rfl ?_
        first | (refine RL_want rfl rfl ?_; refine L_load rfl Try.one22 rfl (by first | exact hs.cell (i := 0) rfl rfl | exact hs.cell (i := 1) rfl rfl) ?_) | refine RL_skip rfl rfl rfl rfl ?_ | refine RL_skipU rfl rfl rfl ?_
        first | (refine RL_want rfl rfl ?_; refine L_fieldAddr rfl (off := 4) Try.underlying45 rfl rfl Try.ti22 rfl ?_) | refine RL_skip rfl rfl rfl rfl ?_ | refine RL_skipU rfl rfl rfl ?_
        first | (refine RL_want rfl rfl ?_; refine L_load rfl Try.one22 rfl (by first | exact hs.cell (i := 0) rfl rfl | exact hs.cell (i := 1) rfl rfl) ?_) | refine RL_skip rfl rfl rfl rfl ?_ | refine RL_skipU rfl rfl rfl ?_
        refine RL_skip rfl rfl rfl rfl ?_
        first | (refine RL_want rfl rfl ?_; refine L_not rfl rfl ?_) | refine RL_skip rfl rfl rfl rfl ?_ | refine RL_skipU rfl rfl rfl ?_
        first | refine L_pick_t rfl rfl rfl ?_ | refine L_pick_f rfl rfl rfl ?_
        refine RL_then ?_
        refine W_if_true rfl ?_
        refine W_seq ?_
        refine W_region ?_
        refine L_call rfl Try.fun11 rfl (wakesU hs) ?_
        rintro _ w1 ⟨rfl, hs'⟩
        refine L_assign rfl rfl ?_
        refine RL_then ?_
        refine W_ret' ?_
        refine Ex_then_ret ?_
        refine Ex_done1 rfl rfl ?_
        exact ⟨_, rfl, rfl, hs'.forget ho2⟩
      · first | (refine RL_want rfl rfl ?_; refine L_not rfl rfl ?_) | refine RL_skip rfl rfl rfl rfl ?_ | refine RL_skipU rfl rfl rfl ?_
        first | refine L_pick_t rfl rfl rfl ?_ | refine L_pick_f rfl rfl rfl ?_
        refine L_move rfl rfl ?_
        first | (refine RL_want rfl rfl ?_; refine L_fieldAddr rfl (off := 1) Try.underlying45 rfl rfl Try.ti22 rfl ?_) | refine RL_skip rfl rfl rfl rfl ?_ | refine RL_skipU rfl rfl rfl ?_
        first | (refine RL_want rfl rfl ?_; refine L_load rfl Try.one22 rfl (by first | exact hs.cell (i := 0) rfl rfl | exact hs.cell (i := 1) rfl rfl) ?_) | refine RL_skip rfl rfl rfl rfl ?_ | refine RL_skipU rfl rfl rfl ?_
        first | (refine RL_want rfl rfl ?_; refine L_fieldAddr rfl (off := 4) Try.underlying45 rfl rfl Try.ti22 rfl ?_) | refine RL_skip rfl rfl rfl rfl ?_ | refine RL_skipU rfl rfl rfl ?_
        first | (refine RL_want rfl rfl ?_; refine L_load rfl Try.one22 rfl (by first | exact hs.cell (i := 0) rfl rfl | exact hs.cell (i := 1) rfl rfl) ?_) | refine RL_skip rfl rfl rfl rfl ?_ | refine RL_skipU rfl rfl rfl ?_
        refine RL_want rfl rfl ?_
        refine L_call rfl Try.fun24 rfl (plain_ok b.v b.vv hb.v _) ?_
        rintro _ _ ⟨rfl, rfl⟩
        cases h4 : plainB b.v b.vv
        · first | (refine RL_want rfl rfl ?_; refine L_not rfl rfl ?_) | refine RL_skip rfl rfl rfl rfl ?_ | refine RL_skipU rfl rfl rfl ?_
          first | refine L_pick_t rfl rfl rfl ?_ | refine L_pick_f rfl rfl rfl ?_
          refine RL_then ?_
          refine W_if_true rfl ?_
          refine W_seq ?_
          refine W_region ?_
          refine L_call rfl Try.fun11 rfl (wakesU hs) ?_
          rintro _ w1 ⟨rfl, hs'⟩
          refine L_assign rfl rfl ?_
          refine RL_then ?_
          refine W_ret' ?_
          refine Ex_then_ret ?_
          refine Ex_done1 rfl rfl ?_
          exact ⟨_, rfl, rfl, hs'.forget ho2⟩
        · obtain ⟨⟨A, fa, hA⟩, ⟨P, fp, p1, p2⟩⟩ := plain_fv ha.x ha.xx h1
          obtain ⟨⟨B, fb, hB⟩, ⟨Q, fq, q1, q2⟩⟩ := plain_fv hb.x hb.xx h2
          obtain ⟨⟨C, fc', hC⟩, ⟨R, fr, r1, r2⟩⟩ := plain_fv ha.v ha.vv h3
          obtain ⟨⟨D, fd, hD⟩, ⟨S, fs, s1, s2⟩⟩ := plain_fv hb.v hb.vv h4
          have hBd := hi_bd
          first | (refine RL_want rfl rfl ?_; refine L_not rfl rfl ?_) | refine RL_skip rfl rfl rfl rfl ?_ | refine RL_skipU rfl rfl rfl ?_
          first | refine L_pick_t rfl rfl rfl ?_ | refine L_pick_f rfl rfl rfl ?_
          refine RL_then ?_
          refine W_if_false rfl ?_
          refine W_skip' ?_
          refine Nx_then ?_
          refine W_seq ?_
          refine W_region ?_
          refine L_loadA rfl Try.agg45 Try.ti45 rfl (by first | exact cellsAt_whole (cs := a.cells) (hs.get (i := 0) rfl) | exact cellsAt_whole (cs := b.cells) (hs.get (i := 1) rfl)) ?_
          refine L_loadA rfl Try.agg45 Try.ti45 rfl (by first | exact cellsAt_whole (cs := a.cells) (hs.get (i := 0) rfl) | exact cellsAt_whole (cs := b.cells) (hs.get (i := 1) rfl)) ?_
          refine L_call rfl Try.fun18 rfl (Both_ok a b _) ?_
          rintro _ w1 ⟨x, y, p, q, rfl, hs', hx, hp, hy, hq⟩
          replace hs := hs.nil hs'
          clear hs'
          obtain ⟨L1, O1, o1, x1, x2, x3, x4, x5, x6⟩ := x_part hx fa fb hA hB fp fq p1 p2 q1 q2
          obtain ⟨L2, O2, o2, y1, y2, y3, y4, y5, y6⟩ := x_part hy fc' fd hC hD fr fs r1 r2 s1 s2
          obtain ⟨L3, O3, o3, u1, u2, u3, u4, u5, u6⟩ := p_part hp fp fq p1 p2 q1 q2
          obtain ⟨L4, O4, o4, v1, v2, v3, v4, v5, v6⟩ := p_part hq fr fs r1 r2 s1 s2
          refine L_alloc rfl hs Try.ti45 ?_
          intro b5 w hb5 hnb5 hs
          try dsimp only [List.set_cons_succ, List.set_cons_zero, List.cons_append, List.nil_append] at hs
          refine L_storeA hs (i := 2) rfl Try.ti45 rfl rfl (by first | rfl | exact add_lit0 _ _ | exact Addr.add_lit .. | (rw [add_add]; exact add_lit0 _ _)) (by simp) (by first | (simp; done) | simp [Value.oneCell']) ?_
          intro w hs
          try dsimp only [List.set_cons_succ, List.set_cons_zero, List.cons_append, List.nil_append] at hs
          refine RL_then ?_
          refine W_seq ?_
          replace hs : HS w0 w [(b2, Row 45 a.cells), (b3, Row 45 b.cells), (b5, Row 45 [.float .f64 x, .float .f64 y, .float .f64 p, .float .f64 0, .float .f64 q])] := hs
          refine W_sg Try.mixed ?_
          replace hs := hs.drewN 1
          refine SG_stageB [0, 2, 4, 6, 9] [1, 3, 5, 7, 8, 10, 11, 12, 13, 14, 15] [] (noBk SPT) (g' := 0) (by kernel_rfl) (by kernel_rfl) (fun _ _ _ _ _ h => h) hs ?_
          refine PL_val rfl (fun w => R_fieldAddr (off := 0) Try.underlying45 rfl rfl Try.ti22 rfl) ?_
          refine PL_val rfl (fun w => R_fieldAddr (off := 0) Try.underlying45 rfl rfl Try.ti22 rfl) ?_
          refine PL_val rfl (fun w => R_fieldAddr (off := 0) Try.underlying45 rfl rfl Try.ti22 rfl) ?_
          refine PL_val rfl (fun w => R_fieldAddr (off := 0) Try.underlying45 rfl rfl Try.ti22 rfl) ?_
          refine PL_val rfl (fun w => R_fieldAddr (off := 0) Try.underlying45 rfl rfl Try.ti22 rfl) ?_
          refine PL_endB ?_
          refine HB_val rfl (fun w R hR hs => R_load Try.one22 rfl (by first | exact hs.cell (i := 0) rfl rfl | exact hs.cell (i := 1) rfl rfl | exact hs.cell (i := 2) rfl rfl)) ?_
          refine HB_val rfl (fun w R hR hs => R_load Try.one22 rfl (by first | exact hs.cell (i := 0) rfl rfl | exact hs.cell (i := 1) rfl rfl | exact hs.cell (i := 2) rfl rfl)) ?_
          refine HB_val rfl (fun w R hR hs => R_load Try.one22 rfl (by first | exact hs.cell (i := 0) rfl rfl | exact hs.cell (i := 1) rfl rfl | exact hs.cell (i := 2) rfl rfl)) ?_
          refine HB_val rfl (fun w R hR hs => R_load Try.one22 rfl (by first | exact hs.cell (i := 0) rfl rfl | exact hs.cell (i := 1) rfl rfl | exact hs.cell (i := 2) rfl rfl)) ?_
          refine HB_callH rfl Try.fun26 rfl (fun w R hR hs => absT hs a.x ha.x) ?_
          rintro _ rfl
          refine HB_val rfl (fun w R hR hs => R_load Try.one22 rfl (by first | exact hs.cell (i := 0) rfl rfl | exact hs.cell (i := 1) rfl rfl | exact hs.cell (i := 2) rfl rfl)) ?_
          refine HB_callH rfl Try.fun26 rfl (fun w R hR hs => absT hs b.x hb.x) ?_
          rintro _ rfl
          refine HB_val rfl (fun w R hR hs => R_maxF rfl rfl (by exact fa.abs.neq fb.abs)) ?_
          refine HB_farith rfl (op := .mul) rfl rfl rfl ?_
          intro r57 hr57
          obtain rfl := fs_val hr57 x2
          refine HB_callH rfl Try.fun25 rfl (fun w R hR hs => betweenT hs _ _ _ _ L1 A B O1 x1 fa fb x3 x4 x5 (by omega) (by omega) x6) ?_
          rintro _ rfl
          refine HB_val rfl (fun w R hR hs => R_assign rfl) ?_
          refine HB_tail ?_
          intro w hs
          refine RL_sg ?_
          refine SG_end (by kernel_rfl) ?_
          refine Nx_then ?_
          refine W_seq ?_
          rw [List.append_nil] at hs
          refine W_sg Try.mixed ?_
          replace hs := hs.drewN 1
          refine SG_stageB [0, 2, 4, 6, 9] [1, 3, 5, 7, 8, 10, 11, 12, 13, 14, 15] [] (noBk SPT) (g' := 0) (by kernel_rfl) (by kernel_rfl) (fun _ _ _ _ _ h => h) hs ?_
          refine PL_val rfl (fun w => R_fieldAddr (off := 1) Try.underlying45 rfl rfl Try.ti22 rfl) ?_
          refine PL_val rfl (fun w => R_fieldAddr (off := 1) Try.underlying45 rfl rfl Try.ti22 rfl) ?_
          refine PL_val rfl (fun w => R_fieldAddr (off := 1) Try.underlying45 rfl rfl Try.ti22 rfl) ?_
          refine PL_val rfl (fun w => R_fieldAddr (off := 1) Try.underlying45 rfl rfl Try.ti22 rfl) ?_
          refine PL_val rfl (fun w => R_fieldAddr (off := 1) Try.underlying45 rfl rfl Try.ti22 rfl) ?_
          refine PL_endB ?_
          refine HB_val rfl (fun w R hR hs => R_load Try.one22 rfl (by first | exact hs.cell (i := 0) rfl rfl | exact hs.cell (i := 1) rfl rfl | exact hs.cell (i := 2) rfl rfl)) ?_
          refine HB_val rfl (fun w R hR hs => R_load Try.one22 rfl (by first | exact hs.cell (i := 0) rfl rfl | exact hs.cell (i := 1) rfl rfl | exact hs.cell (i := 2) rfl rfl)) ?_
          refine HB_val rfl (fun w R hR hs => R_load Try.one22 rfl (by first | exact hs.cell (i := 0) rfl rfl | exact hs.cell (i := 1) rfl rfl | exact hs.cell (i := 2) rfl rfl)) ?_
          refine HB_val rfl (fun w R hR hs => R_load Try.one22 rfl (by first | exact hs.cell (i := 0) rfl rfl | exact hs.cell (i := 1) rfl rfl | exact hs.cell (i := 2) rfl rfl)) ?_
          refine HB_callH rfl Try.fun26 rfl (fun w R hR hs => absT hs a.v ha.v) ?_
          rintro _ rfl
          refine HB_val rfl (fun w R hR hs => R_load Try.one22 rfl (by first | exact hs.cell (i := 0) rfl rfl | exact hs.cell (i := 1) rfl rfl | exact hs.cell (i := 2) rfl rfl)) ?_
          refine HB_callH rfl Try.fun26 rfl (fun w R hR hs => absT hs b.v hb.v) ?_
          rintro _ rfl
          refine HB_val rfl (fun w R hR hs => R_maxF rfl rfl (by exact fc'.abs.neq fd.abs)) ?_
          refine HB_farith rfl (op := .mul) rfl rfl rfl ?_
          intro r72 hr72
          obtain rfl := fs_val hr72 y2
          refine HB_callH rfl Try.fun25 rfl (fun w R hR hs => betweenT hs _ _ _ _ L2 C D O2 y1 fc' fd y3 y4 y5 (by omega) (by omega) y6) ?_
          rintro _ rfl
          refine HB_val rfl (fun w R hR hs => R_assign rfl) ?_
          refine HB_tail ?_
          intro w hs
          refine RL_sg ?_
          refine SG_end (by kernel_rfl) ?_
          refine Nx_then ?_
          refine W_seq ?_
          refine W_region ?_
          rw [List.append_nil] at hs
          refine L_fieldAddr rfl (off := 2) Try.underlying45 rfl rfl Try.ti22 rfl ?_
          refine L_load rfl Try.one22 rfl (by first | exact hs.cell (i := 0) rfl rfl | exact hs.cell (i := 1) rfl rfl | exact hs.cell (i := 2) rfl rfl) ?_
          refine L_fieldAddr rfl (off := 2) Try.underlying45 rfl rfl Try.ti22 rfl ?_
          refine L_load rfl Try.one22 rfl (by first | exact hs.cell (i := 0) rfl rfl | exact hs.cell (i := 1) rfl rfl | exact hs.cell (i := 2) rfl rfl) ?_
          refine L_fieldAddr rfl (off := 2) Try.underlying45 rfl rfl Try.ti22 rfl ?_
          refine L_load rfl Try.one22 rfl (by first | exact hs.cell (i := 0) rfl rfl | exact hs.cell (i := 1) rfl rfl | exact hs.cell (i := 2) rfl rfl) ?_
          refine L_fieldAddr rfl (off := 2) Try.underlying45 rfl rfl Try.ti22 rfl ?_
          refine L_load rfl Try.one22 rfl (by first | exact hs.cell (i := 0) rfl rfl | exact hs.cell (i := 1) rfl rfl | exact hs.cell (i := 2) rfl rfl) ?_
          refine L_fieldAddr rfl (off := 2) Try.underlying45 rfl rfl Try.ti22 rfl ?_
          refine L_load rfl Try.one22 rfl (by first | exact hs.cell (i := 0) rfl rfl | exact hs.cell (i := 1) rfl rfl | exact hs.cell (i := 2) rfl rfl) ?_
          refine RL_val rfl (R_maxF rfl rfl (by exact fp.neq fq)) ?_
          refine L_farith rfl (op := .mul) rfl rfl rfl ?_
          intro r85 k85 hr85
          try replace hs := hs.drewN k85
          obtain rfl := fs_val hr85 u2
          refine L_call rfl Try.fun25 rfl (between_ok _ _ _ _ L3 P Q O3 u1 fp fq u3 u4 u5 (by omega) (by omega) u6 _) ?_
          rintro _ w1 ⟨rfl, hs'⟩
          replace hs := hs.nil hs'
          clear hs'
          refine L_assign rfl rfl ?_
          refine RL_then ?_
          refine W_seq ?_
          refine W_region ?_
          refine L_fieldAddr rfl (off := 4) Try.underlying45 rfl rfl Try.ti22 rfl ?_
          refine L_load rfl Try.one22 rfl (by first | exact hs.cell (i := 0) rfl rfl | exact hs.cell (i := 1) rfl rfl | exact hs.cell (i := 2) rfl rfl) ?_
          refine L_fieldAddr rfl (off := 4) Try.underlying45 rfl rfl Try.ti22 rfl ?_
          refine L_load rfl Try.one22 rfl (by first | exact hs.cell (i := 0) rfl rfl | exact hs.cell (i := 1) rfl rfl | exact hs.cell (i := 2) rfl rfl) ?_
          refine L_fieldAddr rfl (off := 4) Try.underlying45 rfl rfl Try.ti22 rfl ?_
          refine L_load rfl Try.one22 rfl (by first | exact hs.cell (i := 0) rfl rfl | exact hs.cell (i := 1) rfl rfl | exact hs.cell (i := 2) rfl rfl) ?_
          refine L_fieldAddr rfl (off := 4) Try.underlying45 rfl rfl Try.ti22 rfl ?_
          refine L_load rfl Try.one22 rfl (by first | exact hs.cell (i := 0) rfl rfl | exact hs.cell (i := 1) rfl rfl | exact hs.cell (i := 2) rfl rfl) ?_
          refine L_fieldAddr rfl (off := 4) Try.underlying45 rfl rfl Try.ti22 rfl ?_
          refine L_load rfl Try.one22 rfl (by first | exact hs.cell (i := 0) rfl rfl | exact hs.cell (i := 1) rfl rfl | exact hs.cell (i := 2) rfl rfl) ?_
          refine RL_val rfl (R_maxF rfl rfl (by exact fr.neq fs)) ?_
          refine L_farith rfl (op := .mul) rfl rfl rfl ?_
          intro r98 k98 hr98
          try replace hs := hs.drewN k98
          obtain rfl := fs_val hr98 v2
          refine L_call rfl Try.fun25 rfl (between_ok _ _ _ _ L4 R S O4 v1 fr fs v3 v4 v5 (by omega) (by omega) v6 _) ?_
          rintro _ w1 ⟨rfl, hs'⟩
          replace hs := hs.nil hs'
          clear hs'
          refine L_assign rfl rfl ?_
          refine RL_then ?_
          refine W_seq ?_
          refine W_region ?_
          refine L_move rfl rfl ?_
          refine L_move rfl rfl ?_
          first | (refine RL_want rfl rfl ?_; refine L_move rfl rfl ?_) | refine RL_skip rfl rfl rfl rfl ?_ | refine RL_skipU rfl rfl rfl ?_
          first | refine L_pick_t rfl rfl rfl ?_ | refine L_pick_f rfl rfl rfl ?_
          refine L_move rfl rfl ?_
          first | (refine RL_want rfl rfl ?_; refine L_move rfl rfl ?_) | refine RL_skip rfl rfl rfl rfl ?_ | refine RL_skipU rfl rfl rfl ?_
          first | refine L_pick_t rfl rfl rfl ?_ | refine L_pick_f rfl rfl rfl ?_
          refine L_move rfl rfl ?_
          first | (refine RL_want rfl rfl ?_; refine L_move rfl rfl ?_) | refine RL_skip rfl rfl rfl rfl ?_ | refine RL_skipU rfl rfl rfl ?_
          first | refine L_pick_t rfl rfl rfl ?_ | refine L_pick_f rfl rfl rfl ?_
          refine L_move rfl rfl ?_
          first | (refine RL_want rfl rfl ?_; refine L_fieldAddr rfl (off := 3) Try.underlying45 rfl rfl Try.ti22 rfl ?_) | refine RL_skip rfl rfl rfl rfl ?_ | refine RL_skipU rfl rfl rfl ?_
          first | (refine RL_want rfl rfl ?_; refine L_load rfl Try.one22 rfl (by first | exact hs.cell (i := 0) rfl rfl | exact hs.cell (i := 1) rfl rfl | exact hs.cell (i := 2) rfl rfl) ?_) | refine RL_skip rfl rfl rfl rfl ?_ | refine RL_skipU rfl rfl rfl ?_
          first | (refine RL_want rfl rfl ?_; refine RL_val rfl (R_f64bits Try.ext27 rfl) ?_) | refine RL_skip rfl rfl rfl rfl ?_ | refine RL_skipU rfl rfl rfl ?_
          first | (refine RL_want rfl rfl ?_; (first | refine L_eql rfl rfl rfl (dtrue (by omega)) ?_ | refine L_eql rfl rfl rfl (dfalse (by omega)) ?_ | refine L_eql rfl rfl rfl rfl ?_)) | refine RL_skip rfl rfl rfl rfl ?_ | refine RL_skipU rfl rfl rfl ?_
          first | refine L_pick_t rfl rfl rfl ?_ | refine L_pick_f rfl rfl rfl ?_
          refine L_move rfl rfl ?_
          refine RL_want rfl rfl ?_
          refine L_call rfl Try.fun11 rfl (wakesU hs) ?_
          rintro _ w1 ⟨rfl, hs'⟩
          first | refine L_pick_t rfl rfl rfl ?_ | refine L_pick_f rfl rfl rfl ?_
          refine L_assign rfl rfl ?_
          refine RL_then ?_
          refine W_ret' ?_
          refine Ex_done1 rfl rfl ?_
          exact ⟨_, rfl, rfl, hs'.forget (Own.cons hb2 (Own.cons hb3 (Own.cons hb5 Own.nil)))⟩
end Go.Proofs.Ytknpoemkmcdgcaa
