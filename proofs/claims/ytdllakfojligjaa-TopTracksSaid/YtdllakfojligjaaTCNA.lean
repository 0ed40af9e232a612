/-
  A part of the proof: what functions that the statement reaches do, or a plain law on what they do. Each theorem holds under its own premises alone.
-/
import Derived.Test.YtdllakfojligjaaTCB10
import Derived.Test.YtdllakfojligjaaKitY
namespace Go.Proofs.Ytdllakfojligjaa
open Go Go.Lk
/-! ### Whether floats are finite -/
def nanB (x : Nat) : Bool := FloatKind.f64.format.order x x != some .eq
def infB (x : Nat) : Bool := FloatKind.f64.format.order (x % 9223372036854775808) 9218868437227405311 == some .gt
def finB (x : Nat) : Bool := !nanB x && !infB x
theorem isnanB_ok (x : Nat) (w : World) : Ret Try.prog 31 [.float .f64 x] w fun v w' => v = .bool (nanB x) ∧ w' = w := by
 refine calls_of_W Try.func31 rfl rfl rfl ?_
 refine W_seq ?_
 refine W_region ?_
 refine L_assign rfl rfl ?_
 refine RL_then ?_
 refine W_seq ?_
 refine W_region ?_
 refine L_move rfl rfl ?_
 refine L_move rfl rfl ?_
 refine L_fcmp rfl rfl rfl (fun _ => by rw [binOp_float_cmp_neq]; rfl) ?_
 refine L_assign rfl rfl ?_
 refine RL_then ?_
 refine W_ret' ?_
 refine Ex_done1 rfl rfl ?_
 exact ⟨_, rfl, rfl, rfl⟩
theorem isinfB_ok (x : Nat) (hx : x < 18446744073709551616) (w : World) : Ret Try.prog 32 [.float .f64 x, .int .i64 0] w fun v w' => v = .bool (infB x) ∧ w' = w := by
 refine calls_of_W Try.func32 rfl rfl rfl ?_
 refine W_seq ?_
 refine W_region ?_
 refine L_assign rfl rfl ?_
 refine RL_then ?_
 refine W_seq ?_
 refine W_seq ?_
 refine W_region ?_
 refine L_move rfl rfl ?_
 first | refine L_eql rfl rfl rfl (dtrue (by omega)) ?_ | refine L_eql rfl rfl rfl (dfalse (by omega)) ?_ | refine L_eql rfl rfl rfl rfl ?_
 refine RL_then ?_
 refine W_if_true rfl ?_
 refine W_region ?_
 refine L_move rfl rfl ?_
 refine L_call rfl Try.fun30 rfl (abs_ok x hx w) ?_
 rintro _ w ⟨rfl, rfl⟩
 refine L_assign rfl rfl ?_
 refine RL_then ?_
 refine W_seq ?_
 refine W_region ?_
 refine L_move rfl rfl ?_
 refine L_fcmp rfl rfl rfl (fun _ => by rw [binOp_float_cmp_gtr]; rfl) ?_
 refine L_assign rfl rfl ?_
 refine RL_then ?_
 refine W_ret' ?_
 refine Ex_done1 rfl rfl ?_
 exact ⟨_, rfl, rfl, rfl⟩
theorem notfin_ok (x : Nat) (hx : x < 18446744073709551616) (w : World) : Ret Try.prog 65 [.float .f64 x] w fun v w' => v = .bool (!finB x) ∧ w' = w := by
 refine calls_of_W Try.func65 rfl rfl rfl ?_
 refine W_seq ?_
 refine W_region ?_
 refine L_assign rfl rfl ?_
 refine RL_then ?_
 refine W_seq ?_
 refine W_region ?_
 refine L_move rfl rfl ?_
 refine L_call rfl Try.fun31 rfl (isnanB_ok x w) ?_
 rintro _ w ⟨rfl, rfl⟩
 cases hn : nanB x
 ·
  refine L_move rfl rfl ?_
  first | (refine RL_want rfl rfl ?_; refine L_move rfl rfl ?_) | refine RL_skip rfl rfl rfl rfl ?_ | refine RL_skipU rfl rfl rfl ?_
  refine RL_want rfl rfl ?_
  refine L_call rfl Try.fun32 rfl (isinfB_ok x hx w) ?_
  rintro _ w ⟨rfl, rfl⟩
  first | refine L_pick_t rfl rfl rfl ?_ | refine L_pick_f rfl rfl rfl ?_
  refine L_assign rfl rfl ?_
  refine RL_then ?_
  refine W_ret' ?_
  refine Ex_done1 rfl rfl ?_
  exact ⟨_, rfl, by simp [finB, hn], rfl⟩
 ·
  refine L_move rfl rfl ?_
  first | (refine RL_want rfl rfl ?_; refine L_move rfl rfl ?_) | refine RL_skip rfl rfl rfl rfl ?_ | refine RL_skipU rfl rfl rfl ?_
  refine RL_skip rfl rfl rfl rfl ?_
  first | refine L_pick_t rfl rfl rfl ?_ | refine L_pick_f rfl rfl rfl ?_
  refine L_assign rfl rfl ?_
  refine RL_then ?_
  refine W_ret' ?_
  refine Ex_done1 rfl rfl ?_
  exact ⟨_, rfl, by simp [finB, hn], rfl⟩
/-- the first that is not, or none -/
def Found (p : Nat → Prop) (k : Nat) (j : Int) : Prop := (∃ i, i < k ∧ j = (i : Int) ∧ p i ∧ ∀ q, q < i → ¬ p q) ∨ (j = -1 ∧ ∀ q, q < k → ¬ p q)
theorem index_ok (a : Option Addr) (k c : Nat) (xs : List Nat) (w0 : World) (hx : SlC w0 a (fl xs)) (hk : xs.length = k) (hk2 : k ≤ 1000000) (hlt : ∀ i, i < k → xs.getD i 0 < 18446744073709551616) :
  Ret Try.prog 80 [.slice a k c, .func (.func 65) #[] #[]] w0 fun v w' => ∃ j, v = .int .i64 j ∧ HS w0 w' [] ∧ Found (fun i => finB (xs.getD i 0) = false) k j := by
 refine Ret.start fun w hs => ?_
 refine calls_of_W Try.func80 rfl rfl rfl ?_
 refine W_seq ?_
 refine W_region ?_
 refine L_assign rfl rfl ?_
 refine RL_then ?_
 refine W_seq ?_
 refine W_seq ?_
 refine W_region ?_
 refine L_move rfl rfl ?_
 refine L_len rfl Try.underlying79 rfl ?_
 refine L_move rfl rfl ?_
 refine RL_then ?_
 refine W_block ?_
 refine W_loop2 (fun (i : Nat) (w : World) => [(0, .slice a k c), (1, .func (.func 65) #[] #[]), (7, .int .i64 k), (8, .int .i64 i)]) (fun (i : Nat) (w : World) => w) (fun (i : Nat) (w : World) => (i ≤ k) ∧ (∀ q, q < i → finB (xs.getD q 0) = true) ∧ (HS w0 w [])) (fun (i : Nat) (w : World) => k - i) (0) (w) (is := [0, 1, 7, 8]) rfl rfl ?_ ?_
 ·
  exact ⟨Nat.zero_le _, fun _ h => absurd h (Nat.not_lt_zero _), hs⟩
 ·
  clear hs
  intro i w hI
  show W _ _ _ _ [(0, .slice a k c), (1, .func (.func 65) #[] #[]), (7, .int .i64 k), (8, .int .i64 i)] w
  obtain ⟨hi, hq, hs⟩ := hI
  by_cases hlt2 : i < k
  ·
   refine W_seq ?_
   refine W_region ?_
   first | refine L_lss rfl rfl rfl (dtrue (by omega)) ?_ | refine L_lss rfl rfl rfl (dfalse (by omega)) ?_ | refine L_lss rfl rfl rfl rfl ?_
   refine RL_then ?_
   refine W_seq ?_
   refine W_if_true rfl ?_
   refine W_skip' ?_
   refine Nx_then ?_
   refine W_seq ?_
   refine W_block ?_
   refine W_seq ?_
   refine W_region ?_
   refine L_move rfl rfl ?_
   refine L_assign rfl rfl ?_
   refine RL_then ?_
   refine W_seq ?_
   refine W_region ?_
   refine L_move rfl rfl ?_
   refine L_move rfl rfl ?_
   refine L_move rfl rfl ?_
   refine L_idx1 rfl Try.underlying79 Try.ti23 rfl rfl (by with_reducible first | exact natc_k _ | exact natc_a1 _ | exact natc_0 | exact natc_1 | exact natc_2 | exact natc_s1 _ (by omega) | exact natc_a2 _ | exact natc_add _ _ | exact natc_mul _ _ | exact natc (by omega)) (by omega) (hx.ao (by rw [fl_length]; omega)) ?_
   refine L_load rfl Try.one23 rfl (by exact (hx.old hs Own.nil).get (fl_get (by omega))) ?_
   refine L_callV rfl Try.fun65 rfl rfl (notfin_ok (xs.getD i 0) (hlt i hlt2) w) ?_
   rintro _ w' ⟨rfl, rfl⟩
   cases hf : finB (xs.getD i 0)
   ·
    refine RL_then ?_
    refine W_if_true rfl ?_
    refine W_seq ?_
    refine W_region ?_
    refine L_move rfl rfl ?_
    refine L_assign rfl rfl ?_
    refine RL_then ?_
    refine W_ret' ?_
    refine Ex_block_ret ?_
    refine Ex_then_ret ?_
    refine Ex_loop_ret ?_
    refine Ex_block_ret ?_
    refine Ex_then_ret ?_
    refine Ex_done1 rfl rfl ?_
    exact ⟨_, rfl, _, rfl, hs, .inl ⟨i, hlt2, rfl, hf, fun q hqi h => by have h := h.symm.trans (hq q hqi); cases h⟩⟩
   ·
    refine RL_then ?_
    refine W_if_false rfl ?_
    refine W_skip' ?_
    refine Nx_block ?_
    refine Nx_then ?_
    refine W_region ?_
    first | refine L_add rfl rfl rfl (wrp_i64 (by omega)) ?_ | refine L_add rfl rfl rfl rfl ?_
    refine L_move rfl rfl ?_
    refine RL_nil' ?_
    refine Nx_loopP (i + 1, _) (is := [0, 1, 7, 8]) (I' := (fun (i : Nat) (w : World) => (i ≤ k) ∧ (∀ q, q < i → finB (xs.getD q 0) = true) ∧ (HS w0 w [])) (i + 1) (_)) rfl rfl rfl ?_ ?_
    ·
     refine ⟨by omega, fun q hq2 => ?_, hs⟩
     by_cases hqi : q = i
     ·
      rw [hqi]; exact hf
     ·
      exact hq q (by omega)
    ·
     omega
  ·
   obtain rfl : k = i := by omega
   refine W_seq ?_
   refine W_region ?_
   first | refine L_lss rfl rfl rfl (dtrue (by omega)) ?_ | refine L_lss rfl rfl rfl (dfalse (by omega)) ?_ | refine L_lss rfl rfl rfl rfl ?_
   refine RL_then ?_
   refine W_seq ?_
   refine W_if_false rfl ?_
   refine W_exit' ?_
   refine Ex_then_exit ?_
   refine Ex_loop_exit ?_
   refine Ex_block_hit ?_
   refine Nx_then ?_
   refine W_seq ?_
   refine W_region ?_
   refine L_assign rfl rfl ?_
   refine RL_then ?_
   refine W_ret' ?_
   refine Ex_done1 rfl rfl ?_
   exact ⟨_, rfl, _, rfl, hs, .inr ⟨rfl, fun q hq2 h => by have h := h.symm.trans (hq q hq2); cases h⟩⟩
theorem contains_ok (a : Option Addr) (k c : Nat) (xs : List Nat) (w0 : World) (hx : SlC w0 a (fl xs)) (hk : xs.length = k) (hk2 : k ≤ 1000000) (hlt : ∀ i, i < k → xs.getD i 0 < 18446744073709551616) :
  Ret Try.prog 64 [.slice a k c, .func (.func 65) #[] #[]] w0 fun v w' => ∃ b, v = .bool b ∧ HS w0 w' [] ∧ (b = true ↔ ∃ i, i < k ∧ finB (xs.getD i 0) = false) := by
 refine Ret.start fun w hs => ?_
 refine calls_of_W Try.func64 rfl rfl rfl ?_
 refine W_seq ?_
 refine W_region ?_
 refine L_assign rfl rfl ?_
 refine RL_then ?_
 refine W_seq ?_
 refine W_region ?_
 refine L_move rfl rfl ?_
 refine L_move rfl rfl ?_
 refine L_call rfl Try.fun80 rfl (index_ok a k c xs w (hx.old hs Own.nil) hk hk2 hlt) ?_
 rintro _ w1 ⟨j, rfl, hs', hF⟩
 replace hs := hs.nil hs'
 rcases hF with ⟨i, hi, rfl, hp, _⟩ | ⟨rfl, hn⟩
 ·
  first | refine L_geq rfl rfl rfl (dtrue (by omega)) ?_ | refine L_geq rfl rfl rfl (dfalse (by omega)) ?_ | refine L_geq rfl rfl rfl rfl ?_
  refine L_assign rfl rfl ?_
  refine RL_then ?_
  refine W_ret' ?_
  refine Ex_done1 rfl rfl ?_
  exact ⟨_, rfl, _, rfl, hs, ⟨fun _ => ⟨i, hi, hp⟩, fun _ => rfl⟩⟩
 ·
  first | refine L_geq rfl rfl rfl (dtrue (by omega)) ?_ | refine L_geq rfl rfl rfl (dfalse (by omega)) ?_ | refine L_geq rfl rfl rfl rfl ?_
  refine L_assign rfl rfl ?_
  refine RL_then ?_
  refine W_ret' ?_
  refine Ex_done1 rfl rfl ?_
  exact ⟨_, rfl, _, rfl, hs, ⟨fun h => by simp at h, fun ⟨i, hi, h⟩ => absurd h (hn i hi)⟩⟩
theorem finite_ok (a : Option Addr) (k c : Nat) (xs : List Nat) (w0 : World) (hx : SlC w0 a (fl xs)) (hk : xs.length = k) (hk2 : k ≤ 1000000) (hlt : ∀ i, i < k → xs.getD i 0 < 18446744073709551616) :
  Ret Try.prog 34 [.slice a k c] w0 fun v w' => v = .bool (xs.all finB) ∧ HS w0 w' [] := by
 refine Ret.start fun w hs => ?_
 refine calls_of_W Try.func34 rfl rfl rfl ?_
 refine W_seq ?_
 refine W_region ?_
 refine L_assign rfl rfl ?_
 refine RL_then ?_
 refine W_seq ?_
 refine W_region ?_
 refine L_move rfl rfl ?_
 refine L_call rfl Try.fun64 rfl (contains_ok a k c xs w (hx.old hs Own.nil) hk hk2 hlt) ?_
 rintro _ w1 ⟨b, rfl, hs', hb⟩
 replace hs := hs.nil hs'
 refine L_not rfl rfl ?_
 refine L_assign rfl rfl ?_
 refine RL_then ?_
 refine W_ret' ?_
 refine Ex_done1 rfl rfl ?_
 refine ⟨_, rfl, ?_, hs⟩
 congr 1
 rw [Bool.eq_iff_iff, List.all_eq_true]
 rw [Bool.not_eq_true', ← Bool.not_eq_true, hb]
 constructor
 ·
  intro h x hx'
  obtain ⟨i, hi, rfl⟩ := List.getElem_of_mem hx'
  have : finB (xs.getD i 0) = true := by
   cases hf : finB (xs.getD i 0) with
   | true => rfl
   | false => exact absurd ⟨i, by omega, hf⟩ h
  rw [List.getD_eq_getElem?_getD, List.getElem?_eq_getElem hi] at this
  exact this
 ·
  rintro h ⟨i, hi, hf⟩
  have := h (xs.getD i 0) (by rw [List.getD_eq_getElem?_getD, List.getElem?_eq_getElem (by omega)]; exact List.getElem_mem _)
  rw [this] at hf; cases hf
end Go.Proofs.Ytdllakfojligjaa
