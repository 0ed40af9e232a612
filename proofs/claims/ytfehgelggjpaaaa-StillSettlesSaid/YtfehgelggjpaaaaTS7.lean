/-
  A part of the proof: what functions that the statement reaches do, or a plain law on what they do. Each theorem holds under its own premises alone.
-/
import Derived.Test.YtfehgelggjpaaaaTS7a
import Derived.Test.YtfehgelggjpaaaaTM5
import Derived.Test.YtfehgelggjpaaaaKit
import Derived.Test.YtfehgelggjpaaaaTQ10
namespace Go.Proofs.Ytfehgelggjpaaaa
open Go Go.Lk
theorem fcells_slA {w : World} {a : Option Addr} {xs : List Nat} {i c : Nat} (h : SlC w a (fl xs)) (hi : i < xs.length) (hc : i + 1 ≤ c) : SlC w (slA a i c 1) (fl [xs.getD i 0]) := by
  have ha := h.ao (by simp; omega)
  have e : slA a i c 1 = some ((aD a).add i) := by
    unfold slA
    rw [if_neg (by omega), ha, Nat.mul_one]; rfl
  rw [e]
  refine ⟨fun _ => rfl, fun j v hv => ?_⟩
  match j, hv with
  | 0, hv =>
    have hv' : some (Value.float .f64 (xs.getD i 0)) = some v := hv
    cases hv'
    have h1 := h.get (fl_get hi)
    show w.cell? (((aD a).add i).add 0) = _
    rw [Addr.add_zero']; exact h1
theorem Fs_eq {op : BinOp} {x y r z : Nat} (hr : floatBits op .f64 x y = some r) (hz : Fs op x y z) : z = r := by
  rcases hz with hz | ⟨hz, _⟩
  · rw [hr] at hz; cases hz; rfl
  · rw [hr] at hz; cases hz
theorem settles_bad (s : Nat) (a : Option Addr) (c : Nat) (xs : List Nat) (w0 : World) (hsh : shOk s = false) :
    Ret Try.prog 7 [.float .f64 s, .slice a xs.length c] w0 fun v w' => v = .bool true ∧ HS w0 w' [] := by
  refine Ret.start fun w hs => ?_
  have h2 := hsh
  unfold shOk at h2
  refine calls_of_W Try.func7 rfl rfl rfl ?_
  refine W_seq ?_
  refine W_region ?_
  refine L_assign rfl rfl ?_
  refine RL_then ?_
  refine W_seq ?_
  refine W_region ?_
  refine L_move rfl rfl ?_
  refine L_call rfl Try.fun13 rfl (new_bad 1 s w (.inr hsh)) ?_
  rintro _ w1 ⟨rfl, rfl⟩
  refine L_move rfl rfl ?_
  refine L_extract rfl rfl rfl ?_
  refine L_extract rfl rfl rfl ?_
  refine L_assign rfl rfl ?_
  refine L_assign rfl rfl ?_
  refine RL_then ?_
  refine W_seq ?_
  refine W_seq ?_
  refine W_region ?_
  refine L_move rfl rfl ?_
  first | refine L_neq rfl rfl rfl (dtrue (by omega)) ?_ | refine L_neq rfl rfl rfl (dfalse (by omega)) ?_ | refine L_neq rfl rfl rfl rfl ?_
  refine L_move rfl rfl ?_
  first | (refine RL_want rfl rfl ?_; refine L_move rfl rfl ?_) | refine RL_skip rfl rfl rfl rfl ?_ | refine RL_skipU rfl rfl rfl ?_
  first | (refine RL_want rfl rfl ?_; refine L_ptrNil rfl Try.underlying40 rfl rfl ?_) | refine RL_skip rfl rfl rfl rfl ?_ | refine RL_skipU rfl rfl rfl ?_
  first | refine L_pick_t rfl rfl rfl ?_ | refine L_pick_f rfl rfl rfl ?_
  refine RL_then ?_
  refine W_if_true rfl ?_
  refine W_seq ?_
  refine W_region ?_
  refine L_move rfl rfl ?_
  refine L_fcmp rfl rfl rfl (fun _ => by rw [binOp_float_cmp_geq]; rfl) ?_
  refine L_not rfl rfl ?_
  cases hc : (FloatKind.f64.format.order s 0 == some .gt || FloatKind.f64.format.order s 0 == some .eq)
  · refine L_move rfl rfl ?_
    first | (refine RL_want rfl rfl ?_; refine L_move rfl rfl ?_) | refine RL_skip rfl rfl rfl rfl ?_ | refine RL_skipU rfl rfl rfl ?_
    first | (refine RL_want rfl rfl ?_; refine L_fcmp rfl rfl rfl (fun _ => by rw [binOp_float_cmp_leq]; rfl) ?_) | refine RL_skip rfl rfl rfl rfl ?_ | refine RL_skipU rfl rfl rfl ?_
    first | (refine RL_want rfl rfl ?_; refine L_not rfl rfl ?_) | refine RL_skip rfl rfl rfl rfl ?_ | refine RL_skipU rfl rfl rfl ?_
    first | refine L_pick_t rfl rfl rfl ?_ | refine L_pick_f rfl rfl rfl ?_
    refine L_move rfl rfl ?_
    refine RL_want rfl rfl ?_
    refine L_call rfl Try.fun10 rfl (wakes_ok w1) ?_
    rintro _ w' ⟨rfl, hs'⟩
    replace hs := hs.nil hs'
    first | refine L_pick_t rfl rfl rfl ?_ | refine L_pick_f rfl rfl rfl ?_
    refine L_assign rfl rfl ?_
    refine RL_then ?_
    refine W_ret' ?_
    refine Ex_then_ret ?_
    refine Ex_done1 rfl rfl ?_
    exact ⟨_, rfl, rfl, hs⟩
  · rw [hc, Bool.true_and] at h2
    refine L_move rfl rfl ?_
    first | (refine RL_want rfl rfl ?_; refine L_move rfl rfl ?_) | refine RL_skip rfl rfl rfl rfl ?_ | refine RL_skipU rfl rfl rfl ?_
    first | (refine RL_want rfl rfl ?_; refine L_fcmp rfl rfl rfl (fun _ => by rw [binOp_float_cmp_leq]; rfl) ?_) | refine RL_skip rfl rfl rfl rfl ?_ | refine RL_skipU rfl rfl rfl ?_
    rw [h2]
    first | (refine RL_want rfl rfl ?_; refine L_not rfl rfl ?_) | refine RL_skip rfl rfl rfl rfl ?_ | refine RL_skipU rfl rfl rfl ?_
    first | refine L_pick_t rfl rfl rfl ?_ | refine L_pick_f rfl rfl rfl ?_
    refine L_move rfl rfl ?_
    refine RL_want rfl rfl ?_
    refine L_call rfl Try.fun10 rfl (wakes_ok w1) ?_
    rintro _ w' ⟨rfl, hs'⟩
    replace hs := hs.nil hs'
    first | refine L_pick_t rfl rfl rfl ?_ | refine L_pick_f rfl rfl rfl ?_
    refine L_assign rfl rfl ?_
    refine RL_then ?_
    refine W_ret' ?_
    refine Ex_then_ret ?_
    refine Ex_done1 rfl rfl ?_
    exact ⟨_, rfl, rfl, hs⟩

set_option maxHeartbeats 1000000 in
theorem settles_ok (s : Nat) (a : Option Addr) (c : Nat) (xs : List Nat) (w0 : World) (hx : SlC w0 a (fl xs)) (hsh : shOk s = true) (hs64 : s < 18446744073709551616) (hx64 : ∀ x ∈ xs, x < 18446744073709551616) (hxc : xs.length ≤ c) (hk63 : xs.length ≤ 17592186043904) :
    Ret Try.prog 7 [.float .f64 s, .slice a xs.length c] w0 fun v w' => v = .bool true ∧ HS w0 w' [] := by
  obtain ⟨c74, hc74⟩ : ∃ c : Nat, c = 1074 := ⟨_, rfl⟩
  obtain ⟨S, hS, hS0, hS1⟩ := fv_of_share hc74 hs64 (by have := hsh; unfold shOk at this; exact this)
  have hgx : ∀ i, i < xs.length → xs.getD i 0 < 18446744073709551616 := fun i hi => hx64 _ (by simp [List.getD, hi])
  refine Ret.start fun w hs => ?_
  obtain ⟨k, hk⟩ : ∃ k, k = xs.length := ⟨_, rfl⟩
  rw [← hk] at hk63 hxc ⊢
  refine calls_of_W Try.func7 rfl rfl rfl ?_
  refine W_seq ?_
  refine W_region ?_
  refine L_assign rfl rfl ?_
  refine RL_then ?_
  refine W_seq ?_
  refine W_region ?_
  refine L_move rfl rfl ?_
  refine L_call rfl Try.fun13 rfl (new_ok 1 s w (by decide) (by decide) hsh) ?_
  rintro _ w1 ⟨g, b, rfl, hs1, hg, hb⟩
  have hsz := hs.size
  replace hs := hs.call hs1 (Own.cons hg (Own.cons hb Own.nil))
  replace hg := Nat.le_trans hsz hg
  replace hb := Nat.le_trans hsz hb
  rw [List.nil_append] at hs
  clear hs1 hsz
  refine L_move rfl rfl ?_
  refine L_extract rfl rfl rfl ?_
  refine L_extract rfl rfl rfl ?_
  refine L_assign rfl rfl ?_
  refine L_assign rfl rfl ?_
  refine RL_then ?_
  refine W_seq ?_
  refine W_seq ?_
  refine W_region ?_
  refine L_move rfl rfl ?_
  first | refine L_neq rfl rfl rfl (dtrue (by omega)) ?_ | refine L_neq rfl rfl rfl (dfalse (by omega)) ?_ | refine L_neq rfl rfl rfl rfl ?_
  refine L_move rfl rfl ?_
  first | (refine RL_want rfl rfl ?_; refine L_move rfl rfl ?_) | refine RL_skip rfl rfl rfl rfl ?_ | refine RL_skipU rfl rfl rfl ?_
  first | (refine RL_want rfl rfl ?_; refine L_ptrNil rfl Try.underlying40 rfl rfl ?_) | refine RL_skip rfl rfl rfl rfl ?_ | refine RL_skipU rfl rfl rfl ?_
  first | refine L_pick_t rfl rfl rfl ?_ | refine L_pick_f rfl rfl rfl ?_
  refine RL_then ?_
  refine W_if_false rfl ?_
  refine W_skip' ?_
  refine Nx_then ?_
  refine W_seq ?_
  refine W_region ?_
  refine L_assign rfl rfl ?_
  refine RL_then ?_
  refine W_seq ?_
  refine W_seq ?_
  refine W_region ?_
  refine L_assign rfl rfl ?_
  refine RL_then ?_
  refine W_cut3 (fun (top : Nat) (T : Nat) (w : World) => [(0, .float .f64 s), (1, .slice a k c), (5, .pointer (some ⟨b, 0, none⟩)), (7, .float .f64 top)]) (fun (top : Nat) (T : Nat) (w : World) => w) (fun (top : Nat) (T : Nat) (w : World) => (FV top (T : Int)) ∧ (T ≤ Bd) ∧ (∀ j, j < k → j < 200 → ∃ v, FV (xs.getD j 0) v ∧ v.natAbs ≤ T) ∧ (HS w0 w (MapL 60 g b 1 s false (List.replicate 1 0)))) ?_ ?_
  · refine W_block ?_
    refine W_loop4 (fun (i : Nat) (top : Nat) (T : Nat) (w : World) => [(0, .float .f64 s), (1, .slice a k c), (5, .pointer (some ⟨b, 0, none⟩)), (7, .float .f64 top), (8, .int .i64 i)]) (fun (i : Nat) (top : Nat) (T : Nat) (w : World) => w) (fun (i : Nat) (top : Nat) (T : Nat) (w : World) => (i ≤ k) ∧ (FV top (T : Int)) ∧ (T ≤ Bd) ∧ (∀ j, j < i → ∃ v, FV (xs.getD j 0) v ∧ v.natAbs ≤ T) ∧ (HS w0 w (MapL 60 g b 1 s false (List.replicate 1 0)))) (fun (i : Nat) (top : Nat) (T : Nat) (w : World) => k - i) (0) (0) (0) (w1) (is := [0, 1, 5, 7, 8]) rfl rfl ?_ ?_
    · exact ⟨Nat.zero_le _, fv_0, Nat.zero_le _, fun j hj => absurd hj (Nat.not_lt_zero j), hs⟩
    · clear hs
      intro i top T w hI
      show W _ _ _ _ [(0, .float .f64 s), (1, .slice a k c), (5, .pointer (some ⟨b, 0, none⟩)), (7, .float .f64 top), (8, .int .i64 i)] w
      obtain ⟨hi, htop, hT, hold, hs⟩ := hI
      have hOm : Own w0 (MapL 60 g b 1 s false (List.replicate 1 0)) := Own.cons hg (Own.cons hb Own.nil)
      by_cases hlt : i < k ∧ i < 200
      · obtain ⟨hlt, hi2⟩ := hlt
        have hao := hx.ao (by simp; omega)
        refine W_seq ?_
        refine W_seq ?_
        refine W_region ?_
        refine L_move rfl rfl ?_
        refine L_move rfl rfl ?_
        refine L_len rfl Try.underlying39 rfl ?_
        first | refine L_lss rfl rfl rfl (dtrue (by omega)) ?_ | refine L_lss rfl rfl rfl (dfalse (by omega)) ?_ | refine L_lss rfl rfl rfl rfl ?_
        refine L_move rfl rfl ?_
        first | (refine RL_want rfl rfl ?_; refine L_move rfl rfl ?_) | refine RL_skip rfl rfl rfl rfl ?_ | refine RL_skipU rfl rfl rfl ?_
        first | (refine RL_want rfl rfl ?_; (first | refine L_lss rfl rfl rfl (dtrue (by omega)) ?_ | refine L_lss rfl rfl rfl (dfalse (by omega)) ?_ | refine L_lss rfl rfl rfl rfl ?_)) | refine RL_skip rfl rfl rfl rfl ?_ | refine RL_skipU rfl rfl rfl ?_
        first | refine L_pick_t rfl rfl rfl ?_ | refine L_pick_f rfl rfl rfl ?_
        refine RL_then ?_
        refine W_if_true rfl ?_
        refine W_skip' ?_
        refine Nx_then ?_
        refine W_seq ?_
        refine W_block ?_
        refine W_seq ?_
        refine W_seq ?_
        refine W_region ?_
        refine L_move rfl rfl ?_
        refine L_move rfl rfl ?_
        refine L_idx1 rfl Try.underlying39 Try.ti35 rfl rfl (by with_reducible first | exact natc_k _ | exact natc_a1 _ | exact natc_0 | exact natc_1 | exact natc_2 | exact natc_s1 _ (by omega) | exact natc_a2 _ | exact natc_add _ _ | exact natc_mul _ _ | exact natc (by omega)) (by omega) hao ?_
        refine L_load rfl Try.one35 rfl (by exact (hx.old hs hOm).get (fl_get (by omega))) ?_
        refine L_call rfl Try.fun22 rfl (abs_ok (xs.getD i 0) (hgx i (by omega)) w) ?_
        rintro _ w' ⟨rfl, rfl⟩
        by_cases hle : (FloatKind.f64.format.order (xs.getD i 0 % 9223372036854775808) 8660422083433463808 == some .lt || FloatKind.f64.format.order (xs.getD i 0 % 9223372036854775808) 8660422083433463808 == some .eq) = true
        · obtain ⟨v, hv, hvB⟩ := fv_of_abs (hgx i (by omega)) hle
          refine L_fcmp rfl rfl rfl (fun _ => by rw [binOp_float_cmp_leq]; rfl) ?_
          rw [hle]
          refine L_not rfl rfl ?_
          refine RL_then ?_
          refine W_if_false rfl ?_
          refine W_skip' ?_
          refine Nx_then ?_
          refine W_region ?_
          refine L_move rfl rfl ?_
          refine L_move rfl rfl ?_
          refine L_move rfl rfl ?_
          refine L_idx1 rfl Try.underlying39 Try.ti35 rfl rfl (by with_reducible first | exact natc_k _ | exact natc_a1 _ | exact natc_0 | exact natc_1 | exact natc_2 | exact natc_s1 _ (by omega) | exact natc_a2 _ | exact natc_add _ _ | exact natc_mul _ _ | exact natc (by omega)) (by omega) hao ?_
          refine L_load rfl Try.one35 rfl (by exact (hx.old hs hOm).get (fl_get (by omega))) ?_
          refine L_call rfl Try.fun22 rfl (abs_ok (xs.getD i 0) (hgx i (by omega)) w') ?_
          rintro _ w ⟨rfl, rfl⟩
          refine RL_val rfl (R_maxF rfl rfl (by exact htop.neq hv.abs)) ?_
          refine L_assign rfl rfl ?_
          refine RL_nil' ?_
          refine Nx_block ?_
          refine Nx_then ?_
          refine W_region ?_
          refine L_move rfl rfl ?_
          first | refine L_add rfl rfl rfl (wrp_i64 (by omega)) ?_ | refine L_add rfl rfl rfl rfl ?_
          refine L_assign rfl rfl ?_
          refine RL_nil' ?_
          refine Nx_loopP (i + 1, fmax top (xs.getD i 0 % 9223372036854775808), max T v.natAbs, w) (is := [0, 1, 5, 7, 8]) (I' := (fun (i : Nat) (top : Nat) (T : Nat) (w : World) => (i ≤ k) ∧ (FV top (T : Int)) ∧ (T ≤ Bd) ∧ (∀ j, j < i → ∃ v, FV (xs.getD j 0) v ∧ v.natAbs ≤ T) ∧ (HS w0 w (MapL 60 g b 1 s false (List.replicate 1 0)))) (i + 1) (fmax top (xs.getD i 0 % 9223372036854775808)) (max T v.natAbs) (w)) rfl rfl rfl ?_ ?_
          · refine ⟨by omega, ?_, by omega, fun j hj => ?_, hs⟩
            · have e : ((max T v.natAbs : Nat) : Int) = max (T : Int) (v.natAbs : Int) := by omega
              rw [e]; exact htop.max hv.abs
            · rcases Nat.lt_or_ge j i with h5 | h5
              · obtain ⟨u, h6, h7⟩ := hold j h5
                exact ⟨u, h6, by omega⟩
              · obtain rfl : j = i := by omega
                exact ⟨v, hv, by omega⟩
          · omega
        · rw [Bool.not_eq_true] at hle
          refine L_fcmp rfl rfl rfl (fun _ => by rw [binOp_float_cmp_leq]; rfl) ?_
          rw [hle]
          refine L_not rfl rfl ?_
          refine RL_then ?_
          refine W_if_true rfl ?_
          refine W_seq ?_
          refine W_region ?_
          refine L_call rfl Try.fun10 rfl (wakes_ok w') ?_
          rintro _ w ⟨rfl, hs'⟩
          replace hs := hs.nil hs'
          refine L_assign rfl rfl ?_
          refine RL_then ?_
          refine W_ret' ?_
          refine Ex_then_ret ?_
          refine Ex_block_ret ?_
          refine Ex_then_ret ?_
          refine Ex_loop_ret ?_
          refine Ex_block_ret ?_
          refine Ex_cut_ret ?_
          refine Ex_done1 rfl rfl ?_
          exact ⟨_, rfl, rfl, hs.forget hOm⟩
      · rcases (show k ≤ i ∨ (i < k ∧ 200 ≤ i) by omega) with h5 | h5
        · refine W_seq ?_
          refine W_seq ?_
          refine W_region ?_
          refine L_move rfl rfl ?_
          refine L_move rfl rfl ?_
          refine L_len rfl Try.underlying39 rfl ?_
          first | refine L_lss rfl rfl rfl (dtrue (by omega)) ?_ | refine L_lss rfl rfl rfl (dfalse (by omega)) ?_ | refine L_lss rfl rfl rfl rfl ?_
          refine L_move rfl rfl ?_
          first | (refine RL_want rfl rfl ?_; refine L_move rfl rfl ?_) | refine RL_skip rfl rfl rfl rfl ?_ | refine RL_skipU rfl rfl rfl ?_
          first | (refine RL_want rfl rfl ?_; (first | refine L_lss rfl rfl rfl (dtrue (by omega)) ?_ | refine L_lss rfl rfl rfl (dfalse (by omega)) ?_ | refine L_lss rfl rfl rfl rfl ?_)) | refine RL_skip rfl rfl rfl rfl ?_ | refine RL_skipU rfl rfl rfl ?_
          first | refine L_pick_t rfl rfl rfl ?_ | refine L_pick_f rfl rfl rfl ?_
          refine RL_then ?_
          refine W_if_false rfl ?_
          refine W_exit' ?_
          refine Ex_then_exit ?_
          refine Ex_loop_exit ?_
          refine Ex_block_hit ?_
          refine Nx_cutP (top, T, w) (is := [0, 1, 5, 7]) (I' := (fun (top : Nat) (T : Nat) (w : World) => (FV top (T : Int)) ∧ (T ≤ Bd) ∧ (∀ j, j < k → j < 200 → ∃ v, FV (xs.getD j 0) v ∧ v.natAbs ≤ T) ∧ (HS w0 w (MapL 60 g b 1 s false (List.replicate 1 0)))) (top) (T) (w)) rfl rfl rfl ?_
          exact ⟨htop, hT, fun j h1 _ => hold j (by omega), hs⟩
        · refine W_seq ?_
          refine W_seq ?_
          refine W_region ?_
          refine L_move rfl rfl ?_
          refine L_move rfl rfl ?_
          refine L_len rfl Try.underlying39 rfl ?_
          first | refine L_lss rfl rfl rfl (dtrue (by omega)) ?_ | refine L_lss rfl rfl rfl (dfalse (by omega)) ?_ | refine L_lss rfl rfl rfl rfl ?_
          refine L_move rfl rfl ?_
          first | (refine RL_want rfl rfl ?_; refine L_move rfl rfl ?_) | refine RL_skip rfl rfl rfl rfl ?_ | refine RL_skipU rfl rfl rfl ?_
          first | (refine RL_want rfl rfl ?_; (first | refine L_lss rfl rfl rfl (dtrue (by omega)) ?_ | refine L_lss rfl rfl rfl (dfalse (by omega)) ?_ | refine L_lss rfl rfl rfl rfl ?_)) | refine RL_skip rfl rfl rfl rfl ?_ | refine RL_skipU rfl rfl rfl ?_
          first | refine L_pick_t rfl rfl rfl ?_ | refine L_pick_f rfl rfl rfl ?_
          refine RL_then ?_
          refine W_if_false rfl ?_
          refine W_exit' ?_
          refine Ex_then_exit ?_
          refine Ex_loop_exit ?_
          refine Ex_block_hit ?_
          refine Nx_cutP (top, T, w) (is := [0, 1, 5, 7]) (I' := (fun (top : Nat) (T : Nat) (w : World) => (FV top (T : Int)) ∧ (T ≤ Bd) ∧ (∀ j, j < k → j < 200 → ∃ v, FV (xs.getD j 0) v ∧ v.natAbs ≤ T) ∧ (HS w0 w (MapL 60 g b 1 s false (List.replicate 1 0)))) (top) (T) (w)) rfl rfl rfl ?_
          exact ⟨htop, hT, fun j _ h2 => hold j (by omega), hs⟩
  · clear hs
    intro top T w hI
    show W _ _ _ _ [(0, .float .f64 s), (1, .slice a k c), (5, .pointer (some ⟨b, 0, none⟩)), (7, .float .f64 top)] w
    obtain ⟨htop, hT, hxs, hs⟩ := hI
    obtain ⟨E, hE⟩ : ∃ E, E = T / 2251799813685248 := ⟨_, rfl⟩
    have hOm : ∀ {fed : Bool} {ls : List Nat}, Own w0 (MapL 60 g b 1 s fed ls) := Own.cons hg (Own.cons hb Own.nil)
    refine W_seq ?_
    refine W_region ?_
    refine L_assign rfl rfl ?_
    refine RL_then ?_
    refine W_seq ?_
    refine W_region ?_
    refine L_assign rfl rfl ?_
    refine RL_then ?_
    refine W_seq ?_
    refine W_seq ?_
    refine W_region ?_
    refine L_assign rfl rfl ?_
    refine RL_then ?_
    refine W_cut1 (fun (w : World) => [(0, .float .f64 s), (1, .slice a k c)]) (fun (w : World) => w) (fun (w : World) => (HS w0 w [])) ?_ ?_
    · refine W_block ?_
      refine W_loop6 (fun (i : Nat) (fed : Bool) (y : Nat) (lo : Nat) (hi : Nat) (w : World) => [(0, .float .f64 s), (1, .slice a k c), (5, .pointer (some ⟨b, 0, none⟩)), (7, .float .f64 top), (9, .float .f64 lo), (10, .float .f64 hi), (11, .int .i64 i)]) (fun (i : Nat) (fed : Bool) (y : Nat) (lo : Nat) (hi : Nat) (w : World) => w) (fun (i : Nat) (fed : Bool) (y : Nat) (lo : Nat) (hi : Nat) (w : World) => (i ≤ k) ∧ (i ≤ 200) ∧ (fed = decide (0 < i)) ∧ (0 < i → ∃ L l h : Int, FV y L ∧ FV lo l ∧ FV hi h ∧ l.natAbs ≤ T ∧ h.natAbs ≤ T ∧ l - (i * E : Nat) ≤ L ∧ L ≤ h + (i * E : Nat)) ∧ (HS w0 w (MapL 60 g b 1 s fed [y]))) (fun (i : Nat) (fed : Bool) (y : Nat) (lo : Nat) (hi : Nat) (w : World) => k - i) (0) (false) (0) (0) (0) (w) (is := [0, 1, 5, 7, 9, 10, 11]) rfl rfl ?_ ?_
      · exact ⟨Nat.zero_le _, Nat.zero_le _, rfl, fun h => absurd h (Nat.lt_irrefl _), hs⟩
      · clear hs
        intro i fed y lo hi w hI
        show W _ _ _ _ [(0, .float .f64 s), (1, .slice a k c), (5, .pointer (some ⟨b, 0, none⟩)), (7, .float .f64 top), (9, .float .f64 lo), (10, .float .f64 hi), (11, .int .i64 i)] w
        obtain ⟨hik, hi2, hfed, hold, hs⟩ := hI
        by_cases hlt : i < k ∧ i < 200
        · obtain ⟨hlt, hi2⟩ := hlt
          have hao := hx.ao (by simp; omega)
          obtain ⟨X, hX, hXT⟩ := hxs i hlt hi2
          obtain ⟨x, hxe⟩ : ∃ x, x = xs.getD i 0 := ⟨_, rfl⟩
          rw [← hxe] at hX
          obtain ⟨l0, hl0⟩ : ∃ l0, l0 = if fed then [y] else [x] := ⟨_, rfl⟩
          have hiE : i * E ≤ 200 * E := Nat.mul_le_mul_right _ (by omega)
          have hiE1 : (i + 1) * E = i * E + E := Nat.succ_mul _ _
          obtain ⟨iE, hiEe⟩ : ∃ iE, iE = i * E := ⟨_, rfl⟩
          obtain ⟨L0, hL0, hL0T, hL0i, hL0e⟩ : ∃ L0, FV (l0.getD 0 0) L0 ∧ L0.natAbs ≤ T + 200 * E ∧ (i = 0 → L0 = X) ∧ (0 < i → ∃ l h : Int, FV lo l ∧ FV hi h ∧ l.natAbs ≤ T ∧ h.natAbs ≤ T ∧ l - (iE : Nat) ≤ L0 ∧ L0 ≤ h + (iE : Nat)) := by
            by_cases h0 : 0 < i
            · obtain ⟨L, l, h, h1, h2, h3, h4, h5, h6, h7⟩ := hold h0
              rw [← hiEe] at h6 h7 hiE
              refine ⟨L, ?_, by omega, by omega, fun _ => ⟨l, h, h2, h3, h4, h5, h6, h7⟩⟩
              rw [hl0, hfed, decide_eq_true h0]; exact h1
            · refine ⟨X, ?_, by omega, fun _ => rfl, fun h => absurd h h0⟩
              rw [hl0, hfed, decide_eq_false h0]; exact hX
          clear hold
          have hcell : SlC w0 (slA a i c 1) (fl [x]) := by rw [hxe]; exact fcells_slA hx (by omega) (by omega)
          have hblk : (aD (slA a i c 1)).block < w0.heap.size := World.block_lt_of_cell? w0 _ (hcell.2 0 _ rfl)
          have hgb : g ≠ b := by have := hs.nodup; simp at this; exact this
          have hm : IsMap w 60 b g 1 s fed [y] := ⟨hs.get (i := 1) rfl, hs.get (i := 0) rfl, rfl⟩
          obtain ⟨L', hFL', hdr, hone, _⟩ := fv_step hc74 hS hS0 hS1 hX hL0 hXT hT hL0T hE
          refine W_seq ?_
          refine W_seq ?_
          refine W_region ?_
          refine L_move rfl rfl ?_
          refine L_move rfl rfl ?_
          refine L_len rfl Try.underlying39 rfl ?_
          first | refine L_lss rfl rfl rfl (dtrue (by omega)) ?_ | refine L_lss rfl rfl rfl (dfalse (by omega)) ?_ | refine L_lss rfl rfl rfl rfl ?_
          refine L_move rfl rfl ?_
          first | (refine RL_want rfl rfl ?_; refine L_move rfl rfl ?_) | refine RL_skip rfl rfl rfl rfl ?_ | refine RL_skipU rfl rfl rfl ?_
          first | (refine RL_want rfl rfl ?_; (first | refine L_lss rfl rfl rfl (dtrue (by omega)) ?_ | refine L_lss rfl rfl rfl (dfalse (by omega)) ?_ | refine L_lss rfl rfl rfl rfl ?_)) | refine RL_skip rfl rfl rfl rfl ?_ | refine RL_skipU rfl rfl rfl ?_
          first | refine L_pick_t rfl rfl rfl ?_ | refine L_pick_f rfl rfl rfl ?_
          refine RL_then ?_
          refine W_if_true rfl ?_
          refine W_skip' ?_
          refine Nx_then ?_
          refine W_seq ?_
          refine W_block ?_
          refine W_seq ?_
          refine W_region ?_
          refine L_move rfl rfl ?_
          refine L_move rfl rfl ?_
          refine L_move rfl rfl ?_
          refine L_move rfl rfl ?_
          first | refine L_add rfl rfl rfl (wrp_i64 (by omega)) ?_ | refine L_add rfl rfl rfl rfl ?_
          refine RL_val rfl (R_slice110 Try.underlying39 Try.ti35 rfl rfl rfl (by with_reducible first | exact natc_k _ | exact natc_a1 _ | exact natc_0 | exact natc_1 | exact natc_2 | exact natc_s1 _ (by omega) | exact natc_a2 _ | exact natc_add _ _ | exact natc_mul _ _ | exact natc (by omega)) (by with_reducible first | exact natc_k _ | exact natc_a1 _ | exact natc_0 | exact natc_1 | exact natc_2 | exact natc_s1 _ (by omega) | exact natc_a2 _ | exact natc_add _ _ | exact natc_mul _ _ | exact natc (by omega)) (by omega)) ?_
          rw [show i + 1 - i = 1 by omega]
          refine L_call rfl Try.fun16 rfl (feed_ok b g 1 s fed [y] [x] l0 (slA a i c 1) (c - i) w hm hgb (hcell.old hs hOm) rfl (by decide) (by decide) (by omega) hl0) ?_
          rintro _ w' ⟨q, out, ls', rfl, hs', hq, hol, hll, hD, hL⟩
          replace hq : Own w [(q, Row 35 (fl out))] := Own.cons hq Own.nil
          have hq0 := hq.le hs.size
          replace hs := hs.callU (A := MapL 60 g b 1 s fed [y]) (U := MapL 60 g b 1 s true ls') (L2 := []) rfl hs' hq
          obtain ⟨y', rfl⟩ : ∃ y', ls' = [y'] := by
            match ls', hll with
            | [z], _ => exact ⟨z, rfl⟩
          have hy' : FV y' L' := hFL'.cn (hL 0 (by decide))
          replace hs : HS w0 w' (MapL 60 g b 1 s true [y']) := by
            rw [List.append_nil] at hs
            exact hs.dropR hq0
          clear hs' hL hD hll hm
          refine L_move rfl rfl ?_
          refine L_extract rfl rfl rfl ?_
          refine L_extract rfl rfl rfl ?_
          refine L_assign rfl rfl ?_
          refine L_assign rfl rfl ?_
          refine RL_then ?_
          refine W_seq ?_
          refine W_region ?_
          refine L_move rfl rfl ?_
          refine L_call rfl Try.fun18 rfl (level_yes b g 1 s [y'] 0 w' ⟨hs.get (i := 1) rfl, hs.get (i := 0) rfl, rfl⟩ (by decide)) ?_
          rintro _ w ⟨rfl, rfl⟩
          rw [show [y'].getD 0 0 = y' from rfl]
          refine L_move rfl rfl ?_
          refine L_extract rfl rfl rfl ?_
          refine L_extract rfl rfl rfl ?_
          refine L_assign rfl rfl ?_
          refine L_assign rfl rfl ?_
          refine RL_then ?_
          refine W_seq ?_
          refine W_seq ?_
          refine W_region ?_
          refine L_move rfl rfl ?_
          first | refine L_eql rfl rfl rfl (dtrue (by omega)) ?_ | refine L_eql rfl rfl rfl (dfalse (by omega)) ?_ | refine L_eql rfl rfl rfl rfl ?_
          refine RL_then ?_
          refine W_cut3 (fun (lo : Nat) (hi : Nat) (w : World) => [(0, .float .f64 s), (1, .slice a k c), (5, .pointer (some ⟨b, 0, none⟩)), (7, .float .f64 top), (9, .float .f64 lo), (10, .float .f64 hi), (11, .int .i64 i), (13, .int .i64 0), (14, .float .f64 y'), (15, .bool true)]) (fun (lo : Nat) (hi : Nat) (w : World) => w) (fun (lo : Nat) (hi : Nat) (w : World) => (∃ l h : Int, FV lo l ∧ FV hi h ∧ l.natAbs ≤ T ∧ h.natAbs ≤ T ∧ min l X - (iE + E : Nat) ≤ L' ∧ L' ≤ max h X + (iE + E : Nat)) ∧ (HS w0 w (MapL 60 g b 1 s true [y']))) ?_ ?_
          · by_cases h0 : i = 0
            · obtain rfl := h0
              have hX0 := hL0i rfl
              refine W_set 96 (v' := .bool true) rfl (by rfl) ?_
              refine W_if_true rfl ?_
              refine W_seq ?_
              refine W_region ?_
              refine L_move rfl rfl ?_
              refine L_idx1 rfl Try.underlying39 Try.ti35 rfl rfl (by with_reducible first | exact natc_k _ | exact natc_a1 _ | exact natc_0 | exact natc_1 | exact natc_2 | exact natc_s1 _ (by omega) | exact natc_a2 _ | exact natc_add _ _ | exact natc_mul _ _ | exact natc (by omega)) (by omega) hao ?_
              refine L_load rfl Try.one35 rfl (by exact (hx.old hs hOm).get (fl_get (by omega))) ?_
              refine L_assign rfl rfl ?_
              refine RL_then ?_
              refine W_region ?_
              refine L_move rfl rfl ?_
              refine L_idx1 rfl Try.underlying39 Try.ti35 rfl rfl (by with_reducible first | exact natc_k _ | exact natc_a1 _ | exact natc_0 | exact natc_1 | exact natc_2 | exact natc_s1 _ (by omega) | exact natc_a2 _ | exact natc_add _ _ | exact natc_mul _ _ | exact natc (by omega)) (by omega) hao ?_
              refine L_load rfl Try.one35 rfl (by exact (hx.old hs hOm).get (fl_get (by omega))) ?_
              refine L_assign rfl rfl ?_
              refine RL_nil' ?_
              rw [hxe] at hX
              refine Nx_cutP (xs.getD 0 0, xs.getD 0 0, w) (is := [0, 1, 5, 7, 9, 10, 11, 13, 14, 15]) (I' := (fun (lo : Nat) (hi : Nat) (w : World) => (∃ l h : Int, FV lo l ∧ FV hi h ∧ l.natAbs ≤ T ∧ h.natAbs ≤ T ∧ min l X - (iE + E : Nat) ≤ L' ∧ L' ≤ max h X + (iE + E : Nat)) ∧ (HS w0 w (MapL 60 g b 1 s true [y']))) (xs.getD 0 0) (xs.getD 0 0) (w)) rfl rfl rfl ?_
              exact ⟨⟨X, X, hX, hX, hXT, hXT, by omega, by omega⟩, hs⟩
            · obtain ⟨l, h, h1, h2, h3, h4, h5, h6⟩ := hL0e (by omega)
              refine W_set 96 (v' := .bool false) rfl (by rw [decide_eq_false (by omega)]) ?_
              refine W_if_false rfl ?_
              refine W_skip' ?_
              refine Nx_cutP (lo, hi, w) (is := [0, 1, 5, 7, 9, 10, 11, 13, 14, 15]) (I' := (fun (lo : Nat) (hi : Nat) (w : World) => (∃ l h : Int, FV lo l ∧ FV hi h ∧ l.natAbs ≤ T ∧ h.natAbs ≤ T ∧ min l X - (iE + E : Nat) ≤ L' ∧ L' ≤ max h X + (iE + E : Nat)) ∧ (HS w0 w (MapL 60 g b 1 s true [y']))) (lo) (hi) (w)) rfl rfl rfl ?_
              exact ⟨⟨l, h, h1, h2, h3, h4, by omega, by omega⟩, hs⟩
          · clear hs hL0e
            intro lo hi w hI
            show W _ _ _ _ [(0, .float .f64 s), (1, .slice a k c), (5, .pointer (some ⟨b, 0, none⟩)), (7, .float .f64 top), (9, .float .f64 lo), (10, .float .f64 hi), (11, .int .i64 i), (13, .int .i64 0), (14, .float .f64 y'), (15, .bool true)] w
            obtain ⟨⟨l, h, hlo, hhi, hlT, hhT, hlow, hup⟩, hs⟩ := hI
            rw [hxe] at hX
            obtain ⟨ka, kr, O, hka, hkr, hkO, hOlo, hOhi⟩ := fv_slack (n := i + 1) (by omega) (by omega) htop hT
            rw [← hE, hiE1, ← hiEe] at hOlo
            obtain ⟨⟨rg, hrg, hge⟩, ⟨rl, hrl, hle⟩⟩ := fv_checks hc74 (z := fmax hi (xs.getD i 0)) hy' (hlo.min hX) (hhi.max hX) hkO (by omega) (by omega) (by omega) (by omega) hOhi
            refine W_seq ?_
            refine W_region ?_
            refine L_move rfl rfl ?_
            refine L_move rfl rfl ?_
            refine L_move rfl rfl ?_
            refine L_idx1 rfl Try.underlying39 Try.ti35 rfl rfl (by with_reducible first | exact natc_k _ | exact natc_a1 _ | exact natc_0 | exact natc_1 | exact natc_2 | exact natc_s1 _ (by omega) | exact natc_a2 _ | exact natc_add _ _ | exact natc_mul _ _ | exact natc (by omega)) (by omega) hao ?_
            refine L_load rfl Try.one35 rfl (by exact (hx.old hs hOm).get (fl_get (by omega))) ?_
            refine RL_val rfl (R_minF rfl rfl (by first | exact hlo.neq hX | exact hhi.neq hX)) ?_
            refine L_assign rfl rfl ?_
            refine RL_then ?_
            refine W_seq ?_
            refine W_region ?_
            refine L_move rfl rfl ?_
            refine L_move rfl rfl ?_
            refine L_move rfl rfl ?_
            refine L_idx1 rfl Try.underlying39 Try.ti35 rfl rfl (by with_reducible first | exact natc_k _ | exact natc_a1 _ | exact natc_0 | exact natc_1 | exact natc_2 | exact natc_s1 _ (by omega) | exact natc_a2 _ | exact natc_add _ _ | exact natc_mul _ _ | exact natc (by omega)) (by omega) hao ?_
            refine L_load rfl Try.one35 rfl (by exact (hx.old hs hOm).get (fl_get (by omega))) ?_
            refine RL_val rfl (R_maxF rfl rfl (by first | exact hlo.neq hX | exact hhi.neq hX)) ?_
            refine L_assign rfl rfl ?_
            refine RL_then ?_
            refine W_seq ?_
            refine W_region ?_
            refine L_move rfl rfl ?_
            first | refine L_add rfl rfl rfl (wrp_i64 (by omega)) ?_ | refine L_add rfl rfl rfl rfl ?_
            refine L_itof rfl Try.underlying3 Try.underlying35 rfl ?_
            refine L_move rfl rfl ?_
            refine L_farith rfl (op := .mul) rfl rfl rfl ?_
            intro r119 k119 hr119
            try replace hs := hs.drewN k119
            obtain rfl := Fs_eq hka hr119
            rw [show ((i : Int) + 1) = ((i + 1 : Nat) : Int) by simp]
            refine L_farith rfl (op := .mul) rfl rfl rfl ?_
            intro r120 k120 hr120
            try replace hs := hs.drewN k120
            refine L_assign rfl rfl ?_
            refine RL_then ?_
            refine W_seq ?_
            refine W_region ?_
            refine L_move rfl rfl ?_
            first | refine L_neq rfl rfl rfl (dtrue (by omega)) ?_ | refine L_neq rfl rfl rfl (dfalse (by omega)) ?_ | refine L_neq rfl rfl rfl rfl ?_
            refine L_move rfl rfl ?_
            first | (refine RL_want rfl rfl ?_; refine L_move rfl rfl ?_) | refine RL_skip rfl rfl rfl rfl ?_ | refine RL_skipU rfl rfl rfl ?_
            first | (refine RL_want rfl rfl ?_; refine L_not rfl rfl ?_) | refine RL_skip rfl rfl rfl rfl ?_ | refine RL_skipU rfl rfl rfl ?_
            first | refine L_pick_t rfl rfl rfl ?_ | refine L_pick_f rfl rfl rfl ?_
            refine L_move rfl rfl ?_
            first | (refine RL_want rfl rfl ?_; refine L_move rfl rfl ?_) | refine RL_skip rfl rfl rfl rfl ?_ | refine RL_skipU rfl rfl rfl ?_
            first | (refine RL_want rfl rfl ?_; refine L_move rfl rfl ?_) | refine RL_skip rfl rfl rfl rfl ?_ | refine RL_skipU rfl rfl rfl ?_
            first | (refine RL_want rfl rfl ?_; refine L_move rfl rfl ?_) | refine RL_skip rfl rfl rfl rfl ?_ | refine RL_skipU rfl rfl rfl ?_
            first | (refine RL_want rfl rfl ?_; refine L_farith rfl (op := .sub) rfl rfl rfl ?_; intro r131 k131 hr131; try replace hs := hs.drewN k131) | refine RL_skip rfl rfl rfl rfl ?_ | refine RL_skipU rfl rfl rfl ?_
            obtain rfl := Fs_eq hkr hr120
            obtain rfl := Fs_eq hrg hr131
            first | (refine RL_want rfl rfl ?_; refine L_fcmp rfl rfl rfl (fun _ => by rw [binOp_float_cmp_geq]; rfl) ?_) | refine RL_skip rfl rfl rfl rfl ?_ | refine RL_skipU rfl rfl rfl ?_
            rw [hge]
            first | (refine RL_want rfl rfl ?_; refine L_move rfl rfl ?_) | refine RL_skip rfl rfl rfl rfl ?_ | refine RL_skipU rfl rfl rfl ?_
            first | (refine RL_want rfl rfl ?_; refine L_move rfl rfl ?_) | refine RL_skip rfl rfl rfl rfl ?_ | refine RL_skipU rfl rfl rfl ?_
            first | (refine RL_want rfl rfl ?_; refine L_move rfl rfl ?_) | refine RL_skip rfl rfl rfl rfl ?_ | refine RL_skipU rfl rfl rfl ?_
            first | (refine RL_want rfl rfl ?_; refine L_move rfl rfl ?_) | refine RL_skip rfl rfl rfl rfl ?_ | refine RL_skipU rfl rfl rfl ?_
            first | (refine RL_want rfl rfl ?_; refine L_farith rfl (op := .add) rfl rfl rfl ?_; intro r137 k137 hr137; try replace hs := hs.drewN k137) | refine RL_skip rfl rfl rfl rfl ?_ | refine RL_skipU rfl rfl rfl ?_
            obtain rfl := Fs_eq hrl hr137
            first | (refine RL_want rfl rfl ?_; refine L_fcmp rfl rfl rfl (fun _ => by rw [binOp_float_cmp_leq]; rfl) ?_) | refine RL_skip rfl rfl rfl rfl ?_ | refine RL_skipU rfl rfl rfl ?_
            rw [hle]
            first | (refine RL_want rfl rfl ?_; (first | refine L_pick_t rfl rfl rfl ?_ | refine L_pick_f rfl rfl rfl ?_)) | refine RL_skip rfl rfl rfl rfl ?_ | refine RL_skipU rfl rfl rfl ?_
            first | (refine RL_want rfl rfl ?_; refine L_not rfl rfl ?_) | refine RL_skip rfl rfl rfl rfl ?_ | refine RL_skipU rfl rfl rfl ?_
            first | refine L_pick_t rfl rfl rfl ?_ | refine L_pick_f rfl rfl rfl ?_
            refine L_move rfl rfl ?_
            first | (refine RL_want rfl rfl ?_; refine L_move rfl rfl ?_) | refine RL_skip rfl rfl rfl rfl ?_ | refine RL_skipU rfl rfl rfl ?_
            first | (refine RL_want rfl rfl ?_; refine L_fcmp rfl rfl rfl (fun _ => by rw [binOp_float_cmp_eql]; rfl) ?_) | refine RL_skip rfl rfl rfl rfl ?_ | refine RL_skipU rfl rfl rfl ?_
            rw [hS.eql (fv_one c74 hc74)]
            by_cases hSe : S = ((2 ^ c74 : Nat) : Int)
            · rw [decide_eq_true hSe]
              have hnr := hone hSe
              obtain ⟨rn, hrn, hrn64, hnle⟩ := fv_near hc74 hy' hX hkO (by omega) hOhi
              first | (refine RL_want rfl rfl ?_; refine L_move rfl rfl ?_) | refine RL_skip rfl rfl rfl rfl ?_ | refine RL_skipU rfl rfl rfl ?_
              first | (refine RL_want rfl rfl ?_; refine L_move rfl rfl ?_) | refine RL_skip rfl rfl rfl rfl ?_ | refine RL_skipU rfl rfl rfl ?_
              first | (refine RL_want rfl rfl ?_; refine L_move rfl rfl ?_) | refine RL_skip rfl rfl rfl rfl ?_ | refine RL_skipU rfl rfl rfl ?_
              first | (refine RL_want rfl rfl ?_; refine L_move rfl rfl ?_) | refine RL_skip rfl rfl rfl rfl ?_ | refine RL_skipU rfl rfl rfl ?_
              first | (refine RL_want rfl rfl ?_; refine L_idx1 rfl Try.underlying39 Try.ti35 rfl rfl (by with_reducible first | exact natc_k _ | exact natc_a1 _ | exact natc_0 | exact natc_1 | exact natc_2 | exact natc_s1 _ (by omega) | exact natc_a2 _ | exact natc_add _ _ | exact natc_mul _ _ | exact natc (by omega)) (by omega) hao ?_) | refine RL_skip rfl rfl rfl rfl ?_ | refine RL_skipU rfl rfl rfl ?_
              first | (refine RL_want rfl rfl ?_; refine L_load rfl Try.one35 rfl (by exact (hx.old hs hOm).get (fl_get (by omega))) ?_) | refine RL_skip rfl rfl rfl rfl ?_ | refine RL_skipU rfl rfl rfl ?_
              first | (refine RL_want rfl rfl ?_; refine L_farith rfl (op := .sub) rfl rfl rfl ?_; intro r151 k151 hr151; try replace hs := hs.drewN k151) | refine RL_skip rfl rfl rfl rfl ?_ | refine RL_skipU rfl rfl rfl ?_
              obtain rfl := Fs_eq hrn hr151
              refine RL_want rfl rfl ?_
              refine L_call rfl Try.fun22 rfl (abs_ok _ hrn64 _) ?_
              rintro _ w' ⟨rfl, rfl⟩
              first | (refine RL_want rfl rfl ?_; refine L_move rfl rfl ?_) | refine RL_skip rfl rfl rfl rfl ?_ | refine RL_skipU rfl rfl rfl ?_
              first | (refine RL_want rfl rfl ?_; refine L_fcmp rfl rfl rfl (fun _ => by rw [binOp_float_cmp_leq]; rfl) ?_) | refine RL_skip rfl rfl rfl rfl ?_ | refine RL_skipU rfl rfl rfl ?_
              rw [hnle]
              first | (refine RL_want rfl rfl ?_; refine L_not rfl rfl ?_) | refine RL_skip rfl rfl rfl rfl ?_ | refine RL_skipU rfl rfl rfl ?_
              first | (refine RL_want rfl rfl ?_; (first | refine L_pick_t rfl rfl rfl ?_ | refine L_pick_f rfl rfl rfl ?_)) | refine RL_skip rfl rfl rfl rfl ?_ | refine RL_skipU rfl rfl rfl ?_
              first | refine L_pick_t rfl rfl rfl ?_ | refine L_pick_f rfl rfl rfl ?_
              refine RL_then ?_
              refine W_if_false rfl ?_
              refine W_skip' ?_
              refine Nx_block ?_
              refine Nx_then ?_
              refine W_region ?_
              refine L_move rfl rfl ?_
              first | refine L_add rfl rfl rfl (wrp_i64 (by omega)) ?_ | refine L_add rfl rfl rfl rfl ?_
              refine L_assign rfl rfl ?_
              refine RL_nil' ?_
              refine Nx_loopP (i + 1, true, y', fmin lo (xs.getD i 0), fmax hi (xs.getD i 0), _) (is := [0, 1, 5, 7, 9, 10, 11]) (I' := (fun (i : Nat) (fed : Bool) (y : Nat) (lo : Nat) (hi : Nat) (w : World) => (i ≤ k) ∧ (i ≤ 200) ∧ (fed = decide (0 < i)) ∧ (0 < i → ∃ L l h : Int, FV y L ∧ FV lo l ∧ FV hi h ∧ l.natAbs ≤ T ∧ h.natAbs ≤ T ∧ l - (i * E : Nat) ≤ L ∧ L ≤ h + (i * E : Nat)) ∧ (HS w0 w (MapL 60 g b 1 s fed [y]))) (i + 1) (true) (y') (fmin lo (xs.getD i 0)) (fmax hi (xs.getD i 0)) (_)) rfl rfl rfl ?_ ?_
              · exact ⟨by omega, by omega, by simp, fun _ => ⟨L', min l X, max h X, hy', hlo.min hX, hhi.max hX, by omega, by omega, by rw [hiE1, ← hiEe]; exact hlow, by rw [hiE1, ← hiEe]; exact hup⟩, hs⟩
              · omega
            · rw [decide_eq_false hSe]
              first | (refine RL_want rfl rfl ?_; refine L_move rfl rfl ?_) | refine RL_skip rfl rfl rfl rfl ?_ | refine RL_skipU rfl rfl rfl ?_
              first | (refine RL_want rfl rfl ?_; refine L_move rfl rfl ?_) | refine RL_skip rfl rfl rfl rfl ?_ | refine RL_skipU rfl rfl rfl ?_
              first | (refine RL_want rfl rfl ?_; refine L_move rfl rfl ?_) | refine RL_skip rfl rfl rfl rfl ?_ | refine RL_skipU rfl rfl rfl ?_
              first | (refine RL_want rfl rfl ?_; refine L_move rfl rfl ?_) | refine RL_skip rfl rfl rfl rfl ?_ | refine RL_skipU rfl rfl rfl ?_
              first | (refine RL_want rfl rfl ?_; refine L_idx1 rfl Try.underlying39 Try.ti35 rfl rfl (by with_reducible first | exact natc_k _ | exact natc_a1 _ | exact natc_0 | exact natc_1 | exact natc_2 | exact natc_s1 _ (by omega) | exact natc_a2 _ | exact natc_add _ _ | exact natc_mul _ _ | exact natc (by omega)) (by omega) hao ?_) | refine RL_skip rfl rfl rfl rfl ?_ | refine RL_skipU rfl rfl rfl ?_
              first | (refine RL_want rfl rfl ?_; refine L_load rfl Try.one35 rfl (by exact (hx.old hs hOm).get (fl_get (by omega))) ?_) | refine RL_skip rfl rfl rfl rfl ?_ | refine RL_skipU rfl rfl rfl ?_
              first | (refine RL_want rfl rfl ?_; refine L_farith rfl (op := .sub) rfl rfl rfl ?_; intro r151 k151 hr151; try replace hs := hs.drewN k151) | refine RL_skip rfl rfl rfl rfl ?_ | refine RL_skipU rfl rfl rfl ?_
              first | refine RL_skip rfl rfl rfl rfl ?_ | refine RL_skipU rfl rfl rfl ?_
              first | (refine RL_want rfl rfl ?_; refine L_move rfl rfl ?_) | refine RL_skip rfl rfl rfl rfl ?_ | refine RL_skipU rfl rfl rfl ?_
              first | (refine RL_want rfl rfl ?_; refine L_fcmp rfl rfl rfl (fun _ => by rw [binOp_float_cmp_leq]; rfl) ?_) | refine RL_skip rfl rfl rfl rfl ?_ | refine RL_skipU rfl rfl rfl ?_
              first | (refine RL_want rfl rfl ?_; refine L_not rfl rfl ?_) | refine RL_skip rfl rfl rfl rfl ?_ | refine RL_skipU rfl rfl rfl ?_
              first | (refine RL_want rfl rfl ?_; (first | refine L_pick_t rfl rfl rfl ?_ | refine L_pick_f rfl rfl rfl ?_)) | refine RL_skip rfl rfl rfl rfl ?_ | refine RL_skipU rfl rfl rfl ?_
              first | refine L_pick_t rfl rfl rfl ?_ | refine L_pick_f rfl rfl rfl ?_
              refine RL_then ?_
              refine W_if_false rfl ?_
              refine W_skip' ?_
              refine Nx_block ?_
              refine Nx_then ?_
              refine W_region ?_
              refine L_move rfl rfl ?_
              first | refine L_add rfl rfl rfl (wrp_i64 (by omega)) ?_ | refine L_add rfl rfl rfl rfl ?_
              refine L_assign rfl rfl ?_
              refine RL_nil' ?_
              refine Nx_loopP (i + 1, true, y', fmin lo (xs.getD i 0), fmax hi (xs.getD i 0), _) (is := [0, 1, 5, 7, 9, 10, 11]) (I' := (fun (i : Nat) (fed : Bool) (y : Nat) (lo : Nat) (hi : Nat) (w : World) => (i ≤ k) ∧ (i ≤ 200) ∧ (fed = decide (0 < i)) ∧ (0 < i → ∃ L l h : Int, FV y L ∧ FV lo l ∧ FV hi h ∧ l.natAbs ≤ T ∧ h.natAbs ≤ T ∧ l - (i * E : Nat) ≤ L ∧ L ≤ h + (i * E : Nat)) ∧ (HS w0 w (MapL 60 g b 1 s fed [y]))) (i + 1) (true) (y') (fmin lo (xs.getD i 0)) (fmax hi (xs.getD i 0)) (_)) rfl rfl rfl ?_ ?_
              · exact ⟨by omega, by omega, by simp, fun _ => ⟨L', min l X, max h X, hy', hlo.min hX, hhi.max hX, by omega, by omega, by rw [hiE1, ← hiEe]; exact hlow, by rw [hiE1, ← hiEe]; exact hup⟩, hs⟩
              · omega
        · rcases (show k ≤ i ∨ (i < k ∧ 200 ≤ i) by omega) with h5 | h5
          · refine W_seq ?_
            refine W_seq ?_
            refine W_region ?_
            refine L_move rfl rfl ?_
            refine L_move rfl rfl ?_
            refine L_len rfl Try.underlying39 rfl ?_
            first | refine L_lss rfl rfl rfl (dtrue (by omega)) ?_ | refine L_lss rfl rfl rfl (dfalse (by omega)) ?_ | refine L_lss rfl rfl rfl rfl ?_
            refine L_move rfl rfl ?_
            first | (refine RL_want rfl rfl ?_; refine L_move rfl rfl ?_) | refine RL_skip rfl rfl rfl rfl ?_ | refine RL_skipU rfl rfl rfl ?_
            first | (refine RL_want rfl rfl ?_; (first | refine L_lss rfl rfl rfl (dtrue (by omega)) ?_ | refine L_lss rfl rfl rfl (dfalse (by omega)) ?_ | refine L_lss rfl rfl rfl rfl ?_)) | refine RL_skip rfl rfl rfl rfl ?_ | refine RL_skipU rfl rfl rfl ?_
            first | refine L_pick_t rfl rfl rfl ?_ | refine L_pick_f rfl rfl rfl ?_
            refine RL_then ?_
            refine W_if_false rfl ?_
            refine W_exit' ?_
            refine Ex_then_exit ?_
            refine Ex_loop_exit ?_
            refine Ex_block_hit ?_
            refine Nx_cutP (w) (is := [0, 1]) (I' := (fun (w : World) => (HS w0 w [])) (w)) rfl rfl rfl ?_
            exact hs.forget hOm
          · refine W_seq ?_
            refine W_seq ?_
            refine W_region ?_
            refine L_move rfl rfl ?_
            refine L_move rfl rfl ?_
            refine L_len rfl Try.underlying39 rfl ?_
            first | refine L_lss rfl rfl rfl (dtrue (by omega)) ?_ | refine L_lss rfl rfl rfl (dfalse (by omega)) ?_ | refine L_lss rfl rfl rfl rfl ?_
            refine L_move rfl rfl ?_
            first | (refine RL_want rfl rfl ?_; refine L_move rfl rfl ?_) | refine RL_skip rfl rfl rfl rfl ?_ | refine RL_skipU rfl rfl rfl ?_
            first | (refine RL_want rfl rfl ?_; (first | refine L_lss rfl rfl rfl (dtrue (by omega)) ?_ | refine L_lss rfl rfl rfl (dfalse (by omega)) ?_ | refine L_lss rfl rfl rfl rfl ?_)) | refine RL_skip rfl rfl rfl rfl ?_ | refine RL_skipU rfl rfl rfl ?_
            first | refine L_pick_t rfl rfl rfl ?_ | refine L_pick_f rfl rfl rfl ?_
            refine RL_then ?_
            refine W_if_false rfl ?_
            refine W_exit' ?_
            refine Ex_then_exit ?_
            refine Ex_loop_exit ?_
            refine Ex_block_hit ?_
            refine Nx_cutP (w) (is := [0, 1]) (I' := (fun (w : World) => (HS w0 w [])) (w)) rfl rfl rfl ?_
            exact hs.forget hOm
    · clear hs
      intro w hI
      show W _ _ _ _ [(0, .float .f64 s), (1, .slice a k c)] w
      have hs : HS w0 w [] := hI
      clear htop
      by_cases hbig : 16384 < k + 1
      · refine W_seq ?_
        refine W_region ?_
        refine L_move rfl rfl ?_
        refine L_len rfl Try.underlying39 rfl ?_
        first | refine L_add rfl rfl rfl (wrp_i64 (by omega)) ?_ | refine L_add rfl rfl rfl rfl ?_
        refine L_move rfl rfl ?_
        refine L_call rfl Try.fun13 rfl (new_big ((k : Int) + 1) s w (by omega) hsh) ?_
        rintro _ w1 ⟨rfl, rfl⟩
        refine L_move rfl rfl ?_
        refine L_extract rfl rfl rfl ?_
        refine L_extract rfl rfl rfl ?_
        refine L_assign rfl rfl ?_
        refine L_assign rfl rfl ?_
        refine RL_then ?_
        refine W_seq ?_
        refine W_seq ?_
        refine W_region ?_
        refine L_move rfl rfl ?_
        refine L_len rfl Try.underlying39 rfl ?_
        first | refine L_geq rfl rfl rfl (dtrue (by omega)) ?_ | refine L_geq rfl rfl rfl (dfalse (by omega)) ?_ | refine L_geq rfl rfl rfl rfl ?_
        refine L_move rfl rfl ?_
        first | (refine RL_want rfl rfl ?_; refine L_move rfl rfl ?_) | refine RL_skip rfl rfl rfl rfl ?_ | refine RL_skipU rfl rfl rfl ?_
        first | (refine RL_want rfl rfl ?_; (first | refine L_neq rfl rfl rfl (dtrue (by omega)) ?_ | refine L_neq rfl rfl rfl (dfalse (by omega)) ?_ | refine L_neq rfl rfl rfl rfl ?_)) | refine RL_skip rfl rfl rfl rfl ?_ | refine RL_skipU rfl rfl rfl ?_
        first | refine L_pick_t rfl rfl rfl ?_ | refine L_pick_f rfl rfl rfl ?_
        refine L_move rfl rfl ?_
        first | (refine RL_want rfl rfl ?_; refine L_move rfl rfl ?_) | refine RL_skip rfl rfl rfl rfl ?_ | refine RL_skipU rfl rfl rfl ?_
        first | (refine RL_want rfl rfl ?_; refine L_ptrNil rfl Try.underlying40 rfl rfl ?_) | refine RL_skip rfl rfl rfl rfl ?_ | refine RL_skipU rfl rfl rfl ?_
        first | refine L_pick_t rfl rfl rfl ?_ | refine L_pick_f rfl rfl rfl ?_
        refine RL_then ?_
        refine W_if_true rfl ?_
        refine W_seq ?_
        refine W_region ?_
        refine L_move rfl rfl ?_
        refine L_len rfl Try.underlying39 rfl ?_
        first | refine L_geq rfl rfl rfl (dtrue (by omega)) ?_ | refine L_geq rfl rfl rfl (dfalse (by omega)) ?_ | refine L_geq rfl rfl rfl rfl ?_
        refine L_move rfl rfl ?_
        refine RL_want rfl rfl ?_
        refine L_call rfl Try.fun10 rfl (wakes_ok w1) ?_
        rintro _ w ⟨rfl, hs'⟩
        replace hs := hs.nil hs'
        first | refine L_pick_t rfl rfl rfl ?_ | refine L_pick_f rfl rfl rfl ?_
        refine L_assign rfl rfl ?_
        refine RL_then ?_
        refine W_ret' ?_
        refine Ex_then_ret ?_
        refine Ex_done1 rfl rfl ?_
        exact ⟨_, rfl, rfl, hs⟩
      · refine W_seq ?_
        refine W_region ?_
        refine L_move rfl rfl ?_
        refine L_len rfl Try.underlying39 rfl ?_
        first | refine L_add rfl rfl rfl (wrp_i64 (by omega)) ?_ | refine L_add rfl rfl rfl rfl ?_
        refine L_move rfl rfl ?_
        rw [show ((k : Int) + 1) = ((k + 1 : Nat) : Int) by simp]
        refine L_call rfl Try.fun13 rfl (new_ok (k + 1) s w (by omega) (by omega) hsh) ?_
        rintro _ w1 ⟨g2, b2, rfl, hs1, hg2, hb2⟩
        have hsz := hs.size
        replace hs := hs.call hs1 (Own.cons hg2 (Own.cons hb2 Own.nil))
        replace hg2 := Nat.le_trans hsz hg2
        replace hb2 := Nat.le_trans hsz hb2
        rw [List.nil_append] at hs
        clear hs1 hsz hOm hg hb
        have hO2 : ∀ {fed : Bool} {ls : List Nat}, Own w0 (MapL 60 g2 b2 (k + 1) s fed ls) := Own.cons hg2 (Own.cons hb2 Own.nil)
        by_cases hk200 : 200 ≤ k
        · refine L_move rfl rfl ?_
          refine L_extract rfl rfl rfl ?_
          refine L_extract rfl rfl rfl ?_
          refine L_assign rfl rfl ?_
          refine L_assign rfl rfl ?_
          refine RL_then ?_
          refine W_seq ?_
          refine W_seq ?_
          refine W_region ?_
          refine L_move rfl rfl ?_
          refine L_len rfl Try.underlying39 rfl ?_
          first | refine L_geq rfl rfl rfl (dtrue (by omega)) ?_ | refine L_geq rfl rfl rfl (dfalse (by omega)) ?_ | refine L_geq rfl rfl rfl rfl ?_
          refine L_move rfl rfl ?_
          first | (refine RL_want rfl rfl ?_; refine L_move rfl rfl ?_) | refine RL_skip rfl rfl rfl rfl ?_ | refine RL_skipU rfl rfl rfl ?_
          first | (refine RL_want rfl rfl ?_; (first | refine L_neq rfl rfl rfl (dtrue (by omega)) ?_ | refine L_neq rfl rfl rfl (dfalse (by omega)) ?_ | refine L_neq rfl rfl rfl rfl ?_)) | refine RL_skip rfl rfl rfl rfl ?_ | refine RL_skipU rfl rfl rfl ?_
          first | refine L_pick_t rfl rfl rfl ?_ | refine L_pick_f rfl rfl rfl ?_
          refine L_move rfl rfl ?_
          first | (refine RL_want rfl rfl ?_; refine L_move rfl rfl ?_) | refine RL_skip rfl rfl rfl rfl ?_ | refine RL_skipU rfl rfl rfl ?_
          first | (refine RL_want rfl rfl ?_; refine L_ptrNil rfl Try.underlying40 rfl rfl ?_) | refine RL_skip rfl rfl rfl rfl ?_ | refine RL_skipU rfl rfl rfl ?_
          first | refine L_pick_t rfl rfl rfl ?_ | refine L_pick_f rfl rfl rfl ?_
          refine RL_then ?_
          refine W_if_true rfl ?_
          refine W_seq ?_
          refine W_region ?_
          refine L_move rfl rfl ?_
          refine L_len rfl Try.underlying39 rfl ?_
          first | refine L_geq rfl rfl rfl (dtrue (by omega)) ?_ | refine L_geq rfl rfl rfl (dfalse (by omega)) ?_ | refine L_geq rfl rfl rfl rfl ?_
          refine L_move rfl rfl ?_
          refine RL_want rfl rfl ?_
          refine L_call rfl Try.fun10 rfl (wakes_ok w1) ?_
          rintro _ w ⟨rfl, hs'⟩
          replace hs := hs.nil hs'
          first | refine L_pick_t rfl rfl rfl ?_ | refine L_pick_f rfl rfl rfl ?_
          refine L_assign rfl rfl ?_
          refine RL_then ?_
          refine W_ret' ?_
          refine Ex_then_ret ?_
          refine Ex_done1 rfl rfl ?_
          exact ⟨_, rfl, rfl, hs.forget hO2⟩
        · obtain ⟨row, hrow⟩ : ∃ row, row = xs ++ [4607182418800017408] := ⟨_, rfl⟩
          have hrl : row.length = k + 1 := by rw [hrow]; simp [hk]
          have hrowv : ∀ i, i < k + 1 → ∃ v, FV (row.getD i 0) v ∧ v.natAbs ≤ Bd := fun i hi => by
            rcases Nat.lt_or_ge i k with h5 | h5
            · obtain ⟨v, h1, h2⟩ := hxs i h5 (by omega)
              refine ⟨v, ?_, by omega⟩
              rw [hrow, getD_app_left (by omega)]; exact h1
            · obtain rfl : i = k := by omega
              refine ⟨_, by rw [hrow, hk, getD_app_here]; exact FV.nat (by decide), ?_⟩
              rw [Int.natAbs_natCast]
              exact rv_le.2 (by decide)
          have hfr : fl row = fl xs ++ [Value.float .f64 4607182418800017408] := by rw [hrow]; simp [fl]
          clear hxs
          refine L_move rfl rfl ?_
          refine L_extract rfl rfl rfl ?_
          refine L_extract rfl rfl rfl ?_
          refine L_assign rfl rfl ?_
          refine L_assign rfl rfl ?_
          refine RL_then ?_
          refine W_seq ?_
          refine W_seq ?_
          refine W_region ?_
          refine L_move rfl rfl ?_
          refine L_len rfl Try.underlying39 rfl ?_
          first | refine L_geq rfl rfl rfl (dtrue (by omega)) ?_ | refine L_geq rfl rfl rfl (dfalse (by omega)) ?_ | refine L_geq rfl rfl rfl rfl ?_
          refine L_move rfl rfl ?_
          first | (refine RL_want rfl rfl ?_; refine L_move rfl rfl ?_) | refine RL_skip rfl rfl rfl rfl ?_ | refine RL_skipU rfl rfl rfl ?_
          first | (refine RL_want rfl rfl ?_; (first | refine L_neq rfl rfl rfl (dtrue (by omega)) ?_ | refine L_neq rfl rfl rfl (dfalse (by omega)) ?_ | refine L_neq rfl rfl rfl rfl ?_)) | refine RL_skip rfl rfl rfl rfl ?_ | refine RL_skipU rfl rfl rfl ?_
          first | refine L_pick_t rfl rfl rfl ?_ | refine L_pick_f rfl rfl rfl ?_
          refine L_move rfl rfl ?_
          first | (refine RL_want rfl rfl ?_; refine L_move rfl rfl ?_) | refine RL_skip rfl rfl rfl rfl ?_ | refine RL_skipU rfl rfl rfl ?_
          first | (refine RL_want rfl rfl ?_; refine L_ptrNil rfl Try.underlying40 rfl rfl ?_) | refine RL_skip rfl rfl rfl rfl ?_ | refine RL_skipU rfl rfl rfl ?_
          first | refine L_pick_t rfl rfl rfl ?_ | refine L_pick_f rfl rfl rfl ?_
          refine RL_then ?_
          refine W_if_false rfl ?_
          refine W_skip' ?_
          refine Nx_then ?_
          refine W_seq ?_
          refine W_region ?_
          refine L_buildSlice rfl hs Try.underlying39 Try.ti35 rfl (by decide) rfl (by simp [Value.cells]) ?_
          intro b183 w hb183 hnb183 hs
          try simp only [List.flatMap_cons, List.flatMap_nil, cells_int, cells_float, cells_complex, cells_bool, cells_string, cells_pointer, cells_slice, cells_map, cells_agg, List.append_nil, List.set_cons_succ, List.set_cons_zero, List.cons_append, List.nil_append] at hs
          refine L_move rfl rfl ?_
          have hb0 : Bl w0 35 1 (.slice (some ⟨b183, 0, none⟩) 0 0) 0 [] [(b183, Row 35 [])] := .row (sp := []) hb183 rfl rfl (Nat.le_refl _)
          refine L_appendS rfl Try.underlying39 Try.ti35 rfl (by decide) (L := MapL 60 g2 b2 (k + 1) s false (List.replicate (k + 1) 0)) hs hb0 rfl rfl (by rw [fl_length, ← hk, Nat.mul_one]) (hx.old hs (hO2.app hb0.own)) (fl_one _) (by omega) (by omega) ?_
          intro v1 w M1 hs hbl
          rw [List.nil_append, Nat.zero_add] at hbl
          refine L_buildSlice rfl hs Try.underlying39 Try.ti35 rfl (by decide) rfl (by simp [Value.cells]) ?_
          intro b186 w hb186 hnb186 hs
          try simp only [List.flatMap_cons, List.flatMap_nil, cells_int, cells_float, cells_complex, cells_bool, cells_string, cells_pointer, cells_slice, cells_map, cells_agg, List.append_nil, List.set_cons_succ, List.set_cons_zero, List.cons_append, List.nil_append] at hs
          refine L_appendT rfl Try.underlying39 Try.ti35 rfl (L := MapL 60 g2 b2 (k + 1) s false (List.replicate (k + 1) 0)) hs hb186 hbl rfl rfl rfl (fl_one [4607182418800017408]) (by omega) (by omega) ?_
          intro v2 w M2 hs hblm
          obtain ⟨gm, capm, spm, rfl, rfl, hgm, hcm, hnm⟩ := hblm.own_row (by omega)
          rw [← hfr] at hs
          refine L_assign rfl rfl ?_
          refine RL_then ?_
          refine W_seq ?_
          refine W_seq ?_
          refine W_region ?_
          refine L_assign rfl rfl ?_
          refine RL_then ?_
          refine W_block ?_
          have hgne : gm ≠ g2 ∧ gm ≠ b2 ∧ g2 ≠ b2 := by
            have := hs.nodup
            simp at this
            exact ⟨fun h => this.1.2 h.symm, fun h => this.2 h.symm, this.1.1⟩
          clear hb0 hbl hblm hx hnb186
          refine W_loop4 (fun (j : Nat) (fed : Bool) (ls : List Nat) (w : World) => [(17, .pointer (some ⟨b2, 0, none⟩)), (18, .slice (some ⟨gm, 0, none⟩) (k + 1) capm), (19, .int .i64 j)]) (fun (j : Nat) (fed : Bool) (ls : List Nat) (w : World) => w) (fun (j : Nat) (fed : Bool) (ls : List Nat) (w : World) => (j ≤ 3) ∧ (ls.length = k + 1) ∧ (fed = true → ∀ i, i < k + 1 → ∃ v, FV (row.getD i 0) v ∧ FV (ls.getD i 0) v) ∧ (HS w0 w (MapL 60 g2 b2 (k + 1) s fed ls ++ [(gm, Row 35 (fl row ++ spm))]))) (fun (j : Nat) (fed : Bool) (ls : List Nat) (w : World) => 3 - j) (0) (false) (List.replicate (k + 1) 0) (w) (is := [17, 18, 19]) rfl rfl ?_ ?_
          · exact ⟨Nat.zero_le _, by simp, fun h => by simp at h, hs⟩
          · clear hs
            intro j fed ls w hI
            show W _ _ _ _ [(17, .pointer (some ⟨b2, 0, none⟩)), (18, .slice (some ⟨gm, 0, none⟩) (k + 1) capm), (19, .int .i64 j)] w
            obtain ⟨hj, hll, hlv, hs⟩ := hI
            by_cases hlt : j < 3
            · refine W_seq ?_
              refine W_seq ?_
              refine W_region ?_
              refine L_move rfl rfl ?_
              first | refine L_lss rfl rfl rfl (dtrue (by omega)) ?_ | refine L_lss rfl rfl rfl (dfalse (by omega)) ?_ | refine L_lss rfl rfl rfl rfl ?_
              refine RL_then ?_
              refine W_if_true rfl ?_
              refine W_skip' ?_
              refine Nx_then ?_
              refine W_seq ?_
              refine W_block ?_
              refine W_seq ?_
              refine W_region ?_
              refine L_move rfl rfl ?_
              refine L_move rfl rfl ?_
              obtain ⟨l0, hl0⟩ : ∃ l0, l0 = if fed then ls else row := ⟨_, rfl⟩
              have hl0v : ∀ i, i < k + 1 → ∃ v, FV (row.getD i 0) v ∧ FV (l0.getD i 0) v ∧ v.natAbs ≤ Bd := fun i hi => by
                obtain ⟨v, h1, h2⟩ := hrowv i hi
                cases fed with
                | false => exact ⟨v, h1, by rw [hl0]; exact h1, h2⟩
                | true =>
                  obtain ⟨u, h3, h4⟩ := hlv rfl i hi
                  obtain rfl := h1.unique h3
                  exact ⟨v, h1, by rw [hl0]; exact h4, h2⟩
              refine L_call rfl Try.fun16 rfl (feed_ok b2 g2 (k + 1) s fed ls row l0 (some ⟨gm, 0, none⟩) capm w ⟨hs.get (i := 1) rfl, hs.get (i := 0) rfl, hll⟩ hgne.2.2 (SlC.of_row (hs.get (i := 2) rfl)) hrl (by omega) (by omega) ⟨hgne.1, hgne.2.1⟩ hl0) ?_
              rintro _ w' ⟨q, out, ls', rfl, hs', hq, hol, hll', hD, hL⟩
              replace hq : Own w [(q, Row 35 (fl out))] := Own.cons hq Own.nil
              have hq0 := hq.le hs.size
              replace hs := hs.callU (A := MapL 60 g2 b2 (k + 1) s fed ls) (U := MapL 60 g2 b2 (k + 1) s true ls') (L2 := [(gm, _)]) rfl hs' hq
              have hov : ∀ i, i < k + 1 → FV (out.getD i 0) 0 ∧ ∃ v, FV (row.getD i 0) v ∧ FV (ls'.getD i 0) v := fun i hi => by
                obtain ⟨v, h1, h2, h3⟩ := hl0v i hi
                obtain ⟨L', h4, _, _, h5⟩ := fv_step (E := Bd / 2251799813685248) hc74 hS hS0 hS1 h1 h2 h3 (Nat.le_refl _) (by omega) rfl
                obtain ⟨rfl, h6⟩ := h5 rfl
                exact ⟨h6.cn (hD i hi), L', h1, h4.cn (hL i hi)⟩
              clear hs' hD hL hl0v hlv hl0 hq hll
              replace hs : HS w0 w' ((MapL 60 g2 b2 (k + 1) s true ls' ++ [(gm, Row 35 (fl row ++ spm))]) ++ [(q, Row 35 (fl out))]) := hs
              refine L_move rfl rfl ?_
              refine L_extract rfl rfl rfl ?_
              refine L_extract rfl rfl rfl ?_
              refine L_assign rfl rfl ?_
              refine L_assign rfl rfl ?_
              refine RL_then ?_
              refine W_seq ?_
              refine W_seq ?_
              refine W_region ?_
              refine L_move rfl rfl ?_
              first | refine L_neq rfl rfl rfl (dtrue (by omega)) ?_ | refine L_neq rfl rfl rfl (dfalse (by omega)) ?_ | refine L_neq rfl rfl rfl rfl ?_
              refine L_move rfl rfl ?_
              first | (refine RL_want rfl rfl ?_; refine L_move rfl rfl ?_) | refine RL_skip rfl rfl rfl rfl ?_ | refine RL_skipU rfl rfl rfl ?_
              first | (refine RL_want rfl rfl ?_; refine L_len rfl Try.underlying39 rfl ?_) | refine RL_skip rfl rfl rfl rfl ?_ | refine RL_skipU rfl rfl rfl ?_
              first | (refine RL_want rfl rfl ?_; refine L_move rfl rfl ?_) | refine RL_skip rfl rfl rfl rfl ?_ | refine RL_skipU rfl rfl rfl ?_
              first | (refine RL_want rfl rfl ?_; refine L_len rfl Try.underlying39 rfl ?_) | refine RL_skip rfl rfl rfl rfl ?_ | refine RL_skipU rfl rfl rfl ?_
              first | (refine RL_want rfl rfl ?_; (first | refine L_neq rfl rfl rfl (dtrue (by omega)) ?_ | refine L_neq rfl rfl rfl (dfalse (by omega)) ?_ | refine L_neq rfl rfl rfl rfl ?_)) | refine RL_skip rfl rfl rfl rfl ?_ | refine RL_skipU rfl rfl rfl ?_
              first | refine L_pick_t rfl rfl rfl ?_ | refine L_pick_f rfl rfl rfl ?_
              refine RL_then ?_
              refine W_if_false rfl ?_
              refine W_skip' ?_
              refine Nx_then ?_
              refine W_seq ?_
              refine W_region ?_
              refine L_assign rfl rfl ?_
              refine RL_then ?_
              refine W_block ?_
              refine W_loop2 (fun (p : Nat) (w : World) => [(17, .pointer (some ⟨b2, 0, none⟩)), (18, .slice (some ⟨gm, 0, none⟩) (k + 1) capm), (19, .int .i64 j), (20, .slice (some ⟨q, 0, none⟩) (k + 1) (k + 1)), (22, .int .i64 p)]) (fun (p : Nat) (w : World) => w) (fun (p : Nat) (w : World) => (p ≤ k + 1) ∧ (HS w0 w ((MapL 60 g2 b2 (k + 1) s true ls' ++ [(gm, Row 35 (fl row ++ spm))]) ++ [(q, Row 35 (fl out))]))) (fun (p : Nat) (w : World) => k + 1 - p) (0) (w') (is := [17, 18, 19, 20, 22]) rfl rfl ?_ ?_
              · exact ⟨Nat.zero_le _, hs⟩
              · clear hs
                intro p w hI
                show W _ _ _ _ [(17, .pointer (some ⟨b2, 0, none⟩)), (18, .slice (some ⟨gm, 0, none⟩) (k + 1) capm), (19, .int .i64 j), (20, .slice (some ⟨q, 0, none⟩) (k + 1) (k + 1)), (22, .int .i64 p)] w
                obtain ⟨hp, hs⟩ := hI
                by_cases hlt2 : p < k + 1
                · skip
                  refine W_seq ?_
                  refine W_seq ?_
                  refine W_region ?_
                  refine L_move rfl rfl ?_
                  refine L_move rfl rfl ?_
                  refine L_len rfl Try.underlying39 rfl ?_
                  first | refine L_lss rfl rfl rfl (dtrue (by omega)) ?_ | refine L_lss rfl rfl rfl (dfalse (by omega)) ?_ | refine L_lss rfl rfl rfl rfl ?_
                  refine RL_then ?_
                  refine W_if_true rfl ?_
                  have hz : (FloatKind.f64.format.order (out.getD p 0) 0 != some .eq) = false := by
                    show (!(FloatKind.f64.format.order (out.getD p 0) 0 == some .eq)) = false
                    rw [(hov p hlt2).1.eql fv_0]; rfl
                  refine W_skip' ?_
                  refine Nx_then ?_
                  refine W_seq ?_
                  refine W_block ?_
                  refine W_seq ?_
                  refine W_region ?_
                  refine L_move rfl rfl ?_
                  refine L_move rfl rfl ?_
                  refine L_idx1 rfl Try.underlying39 Try.ti35 rfl rfl (by with_reducible first | exact natc_k _ | exact natc_a1 _ | exact natc_0 | exact natc_1 | exact natc_2 | exact natc_s1 _ (by omega) | exact natc_a2 _ | exact natc_add _ _ | exact natc_mul _ _ | exact natc (by omega)) (by omega) rfl ?_
                  refine L_load rfl Try.one35 rfl (by exact hs.cellA (i := 3) rfl (fl_get (by omega))) ?_
                  refine L_fcmp rfl rfl rfl (fun _ => by rw [binOp_float_cmp_neq]; rfl) ?_
                  refine RL_then ?_
                  rw [hz]
                  refine W_if_false rfl ?_
                  refine W_skip' ?_
                  refine Nx_block ?_
                  refine Nx_then ?_
                  refine W_region ?_
                  refine L_move rfl rfl ?_
                  first | refine L_add rfl rfl rfl (wrp_i64 (by omega)) ?_ | refine L_add rfl rfl rfl rfl ?_
                  refine L_assign rfl rfl ?_
                  refine RL_nil' ?_
                  refine Nx_loopP (p + 1, w) (is := [17, 18, 19, 20, 22]) (I' := (fun (p : Nat) (w : World) => (p ≤ k + 1) ∧ (HS w0 w ((MapL 60 g2 b2 (k + 1) s true ls' ++ [(gm, Row 35 (fl row ++ spm))]) ++ [(q, Row 35 (fl out))]))) (p + 1) (w)) rfl rfl rfl ?_ ?_
                  · exact ⟨by omega, hs⟩
                  · omega
                · refine W_seq ?_
                  refine W_seq ?_
                  refine W_region ?_
                  refine L_move rfl rfl ?_
                  refine L_move rfl rfl ?_
                  refine L_len rfl Try.underlying39 rfl ?_
                  first | refine L_lss rfl rfl rfl (dtrue (by omega)) ?_ | refine L_lss rfl rfl rfl (dfalse (by omega)) ?_ | refine L_lss rfl rfl rfl rfl ?_
                  refine RL_then ?_
                  refine W_if_false rfl ?_
                  refine W_exit' ?_
                  refine Ex_then_exit ?_
                  refine Ex_loop_exit ?_
                  refine Ex_block_hit ?_
                  refine Nx_block ?_
                  refine Nx_then ?_
                  refine W_region ?_
                  refine L_move rfl rfl ?_
                  first | refine L_add rfl rfl rfl (wrp_i64 (by omega)) ?_ | refine L_add rfl rfl rfl rfl ?_
                  refine L_assign rfl rfl ?_
                  refine RL_nil' ?_
                  refine Nx_loopP (j + 1, true, ls', w) (is := [17, 18, 19]) (I' := (fun (j : Nat) (fed : Bool) (ls : List Nat) (w : World) => (j ≤ 3) ∧ (ls.length = k + 1) ∧ (fed = true → ∀ i, i < k + 1 → ∃ v, FV (row.getD i 0) v ∧ FV (ls.getD i 0) v) ∧ (HS w0 w (MapL 60 g2 b2 (k + 1) s fed ls ++ [(gm, Row 35 (fl row ++ spm))]))) (j + 1) (true) (ls') (w)) rfl rfl rfl ?_ ?_
                  · exact ⟨by omega, hll', fun _ i hi => (hov i hi).2, hs.dropR hq0⟩
                  · omega
            · refine W_seq ?_
              refine W_seq ?_
              refine W_region ?_
              refine L_move rfl rfl ?_
              first | refine L_lss rfl rfl rfl (dtrue (by omega)) ?_ | refine L_lss rfl rfl rfl (dfalse (by omega)) ?_ | refine L_lss rfl rfl rfl rfl ?_
              refine RL_then ?_
              refine W_if_false rfl ?_
              refine W_exit' ?_
              refine Ex_then_exit ?_
              refine Ex_loop_exit ?_
              refine Ex_block_hit ?_
              refine Nx_then ?_
              refine W_seq ?_
              refine W_region ?_
              refine L_call rfl Try.fun10 rfl (wakes_ok w) ?_
              rintro _ w' ⟨rfl, hs'⟩
              replace hs := hs.nil hs'
              refine L_assign rfl rfl ?_
              refine RL_then ?_
              refine W_ret' ?_
              refine Ex_done1 rfl rfl ?_
              exact ⟨_, rfl, rfl, hs.forget (hO2.app (Own.cons hgm Own.nil))⟩
end Go.Proofs.Ytfehgelggjpaaaa
