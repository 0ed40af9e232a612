/-
  A part of the proof: what functions that the statement reaches do, or a plain law on what they do. Each theorem holds under its own premises alone.
-/
import Derived.Test.YtihhloeakenfgaaTB10
namespace Go.Proofs.Ytihhloeakenfgaa
open Go Go.Lk
theorem quo_some {x y : Nat} {v u : Int} (hx : Rep x v) (hy : Rep y u) (hu : u ≠ 0) : ∃ r, floatBits .quo .f64 x y = some r := by
  obtain ⟨c, hc⟩ : ∃ c, c = 1074 := ⟨_, rfl⟩
  obtain ⟨s, m, i, h1, _⟩ := hx.read c hc
  obtain ⟨t, n, j, k1, _, _, k3⟩ := hy.read c hc
  have hn : n ≠ 0 := fun h => by
    subst h
    have h0 : Ieee.signed t 0 (j + 1074).toNat = 0 := by rw [signed_eq]; simp
    rw [h0] at k3
    have hp := Nat.two_pow_pos c
    rcases Int.mul_eq_zero.1 k3.symm with h | h
    · exact hu h
    · omega
  show ∃ r, (Ieee.Datum.quotient _ (Ieee.double.read x) (Ieee.double.read y)).map Ieee.double.write = some r
  rw [h1, k1]
  simp only [Ieee.Datum.quotient]
  rw [if_neg hn]
  exact ⟨_, rfl⟩
def UnitR (k n : Int) (re im : Nat) : Prop := (n = 2 → k.natAbs % 2 = 0 → re = 4607182418800017408 ∧ im = 0) ∧ (n = 2 → k.natAbs % 2 = 1 → re = 13830554455654793216 ∧ im = 0)
theorem unit_ok (k n : Int) (h1 : 1 ≤ n) (h2 : n ≤ 1099511627776) (h3 : -1099511627776 ≤ k ∧ k ≤ 1099511627776) (w0 : World) : Ret Try.prog 26 [.int .i64 k, .int .i64 n] w0 fun v w' => ∃ re im, v = .complex .f64 re im ∧ HS w0 w' [] ∧ UnitR k n re im := by
  refine Ret.start fun w hs => ?_
  have hab := Int.natAbs_tmod k n
  obtain ⟨m, hm⟩ : ∃ m, m = k.tmod n := ⟨_, rfl⟩
  rw [← hm] at hab
  have hml : m.natAbs < n.natAbs := by rw [hab]; exact Nat.mod_lt _ (by omega)
  have hab2 : n = 2 → m.natAbs = k.natAbs % 2 := fun h => by rw [hab, h]; rfl
  have fin : ∀ (j : Int) (w : World), HS w0 w [] → j.natAbs ≤ n.natAbs → (n = 2 → k.natAbs % 2 = 0 → j = 0) → (n = 2 → k.natAbs % 2 = 1 → j = 1) → ∀ r, Fs .quo (FloatKind.f64.nearest j) (FloatKind.f64.nearest n) r → Ret Try.prog 35 [.float .f64 r] w fun v w' => ∃ re im, v = .complex .f64 re im ∧ HS w0 w' [] ∧ UnitR k n re im := fun j w hs hj e1 e2 r hr => by
    obtain ⟨q, hq⟩ := quo_some (rep_nearest j (by omega)) (rep_nearest n (by omega)) (by omega)
    obtain rfl := fs_val hr hq
    refine Calls.mono (turn_ok r (floatBits_lt hq) w) fun e w' => ?_
    rintro ⟨v, rfl, re, im, rfl, hs', t1, t2⟩
    refine ⟨_, rfl, re, im, rfl, hs.nil hs', fun hn he => t1 ?_, fun hn he => t2 ?_⟩
    · rw [e1 hn he, hn] at hq
      exact Option.some.inj (hq.symm.trans (by decide +kernel))
    · rw [e2 hn he, hn] at hq
      exact Option.some.inj (hq.symm.trans (by decide +kernel))
  refine calls_of_W Try.func26 rfl rfl rfl ?_
  refine W_seq ?_
  refine W_region ?_
  refine L_assign rfl rfl ?_
  refine RL_then ?_
  refine W_seq ?_
  refine W_seq ?_
  refine W_region ?_
  refine L_move rfl rfl ?_
  first | refine L_lss rfl rfl rfl (dtrue (by omega)) ?_ | refine L_lss rfl rfl rfl (dfalse (by omega)) ?_ | refine L_lss rfl rfl rfl rfl ?_
  refine RL_then ?_
  refine W_if_false rfl ?_
  refine W_skip' ?_
  refine Nx_then ?_
  refine W_seq ?_
  refine W_region ?_
  refine L_move rfl rfl ?_
  refine L_move rfl rfl ?_
  refine L_rem rfl rfl rfl (by omega) ?_
  rw [← hm]
  by_cases hneg : m < 0
  · refine L_assign rfl rfl ?_
    refine RL_then ?_
    refine W_seq ?_
    refine W_seq ?_
    refine W_region ?_
    refine L_move rfl rfl ?_
    first | refine L_lss rfl rfl rfl (dtrue (by omega)) ?_ | refine L_lss rfl rfl rfl (dfalse (by omega)) ?_ | refine L_lss rfl rfl rfl rfl ?_
    refine RL_then ?_
    refine W_if_true rfl ?_
    refine W_region ?_
    refine L_move rfl rfl ?_
    refine L_move rfl rfl ?_
    first | refine L_add rfl rfl rfl (wrp_i64 (by omega)) ?_ | refine L_add rfl rfl rfl rfl ?_
    refine L_assign rfl rfl ?_
    refine RL_then ?_
    refine W_seq ?_
    refine W_seq ?_
    refine W_region ?_
    refine L_move rfl rfl ?_
    refine L_move rfl rfl ?_
    refine L_move rfl rfl ?_
    first | refine L_sub rfl rfl rfl (wrp_i64 (by omega)) ?_ | refine L_sub rfl rfl rfl rfl ?_
    by_cases hgt : m + n > n - (m + n)
    · first | refine L_gtr rfl rfl rfl (dtrue (by omega)) ?_ | refine L_gtr rfl rfl rfl (dfalse (by omega)) ?_ | refine L_gtr rfl rfl rfl rfl ?_
      refine RL_then ?_
      refine W_if_true rfl ?_
      refine W_region ?_
      refine L_move rfl rfl ?_
      refine L_move rfl rfl ?_
      first | refine L_sub rfl rfl rfl (wrp_i64 (by omega)) ?_ | refine L_sub rfl rfl rfl rfl ?_
      refine L_assign rfl rfl ?_
      refine RL_then ?_
      refine W_seq ?_
      refine W_region ?_
      refine L_move rfl rfl ?_
      refine L_itof rfl Try.underlying3 Try.underlying25 rfl ?_
      refine L_move rfl rfl ?_
      refine L_itof rfl Try.underlying3 Try.underlying25 rfl ?_
      refine L_farith rfl (op := .quo) rfl rfl rfl ?_
      intro r27 k27 hr27
      try replace hs := hs.drewN k27
      refine L_call rfl Try.fun35 rfl (fin (m + n - n) _ hs (by omega) (fun h h' => by have := hab2 h; omega) (fun h h' => by have := hab2 h; omega) _ hr27) ?_
      rintro _ w2 ⟨re, im, rfl, hs', hU⟩
      refine L_assign rfl rfl ?_
      refine RL_then ?_
      refine W_ret' ?_
      refine Ex_done1 rfl rfl ?_
      exact ⟨_, rfl, _, _, rfl, hs', hU⟩
    · first | refine L_gtr rfl rfl rfl (dtrue (by omega)) ?_ | refine L_gtr rfl rfl rfl (dfalse (by omega)) ?_ | refine L_gtr rfl rfl rfl rfl ?_
      refine RL_then ?_
      refine W_if_false rfl ?_
      refine W_skip' ?_
      refine Nx_then ?_
      refine W_seq ?_
      refine W_region ?_
      refine L_move rfl rfl ?_
      refine L_itof rfl Try.underlying3 Try.underlying25 rfl ?_
      refine L_move rfl rfl ?_
      refine L_itof rfl Try.underlying3 Try.underlying25 rfl ?_
      refine L_farith rfl (op := .quo) rfl rfl rfl ?_
      intro r27 k27 hr27
      try replace hs := hs.drewN k27
      refine L_call rfl Try.fun35 rfl (fin (m + n) _ hs (by omega) (fun h h' => by have := hab2 h; omega) (fun h h' => by have := hab2 h; omega) _ hr27) ?_
      rintro _ w2 ⟨re, im, rfl, hs', hU⟩
      refine L_assign rfl rfl ?_
      refine RL_then ?_
      refine W_ret' ?_
      refine Ex_done1 rfl rfl ?_
      exact ⟨_, rfl, _, _, rfl, hs', hU⟩
  · refine L_assign rfl rfl ?_
    refine RL_then ?_
    refine W_seq ?_
    refine W_seq ?_
    refine W_region ?_
    refine L_move rfl rfl ?_
    first | refine L_lss rfl rfl rfl (dtrue (by omega)) ?_ | refine L_lss rfl rfl rfl (dfalse (by omega)) ?_ | refine L_lss rfl rfl rfl rfl ?_
    refine RL_then ?_
    refine W_if_false rfl ?_
    refine W_skip' ?_
    refine Nx_then ?_
    refine W_seq ?_
    refine W_seq ?_
    refine W_region ?_
    refine L_move rfl rfl ?_
    refine L_move rfl rfl ?_
    refine L_move rfl rfl ?_
    first | refine L_sub rfl rfl rfl (wrp_i64 (by omega)) ?_ | refine L_sub rfl rfl rfl rfl ?_
    by_cases hgt : m > n - m
    · first | refine L_gtr rfl rfl rfl (dtrue (by omega)) ?_ | refine L_gtr rfl rfl rfl (dfalse (by omega)) ?_ | refine L_gtr rfl rfl rfl rfl ?_
      refine RL_then ?_
      refine W_if_true rfl ?_
      refine W_region ?_
      refine L_move rfl rfl ?_
      refine L_move rfl rfl ?_
      first | refine L_sub rfl rfl rfl (wrp_i64 (by omega)) ?_ | refine L_sub rfl rfl rfl rfl ?_
      refine L_assign rfl rfl ?_
      refine RL_then ?_
      refine W_seq ?_
      refine W_region ?_
      refine L_move rfl rfl ?_
      refine L_itof rfl Try.underlying3 Try.underlying25 rfl ?_
      refine L_move rfl rfl ?_
      refine L_itof rfl Try.underlying3 Try.underlying25 rfl ?_
      refine L_farith rfl (op := .quo) rfl rfl rfl ?_
      intro r27 k27 hr27
      try replace hs := hs.drewN k27
      refine L_call rfl Try.fun35 rfl (fin (m - n) _ hs (by omega) (fun h h' => by have := hab2 h; omega) (fun h h' => by have := hab2 h; omega) _ hr27) ?_
      rintro _ w2 ⟨re, im, rfl, hs', hU⟩
      refine L_assign rfl rfl ?_
      refine RL_then ?_
      refine W_ret' ?_
      refine Ex_done1 rfl rfl ?_
      exact ⟨_, rfl, _, _, rfl, hs', hU⟩
    · first | refine L_gtr rfl rfl rfl (dtrue (by omega)) ?_ | refine L_gtr rfl rfl rfl (dfalse (by omega)) ?_ | refine L_gtr rfl rfl rfl rfl ?_
      refine RL_then ?_
      refine W_if_false rfl ?_
      refine W_skip' ?_
      refine Nx_then ?_
      refine W_seq ?_
      refine W_region ?_
      refine L_move rfl rfl ?_
      refine L_itof rfl Try.underlying3 Try.underlying25 rfl ?_
      refine L_move rfl rfl ?_
      refine L_itof rfl Try.underlying3 Try.underlying25 rfl ?_
      refine L_farith rfl (op := .quo) rfl rfl rfl ?_
      intro r27 k27 hr27
      try replace hs := hs.drewN k27
      refine L_call rfl Try.fun35 rfl (fin m _ hs (by omega) (fun h h' => by have := hab2 h; omega) (fun h h' => by have := hab2 h; omega) _ hr27) ?_
      rintro _ w2 ⟨re, im, rfl, hs', hU⟩
      refine L_assign rfl rfl ?_
      refine RL_then ?_
      refine W_ret' ?_
      refine Ex_done1 rfl rfl ?_
      exact ⟨_, rfl, _, _, rfl, hs', hU⟩
end Go.Proofs.Ytihhloeakenfgaa
