/-
  A part of the proof: what functions that the statement reaches do, or a plain law on what they do. Each theorem holds under its own premises alone.
-/
import Derived.Test.YtdllakfojligjaaTTB5
namespace Go.Proofs.Ytdllakfojligjaa
open Go Go.Lk
/-! ### TopTracks: small numbers, the rule -/
theorem size_ok (n m : Int) (hm : 1 ≤ m) (hm2 : m ≤ 1048576) (w : World) : Ret Try.prog 12 [.int .i64 n, .int .i64 m] w fun v w' => v = .int .i64 (sizeF n m) ∧ w' = w := by
 obtain ⟨h1, h2, h3, h4, h5, h6⟩ := size_rng (n := n) (m := m) (by omega)
 refine calls_of_W Try.func12 rfl rfl rfl ?_
 refine W_seq ?_
 refine W_region ?_
 refine L_assign rfl rfl ?_
 refine RL_then ?_
 refine W_seq ?_
 refine W_region ?_
 refine L_move rfl rfl ?_
 refine L_move rfl rfl ?_
 refine L_rem rfl rfl rfl (by omega) ?_
 refine L_move rfl rfl ?_
 first | refine L_add rfl rfl rfl (wrp_i64 (by omega)) ?_ | refine L_add rfl rfl rfl rfl ?_
 refine L_move rfl rfl ?_
 refine L_rem rfl rfl rfl (by omega) ?_
 first | refine L_add rfl rfl rfl (wrp_i64 (by omega)) ?_ | refine L_add rfl rfl rfl rfl ?_
 refine L_assign rfl rfl ?_
 refine RL_then ?_
 refine W_ret' ?_
 refine Ex_done1 rfl rfl ?_
 exact ⟨_, rfl, rfl, rfl⟩
def topR (no ga ne of mi : Int) (q : Nat) : Rul := ⟨FloatKind.f64.nearest (sizeF no 1000), q, FloatKind.f64.nearest (sizeF ga 100), sizeF ne (sizeF of 16), sizeF of 16, sizeF mi 16⟩
theorem rule_ok (no sw ga ne of mi : Int) (w0 : World) : Ret Try.prog 8 [.int .i64 no, .int .i64 sw, .int .i64 ga, .int .i64 ne, .int .i64 of, .int .i64 mi] w0 fun v w' => HS w0 w' [] ∧ ∃ q, v = .agg (topR no ga ne of mi q).cells.toArray ∧ cn q = cn (fop .quo (FloatKind.f64.nearest (sizeF sw 1000 - 1)) 4620693217682128896) := by
 obtain ⟨_, _, _, _, o1, o2⟩ := size_rng (n := of) (m := 16) (by omega)
 obtain ⟨_, _, _, _, s1, s2⟩ := size_rng (n := sw) (m := 1000) (by omega)
 refine Ret.start fun w hs => ?_
 refine calls_of_W Try.func8 rfl rfl rfl ?_
 refine W_seq ?_
 refine W_region ?_
 refine L_alloc rfl hs Try.ti25 ?_
 intro b12 w hb12 hnb12 hs
 try dsimp only [List.set_cons_succ, List.set_cons_zero, List.cons_append, List.nil_append] at hs
 refine RL_then ?_
 refine W_seq ?_
 refine W_region ?_
 refine L_move rfl rfl ?_
 refine L_call rfl Try.fun12 rfl (size_ok of 16 (by omega) (by omega) _) ?_
 rintro _ w1 ⟨rfl, rfl⟩
 refine L_assign rfl rfl ?_
 refine RL_then ?_
 refine W_seq ?_
 refine W_region ?_
 refine L_move rfl rfl ?_
 refine L_call rfl Try.fun12 rfl (size_ok no 1000 (by omega) (by omega) _) ?_
 rintro _ w1 ⟨rfl, rfl⟩
 refine L_itof rfl Try.underlying3 Try.underlying23 rfl ?_
 refine L_move rfl rfl ?_
 refine L_call rfl Try.fun12 rfl (size_ok sw 1000 (by omega) (by omega) _) ?_
 rintro _ w1 ⟨rfl, rfl⟩
 first | refine L_sub rfl rfl rfl (wrp_i64 (by omega)) ?_ | refine L_sub rfl rfl rfl rfl ?_
 refine L_itof rfl Try.underlying3 Try.underlying23 rfl ?_
 refine L_farith rfl (op := .quo) rfl rfl rfl ?_
 intro r22 k22 hr22
 try replace hs := hs.drewN k22
 refine L_move rfl rfl ?_
 refine L_call rfl Try.fun12 rfl (size_ok ga 100 (by omega) (by omega) _) ?_
 rintro _ w1 ⟨rfl, rfl⟩
 refine L_itof rfl Try.underlying3 Try.underlying23 rfl ?_
 refine L_move rfl rfl ?_
 refine L_move rfl rfl ?_
 refine L_call rfl Try.fun12 rfl (size_ok ne (sizeF of 16) (by omega) (by omega) _) ?_
 rintro _ w1 ⟨rfl, rfl⟩
 refine L_move rfl rfl ?_
 refine L_move rfl rfl ?_
 refine L_call rfl Try.fun12 rfl (size_ok mi 16 (by omega) (by omega) _) ?_
 rintro _ w1 ⟨rfl, rfl⟩
 skip
 refine L_build rfl rfl (Pl.builtN Try.pl25 rfl) ?_
 refine RL_set 32 (v' := .agg (topR no ga ne of mi r22).cells.toArray) rfl (rfl) ?_
 refine L_storeA hs (i := 0) rfl Try.ti25 rfl rfl (by first | rfl | exact add_lit0 _ _ | exact Addr.add_lit .. | (rw [add_add]; exact add_lit0 _ _)) (by simp [Rul.cells]) (by simp [Rul.cells, Value.oneCell']) ?_
 intro w hs
 try dsimp only [List.set_cons_succ, List.set_cons_zero, List.cons_append, List.nil_append] at hs
 refine RL_then ?_
 refine W_ret' ?_
 refine Ex_doneC rfl rfl Try.agg25 Try.ti25 (by exact cellsAt_whole (cs := (topR no ga ne of mi r22).cells) (hs.get (i := 0) rfl)) ?_
 exact ⟨_, rfl, hs.forget (Own.cons hb12 Own.nil), r22, rfl, (Fs.cn hr22).trans (cn_fop ..).symm⟩
end Go.Proofs.Ytdllakfojligjaa
