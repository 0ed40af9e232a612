/-
  A part of the proof: what functions that the statement reaches do, or a plain law on what they do. Each theorem holds under its own premises alone.
-/
import Derived.Test.YtoiobncojfeoiaaTUR
import Derived.Test.YtoiobncojfeoiaaTUP
namespace Go.Proofs.Ytoiobncojfeoiaa
open Go Go.Lk
/-! ### GuardKnown -/
theorem add_nil (nm : ByteArray) (a : Option Addr) (n c : Nat) (w0 : World) : Ret Try.prog 14 [.pointer none, .agg #[.string nm, .slice a n c]] w0 fun v w' => v = .tuple #[.int .i64 0, .int .i64 1] ∧ HS w0 w' [] := by
  refine Ret.start fun w hs => ?_
  refine calls_of_W Try.func14 rfl rfl rfl ?_
  refine W_seq ?_
  refine W_region ?_
  refine L_box rfl hs rfl ?_
  intro b3 w hb3 hnb3 hs
  try dsimp only [List.set_cons_succ, List.set_cons_zero, List.cons_append, List.nil_append] at hs
  refine L_assign rfl rfl ?_
  refine L_assign rfl rfl ?_
  refine RL_then ?_
  refine W_seq ?_
  refine W_seq ?_
  refine W_region ?_
  refine L_move rfl rfl ?_
  refine L_ptrNil rfl Try.underlying34 rfl rfl ?_
  refine RL_then ?_
  replace hs : HS w0 w [(b3, Row 40 [.string nm, .slice a n c])] := hs
  refine W_if_true rfl ?_
  refine W_seq ?_
  refine W_region ?_
  refine L_assign rfl rfl ?_
  refine L_assign rfl rfl ?_
  refine RL_then ?_
  refine W_ret' ?_
  refine Ex_then_ret ?_
  refine Ex_done2 rfl rfl rfl ?_
  exact ⟨_, rfl, rfl, hs.forget (Own.cons hb3 Own.nil)⟩
theorem drop_nil (q : Int) (w0 : World) : Ret Try.prog 30 [.pointer none, .int .i64 q] w0 fun v w' => v = .int .i64 1 ∧ HS w0 w' [] := by
  refine Ret.start fun w hs => ?_
  refine calls_of_W Try.func30 rfl rfl rfl ?_
  refine W_seq ?_
  refine W_region ?_
  refine L_box rfl hs rfl ?_
  intro b3 w hb3 hnb3 hs
  try dsimp only [List.set_cons_succ, List.set_cons_zero, List.cons_append, List.nil_append] at hs
  refine L_assign rfl rfl ?_
  refine RL_then ?_
  refine W_seq ?_
  refine W_seq ?_
  refine W_region ?_
  replace hs : HS w0 w [(b3, Row 3 [.int .i64 q])] := hs
  refine L_move rfl rfl ?_
  refine L_ptrNil rfl Try.underlying34 rfl rfl ?_
  refine RL_then ?_
  refine W_if_true rfl ?_
  refine W_seq ?_
  refine W_region ?_
  refine L_assign rfl rfl ?_
  refine RL_then ?_
  refine W_ret' ?_
  refine Ex_then_ret ?_
  refine Ex_done1 rfl rfl ?_
  exact ⟨_, rfl, rfl, hs.forget (Own.cons hb3 Own.nil)⟩
theorem watch_nil (t : Nat) (a : Option Addr) (n c : Nat) (w0 : World) : Ret Try.prog 15 [.pointer none, .float .f64 t, .slice a n c] w0 fun v w' => v = .slice none 0 0 ∧ HS w0 w' [] := by
  refine Ret.start fun w hs => ?_
  refine calls_of_W Try.func15 rfl rfl rfl ?_
  refine W_seq ?_
  refine W_region ?_
  refine L_box rfl hs rfl ?_
  intro b4 w hb4 hnb4 hs
  try dsimp only [List.set_cons_succ, List.set_cons_zero, List.cons_append, List.nil_append] at hs
  refine L_assign rfl rfl ?_
  refine RL_then ?_
  refine W_seq ?_
  refine W_seq ?_
  refine W_region ?_
  replace hs : HS w0 w [(b4, Row 23 [.float .f64 t])] := hs
  refine L_move rfl rfl ?_
  refine L_ptrNil rfl Try.underlying34 rfl rfl ?_
  refine RL_then ?_
  refine W_if_true rfl ?_
  refine W_seq ?_
  refine W_region ?_
  refine L_assign rfl rfl ?_
  refine RL_then ?_
  refine W_ret' ?_
  refine Ex_then_ret ?_
  refine Ex_done1 rfl rfl ?_
  exact ⟨_, rfl, rfl, hs.forget (Own.cons hb4 Own.nil)⟩
theorem in_nil (q : Int) (w0 : World) : Ret Try.prog 17 [.pointer none, .int .i64 q] w0 fun v w' => v = .slice none 0 0 ∧ HS w0 w' [] := by
  refine Ret.start fun w hs => ?_
  refine calls_of_W Try.func17 rfl rfl rfl ?_
  refine W_seq ?_
  refine W_region ?_
  refine L_assign rfl rfl ?_
  refine RL_then ?_
  refine W_seq ?_
  refine W_seq ?_
  refine W_region ?_
  refine L_move rfl rfl ?_
  refine L_ptrNil rfl Try.underlying34 rfl rfl ?_
  refine RL_then ?_
  refine W_if_true rfl ?_
  refine W_seq ?_
  refine W_region ?_
  refine L_assign rfl rfl ?_
  refine RL_then ?_
  refine W_ret' ?_
  refine Ex_then_ret ?_
  refine Ex_done1 rfl rfl ?_
  exact ⟨_, rfl, rfl, hs⟩
theorem k1 : whenF sqP (13835058055282163712, 4611686018427387904) (4607182418800017408, 0) 4607182418800017408 = (0, false) := by kernel_rfl
theorem k2 : whenF sqP (13835058055282163712, 4611686018427387904) (13830554455654793216, 0) 4621819117588971520 = (0, false) := by kernel_rfl
theorem k3 : whenF sqP (4607182418800017408, 4607182418800017408) (13830554455654793216, 0) 4621819117588971520 = (0, true) := by kernel_rfl
end Go.Proofs.Ytoiobncojfeoiaa
