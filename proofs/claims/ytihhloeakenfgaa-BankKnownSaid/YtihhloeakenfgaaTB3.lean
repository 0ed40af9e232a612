/-
  A part of the proof: what functions that the statement reaches do, or a plain law on what they do. Each theorem holds under its own premises alone.
-/
import Derived.Test.YtihhloeakenfgaaTB2
import Derived.Test.YtihhloeakenfgaaKit
namespace Go.Proofs.Ytihhloeakenfgaa
open Go Go.Lk
theorem newline_ok (a : Option Addr) (k c : Nat) (zs : List (Nat × Nat)) (w0 : World) (hz : SlC w0 a (cl zs)) (hk : zs.length = k) (h1 : 1 ≤ k) (h2 : k ≤ 256) :
    Ret Try.prog 7 [.slice a k c] w0 fun v w' => ∃ B g cg sp, v = .tuple #[.pointer (some ⟨B, 0, none⟩), .int .i64 0] ∧ HS w0 w' [(B, Row 52 [.slice (some ⟨g, 0, none⟩) k cg, .slice none 0 0]), (g, Row 28 (cl zs ++ sp))] ∧ w0.heap.size ≤ B ∧ w0.heap.size ≤ g ∧ (cl zs ++ sp).length = cg := by
  refine Ret.start fun w hs => ?_
  refine calls_of_W Try.func7 rfl rfl rfl ?_
  refine W_seq ?_
  refine W_region ?_
  refine L_assign rfl rfl ?_
  refine L_assign rfl rfl ?_
  refine RL_then ?_
  refine W_seq ?_
  refine W_block ?_
  refine W_seq ?_
  refine W_region ?_
  refine L_move rfl rfl ?_
  refine L_len rfl Try.underlying27 rfl ?_
  first | refine L_eql rfl rfl rfl (dtrue (by omega)) ?_ | refine L_eql rfl rfl rfl (dfalse (by omega)) ?_ | refine L_eql rfl rfl rfl rfl ?_
  refine L_assign rfl rfl ?_
  refine RL_then ?_
  refine W_if_false rfl ?_
  refine W_seq ?_
  refine W_region ?_
  refine L_move rfl rfl ?_
  refine L_len rfl Try.underlying27 rfl ?_
  first | refine L_gtr rfl rfl rfl (dtrue (by omega)) ?_ | refine L_gtr rfl rfl rfl (dfalse (by omega)) ?_ | refine L_gtr rfl rfl rfl rfl ?_
  refine L_assign rfl rfl ?_
  refine RL_then ?_
  refine W_if_false rfl ?_
  refine W_skip' ?_
  refine Nx_block ?_
  refine Nx_then ?_
  refine W_seq ?_
  refine W_region ?_
  refine L_move rfl rfl ?_
  refine L_appendS (L := []) (M := []) rfl Try.underlying27 Try.ti28 rfl (by decide) (by rw [List.append_nil]; exact hs) Bl.nil rfl rfl (news := cl zs) (by rw [cl_length, hk, Nat.mul_one]) (hz.old hs Own.nil) (cl_one _) (by omega) (by omega) ?_
  intro v w M hs hb
  rw [List.nil_append, Nat.zero_add] at hb
  rw [List.nil_append] at hs
  obtain ⟨g, cg, sp, rfl, rfl, hg, hc, hcg⟩ := hb.own_row (by omega)
  refine L_build rfl rfl (Pl.built Try.pl52 rfl) ?_
  refine L_box rfl hs rfl ?_
  intro b15 w hb15 hnb15 hs
  try dsimp only [List.set_cons_succ, List.set_cons_zero, List.cons_append, List.nil_append] at hs
  refine L_assign rfl rfl ?_
  refine L_assign rfl rfl ?_
  refine RL_then ?_
  refine W_ret' ?_
  refine Ex_done2 rfl rfl rfl ?_
  exact ⟨_, rfl, _, g, cg, sp, rfl, hs.mem_perm (List.Perm.swap _ _ _), hb15, hg, by simpa using hc⟩
theorem state_ok (B : Nat) (cs : List Value) (s0 s1 : Nat × Nat) (w0 : World) (hb : w0.heap[B]? = some (Row 50 (cs ++ [cv s0, cv s1]))) (hl : cs.length = 6) :
    Ret Try.prog 14 [.pointer (some ⟨B, 0, none⟩)] w0 fun v w' => v = .agg #[cv s0, cv s1] ∧ HS w0 w' [] := by
  refine Ret.start fun w hs => ?_
  refine calls_of_W Try.func14 rfl rfl rfl ?_
  refine W_seq ?_
  refine W_region ?_
  refine L_alloc rfl hs Try.ti45 ?_
  intro b2 w hb2 hnb2 hs
  try dsimp only [List.set_cons_succ, List.set_cons_zero, List.cons_append, List.nil_append] at hs
  refine RL_then ?_
  refine W_seq ?_
  refine W_seq ?_
  refine W_region ?_
  refine L_move rfl rfl ?_
  refine L_ptrNil rfl Try.underlying30 rfl rfl ?_
  refine RL_then ?_
  refine W_if_false rfl ?_
  have hbw : w.heap[B]? = some (Row 50 (cs ++ [cv s0, cv s1])) := by rw [hs.old (Array.getElem?_eq_some_iff.1 hb).1 (by simp; have := (Array.getElem?_eq_some_iff.1 hb).1; omega)]; exact hb
  refine W_skip' ?_
  refine Nx_then ?_
  refine W_seq ?_
  refine W_region ?_
  refine L_move rfl rfl ?_
  refine L_nilCheck rfl rfl ?_
  refine L_fieldAddr rfl (off := 6) Try.underlying50 rfl rfl Try.ti45 rfl ?_
  refine L_loadA rfl Try.agg45 Try.ti45 rfl (by exact cellsAt_row [cv s0, cv s1] hbw (fun q v hq => by rw [List.getElem?_append_right (by omega), hl]; simpa using hq)) ?_
  refine L_storeA hs (i := 0) rfl Try.ti45 rfl rfl (by first | rfl | exact add_lit0 _ _ | exact Addr.add_lit ..) (by first | omega | (simp; done) | (simp; omega)) (by simp [Value.oneCell']) ?_
  intro w hs
  try dsimp only [List.set_cons_succ, List.set_cons_zero, List.cons_append, List.nil_append] at hs
  refine RL_then ?_
  refine W_ret' ?_
  refine Ex_doneC rfl rfl Try.agg45 Try.ti45 (by exact cellsAt_whole (hs.get (i := 0) rfl)) ?_
  exact ⟨_, rfl, rfl, hs.forget (Own.cons hb2 Own.nil)⟩
end Go.Proofs.Ytihhloeakenfgaa
