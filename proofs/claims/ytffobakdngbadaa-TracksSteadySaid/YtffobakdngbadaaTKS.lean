/-
 A part of the proof: what functions that the statement reaches do, or a plain law on what they do. Each theorem holds under its own premises alone.
-/
import Derived.Test.YtffobakdngbadaaTKR
namespace Go.Proofs.Ytffobakdngbadaa
open Go Go.Lk
/-! ### has; Drop of what is not there; the rule -/
theorem drop_none (w0 w : World) (n : Nat) (k : Bok) (L : Bks) (id : Int) (hs : HS w0 w (k.bks ++ L)) (hk : k.ok w0 n) (ho : ∀ o ∈ k.os, o.t.id ≠ id) :
  Ret Try.prog 11 [bv k.B, .int .i64 id] w fun v w' => v = .int .i64 190 ∧ HS w0 w' (k.bks ++ L) := by
 obtain ⟨A, hA⟩ : ∃ A, A = k.bks ++ L := ⟨_, rfl⟩
 have hB : k.row ∈ A := by rw [hA]; exact List.mem_append_left _ (List.mem_cons_self ..)
 have hm : k.mrow ∈ A := by rw [hA]; exact List.mem_append_left _ (List.mem_cons_of_mem _ (List.mem_cons_self ..))
 have hg := Bok.getN ho
 rw [← hA] at hs ⊢
 clear hA
 refine calls_of_W Try.func11 rfl rfl rfl (W_seq (W_region (L_assign rfl rfl (RL_then (W_seq (W_block (W_seq (W_region (L_move rfl rfl (L_ptrNil rfl Try.underlying26 rfl rfl (L_assign rfl rfl (RL_then ?_))))))))))))
 refine W_if_false rfl (W_seq (W_region (L_move rfl rfl (L_nilCheck rfl rfl (L_fieldAddr rfl (off := 6) Try.underlying76 rfl rfl Try.ti74 rfl (L_load rfl Try.one74 rfl (by exact cellAM hs hB (j := 6) rfl) ?_))))))
 refine L_move rfl rfl ?_
 refine L_look1 (k := id) (ev := pv) (z := .pointer none) rfl K3 Try.underlying74 Try.ti78 (hs.has _ hm) rfl rfl ?_; rw [hg]
 refine L_ptrNil rfl Try.underlying78 rfl rfl (L_assign rfl rfl (RL_then (W_if_true rfl (W_seq (W_region (L_assign rfl rfl (RL_then (W_ret' (Ex_block_ret (Ex_then_ret (Ex_done1 rfl rfl ?_)))))))))))
 exact ⟨_, rfl, rfl, hs⟩
def rW : Rul := ⟨4607182418800017408, 0, 4621256167635550208, 2, 3, 2⟩
theorem rule_ok (w0 : World) : Ret Try.prog 39 [] w0 fun v w' => v = .agg rW.cells.toArray ∧ HS w0 w' [] := by
 refine Ret.start fun w hs => ?_
 refine calls_of_W Try.func39 rfl rfl rfl (W_seq (W_region (L_alloc rfl hs Try.ti49 ?_)))
 intro b0 w hb0 hnb0 hs
 dsimp only [List.set_cons_succ, List.set_cons_zero, List.cons_append, List.nil_append] at hs
 refine RL_then (W_seq (W_region (L_build rfl rfl (Pl.built Try.pl49 rfl) (L_storeA hs (i := 0) rfl Try.ti49 rfl rfl (by rfl) (by simp) (by simp [Value.oneCell']) ?_))))
 intro w hs
 dsimp only [List.set_cons_succ, List.set_cons_zero, List.cons_append, List.nil_append] at hs
 refine RL_then (W_ret' (Ex_doneC rfl rfl Try.agg49 Try.ti49 (by exact cellsAt_whole (cs := rW.cells) (hs.get (i := 0) rfl)) ?_))
 exact ⟨_, rfl, rfl, hs.forget (Own.cons hb0 Own.nil)⟩
end Go.Proofs.Ytffobakdngbadaa
