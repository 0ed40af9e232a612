/-
  A part of the proof: what functions that the statement reaches do, or a plain law on what they do. Each theorem holds under its own premises alone.
-/
import Derived.Test.YtdllakfojligjaaTCG1
namespace Go.Proofs.Ytdllakfojligjaa
open Go Go.Lk
theorem row_ok (B c u v o h n i : Nat) (w0 : World) (hB : w0.heap[B]? = some (Row 116 (GameR n c u v o h))) (h1 : 1 ≤ n) (h2 : n ≤ 512) (hi : i < n) :
  Ret Try.prog 58 [.pointer (some ⟨B, 0, none⟩), .int .i64 i] w0 fun r w' => r = .slice (some ⟨c, i * n, none⟩) n n ∧ HS w0 w' [] := by
 refine Ret.start fun w hs => ?_
 have hin : i * n ≤ 262144 := Nat.le_trans (Nat.mul_le_mul (show i ≤ 512 by omega) h2) (by omega)
 have hin1 : (i + 1) * n = i * n + n := Nat.succ_mul _ _
 have hle : (i + 1) * n ≤ n * n := Nat.mul_le_mul_right n (by omega)
 have e1 : (i : Int) * (n : Int) = ((i * n : Nat) : Int) := (Int.natCast_mul ..).symm
 have e2 : ((i : Int) + 1) * (n : Int) = (((i + 1) * n : Nat) : Int) := by rw [Int.natCast_mul]; rfl
 refine calls_of_W Try.func58 rfl rfl rfl ?_
 refine W_seq ?_
 refine W_region ?_
 refine L_assign rfl rfl ?_
 refine RL_then ?_
 refine W_seq ?_
 refine W_pht [0, 1, 2, 4, 5, 6, 7, 10, 11, 12, 13, 14, 17, 18, 19, 20, 21] [3, 8, 9, 15, 16, 22, 23, 24, 25] [] (fun _ _ _ => False) Try.mixed (by kernel_rfl) (fun _ _ _ _ _ h => h) hs ?_
 refine PL_val rfl (fun w => R_move rfl) ?_
 refine PL_val rfl (fun w => R_nilCheck rfl) ?_
 refine PL_val rfl (fun w => R_fieldAddr (off := 1) Try.underlying116 rfl rfl Try.ti69 rfl) ?_
 refine PL_val rfl (fun w => R_move rfl) ?_
 refine PL_val rfl (fun w => R_move rfl) ?_
 refine PL_val rfl (fun w => R_nilCheck rfl) ?_
 refine PL_val rfl (fun w => R_fieldAddr (off := 0) Try.underlying116 rfl rfl Try.ti3 rfl) ?_
 refine PL_val rfl (fun w => R_move rfl) ?_
 first | refine PL_val rfl (fun w => R_add rfl rfl (wrp_i64 (by omega))) ?_ | refine PL_val rfl (fun w => R_add rfl rfl rfl) ?_
 refine PL_val rfl (fun w => R_move rfl) ?_
 refine PL_val rfl (fun w => R_nilCheck rfl) ?_
 refine PL_val rfl (fun w => R_fieldAddr (off := 0) Try.underlying116 rfl rfl Try.ti3 rfl) ?_
 refine PL_val rfl (fun w => R_move rfl) ?_
 first | refine PL_val rfl (fun w => R_add rfl rfl (wrp_i64 (by omega))) ?_ | refine PL_val rfl (fun w => R_add rfl rfl rfl) ?_
 refine PL_val rfl (fun w => R_move rfl) ?_
 refine PL_val rfl (fun w => R_nilCheck rfl) ?_
 refine PL_val rfl (fun w => R_fieldAddr (off := 0) Try.underlying116 rfl rfl Try.ti3 rfl) ?_
 refine PL_end ?_
 refine HL_val rfl (fun w hs => R_load Try.one69 rfl (by (rw [add_lit0]; exact hs.oldcell (Lk.cell_of_row hB rfl) (by simp)))) ?_
 refine HL_val rfl (fun w hs => R_load Try.one3 rfl (by (rw [add_lit0]; exact hs.oldcell (Lk.cell_of_row hB rfl) (by simp)))) ?_
 first | refine HL_val rfl (fun w hs => R_mul rfl rfl (wrp_i64 (by omega))) ?_ | refine HL_val rfl (fun w hs => R_mul rfl rfl rfl) ?_
 refine HL_val rfl (fun w hs => R_load Try.one3 rfl (by (rw [add_lit0]; exact hs.oldcell (Lk.cell_of_row hB rfl) (by simp)))) ?_
 first | refine HL_val rfl (fun w hs => R_mul rfl rfl (wrp_i64 (by omega))) ?_ | refine HL_val rfl (fun w hs => R_mul rfl rfl rfl) ?_
 refine HL_val rfl (fun w hs => R_load Try.one3 rfl (by (rw [add_lit0]; exact hs.oldcell (Lk.cell_of_row hB rfl) (by simp)))) ?_
 first | refine HL_val rfl (fun w hs => R_mul rfl rfl (wrp_i64 (by omega))) ?_ | refine HL_val rfl (fun w hs => R_mul rfl rfl rfl) ?_
 refine HL_val rfl (fun w hs => R_slice111 Try.underlying69 Try.ti2 rfl rfl rfl rfl (by with_reducible first | exact natc_k _ | exact natc_a1 _ | exact natc_0 | exact natc_1 | exact natc_2 | exact natc_s1 _ (by omega) | exact natc_a2 _ | exact natc_add _ _ | exact natc_mul _ _ | exact natc (by omega)) (by with_reducible first | exact natc_k _ | exact natc_a1 _ | exact natc_0 | exact natc_1 | exact natc_2 | exact natc_s1 _ (by omega) | exact natc_a2 _ | exact natc_add _ _ | exact natc_mul _ _ | exact natc (by omega)) (by with_reducible first | exact natc_k _ | exact natc_a1 _ | exact natc_0 | exact natc_1 | exact natc_2 | exact natc_s1 _ (by omega) | exact natc_a2 _ | exact natc_add _ _ | exact natc_mul _ _ | exact natc (by omega)) (by omega)) ?_
 refine HL_val rfl (fun w hs => R_assign rfl) ?_
 refine HL_tail ?_
 intro w hs
 refine RL_then ?_
 refine W_ret' ?_
 refine Ex_done1 rfl rfl ?_
 refine ⟨_, rfl, ?_, hs⟩
 rw [e2, Int.toNat_natCast]
 have e3 : slA (some ⟨c, 0, none⟩) (i * n) ((i + 1) * n) 1 = some ⟨c, i * n, none⟩ := by
  unfold slA
  rw [if_neg (by omega), Nat.mul_one]
  show some ((Addr.mk c 0 none).add (i * n)) = _
  rw [add_lit0]
 rw [e3, show (i + 1) * n - i * n = n by omega]
end Go.Proofs.Ytdllakfojligjaa
