/-
  A part of the proof: what functions that the statement reaches do, or a plain law on what they do. Each theorem holds under its own premises alone.
-/
import Derived.Test.YtdllakfojligjaaTKD
import Derived.Test.YtdllakfojligjaaKitY
import Derived.Laws.BitsAll
namespace Go.Proofs.Ytdllakfojligjaa
open Go Go.Lk
/-! ### Bits that are set -/
def popS : ByteArray := ⟨#[0, 1, 1, 2, 1, 2, 2, 3, 1, 2, 2, 3, 2, 3, 3, 4, 1, 2, 2, 3, 2, 3, 3, 4, 2, 3, 3, 4, 3, 4, 4, 5, 1, 2, 2, 3, 2, 3, 3, 4, 2, 3, 3, 4, 3, 4, 4, 5, 2, 3, 3, 4, 3, 4, 4, 5, 3, 4, 4, 5, 4, 5, 5, 6, 1, 2, 2, 3, 2, 3, 3, 4, 2, 3, 3, 4, 3, 4, 4, 5, 2, 3, 3, 4, 3, 4, 4, 5, 3, 4, 4, 5, 4, 5, 5, 6, 2, 3, 3, 4, 3, 4, 4, 5, 3, 4, 4, 5, 4, 5, 5, 6, 3, 4, 4, 5, 4, 5, 5, 6, 4, 5, 5, 6, 5, 6, 6, 7, 1, 2, 2, 3, 2, 3, 3, 4, 2, 3, 3, 4, 3, 4, 4, 5, 2, 3, 3, 4, 3, 4, 4, 5, 3, 4, 4, 5, 4, 5, 5, 6, 2, 3, 3, 4, 3, 4, 4, 5, 3, 4, 4, 5, 4, 5, 5, 6, 3, 4, 4, 5, 4, 5, 5, 6, 4, 5, 5, 6, 5, 6, 6, 7, 2, 3, 3, 4, 3, 4, 4, 5, 3, 4, 4, 5, 4, 5, 5, 6, 3, 4, 4, 5, 4, 5, 5, 6, 4, 5, 5, 6, 5, 6, 6, 7, 3, 4, 4, 5, 4, 5, 5, 6, 4, 5, 5, 6, 5, 6, 6, 7, 4, 5, 5, 6, 5, 6, 6, 7, 5, 6, 6, 7, 6, 7, 7, 8]⟩
def popT (i : Nat) : Nat := (popS.data[i]?.getD 0).toNat
theorem pop_at {i : Nat} (h : i < 256) : ∃ b : UInt8, popS[i]? = some b ∧ b.toNat = popT i ∧ b.toNat ≤ 8 := by
 have hs : popS.size = 256 := by decide +kernel
 have h1 : ∀ j, j < 256 → popT j ≤ 8 := by decide +kernel
 have hi : i < popS.size := by omega
 refine ⟨popS[i], by simp [hi], ?_, ?_⟩
 ·
  unfold popT
  rw [Array.getElem?_eq_getElem (show i < popS.data.size from hi)]; rfl
 ·
  have := h1 i h
  unfold popT at this
  rw [Array.getElem?_eq_getElem (show i < popS.data.size from hi)] at this
  exact this
def popF (n : Nat) : Nat := popT (n / 256) + popT (n % 256)
theorem shr8 (n : Nat) : (n : Int).fdiv (2 ^ (min (Int.toNat 8) (IntKind.bits .u16))) = ((n / 256 : Nat) : Int) := by
 show (n : Int).fdiv 256 = _
 rw [Int.fdiv_eq_ediv_of_nonneg _ (by decide)]
 omega
theorem and255 (n : Nat) (h : n < 65536) : bits .and .u16 (n : Int) 255 = ((n % 256 : Nat) : Int) := by
 have := u16_and_nat n 255 h (by decide)
 rw [show n &&& 255 = n % 256 from Nat.and_two_pow_sub_one_eq_mod n 8] at this
 exact this
theorem ones_ok (n : Nat) (h : n < 65536) (w : World) : Ret Try.prog 71 [.int .u16 n] w fun v w' => v = .int .i64 (popF n) ∧ HS w w' [] := by
 refine Ret.start fun w hs => ?_
 obtain ⟨b1, h1, e1, l1⟩ := pop_at (i := n / 256) (by omega)
 obtain ⟨b2, h2, e2, l2⟩ := pop_at (i := n % 256) (by omega)
 refine calls_of_W Try.func71 rfl rfl rfl ?_
 refine W_seq ?_
 refine W_region ?_
 refine L_assign rfl rfl ?_
 refine RL_then ?_
 refine W_seq ?_
 refine W_pht [0, 1, 2, 3, 4, 5, 6, 7, 8] [] [] (fun _ _ _ => False) Try.mixed (by kernel_rfl) (fun _ _ _ _ _ h => h) hs ?_
 refine PL_val rfl (fun w => R_move rfl) ?_
 refine PL_val rfl (fun w => R_shr rfl rfl (by omega) (shr8 n)) ?_
 refine PL_val rfl (fun w => R_indexS Try.underlying9 rfl rfl h1) ?_
 refine PL_val rfl (fun w => R_move rfl) ?_
 refine PL_val rfl (fun w => R_ibits (by simp) rfl rfl (and255 n h)) ?_
 refine PL_val rfl (fun w => R_indexS Try.underlying9 rfl rfl h2) ?_
 first | refine PL_val rfl (fun w => R_add rfl rfl (wrp_u8 (by omega))) ?_ | refine PL_val rfl (fun w => R_add rfl rfl rfl) ?_
 first | refine PL_val rfl (fun w => R_itoi Try.underlying5 Try.underlying3 rfl (wrp_i64 (by omega))) ?_ | refine PL_val rfl (fun w => R_itoi Try.underlying5 Try.underlying3 rfl rfl) ?_
 refine PL_val rfl (fun w => R_assign rfl) ?_
 refine PL_end ?_
 refine HL_tail ?_
 intro w hs
 refine RL_then ?_
 refine W_ret' ?_
 refine Ex_done1 rfl rfl ?_
 refine ⟨_, rfl, ?_, hs⟩
 rw [e1, e2]; rfl
end Go.Proofs.Ytdllakfojligjaa
