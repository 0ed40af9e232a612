/-
  A part of the proof: what functions that the statement reaches do, or a plain law on what they do. Each theorem holds under its own premises alone.
-/
import Derived.Test.YtdllakfojligjaaTKE
namespace Go.Proofs.Ytdllakfojligjaa
open Go Go.Lk
/-! ### The closures of 'ends' -/
def lowF (seen n : Nat) : Nat := popF (seen % 2 ^ n)
theorem shl1 : ∀ n, n < 17 → IntKind.wrap .u16 (1 * 2 ^ (min ((n : Nat) : Int).toNat (IntKind.bits .u16))) = ((2 ^ n % 65536 : Nat) : Int) := by decide +kernel
theorem sub1 : ∀ n, n < 17 → IntKind.wrap .u16 (((2 ^ n % 65536 : Nat) : Int) - 1) = ((2 ^ n - 1 : Nat) : Int) := by decide +kernel
theorem pow17 : ∀ n, n < 17 → 2 ^ n - 1 < 65536 := by decide +kernel
theorem and_low16 (s n : Nat) (hs : s < 65536) (hn : n < 17) : bits .and .u16 (s : Int) ((2 ^ n - 1 : Nat) : Int) = ((s % 2 ^ n : Nat) : Int) := by
 rw [u16_and_nat s _ hs (pow17 n hn), Nat.and_two_pow_sub_one_eq_mod]
theorem lowest_ok (b p s n : Nat) (w0 : World) (hb : w0.cell? ⟨b, 0, none⟩ = some (.pointer (some ⟨p, 0, none⟩))) (hs12 : w0.cell? ⟨p, 12, none⟩ = some (.int .u16 s)) (hs16 : s < 65536) (hn : n < 17) :
  Ret Try.prog 70 [.int .i64 n, .pointer (some ⟨b, 0, none⟩)] w0 fun v w' => v = .int .i64 (lowF s n) ∧ HS w0 w' [] := by
 refine Ret.start fun w hs => ?_
 have hb' := fun {w : World} (hs : HS w0 w []) => hs.oldcell hb (Own.nil.notin (World.block_lt_of_cell? w0 _ hb))
 have hs' := fun {w : World} (hs : HS w0 w []) => hs.oldcell hs12 (Own.nil.notin (World.block_lt_of_cell? w0 _ hs12))
 refine calls_of_W Try.func70 rfl rfl rfl ?_
 refine W_seq ?_
 refine W_region ?_
 refine L_assign rfl rfl ?_
 refine RL_then ?_
 refine W_seq ?_
 refine W_pht [4, 5, 6] [0, 1, 2, 3, 7] [8, 9] (fun _ _ _ => False) Try.mixed (by kernel_rfl) (fun _ _ _ _ _ h => h) hs ?_
 refine PL_val rfl (fun w => R_move rfl) ?_
 refine PL_val rfl (fun w => R_shl rfl rfl (by omega) (shl1 n hn)) ?_
 refine PL_val rfl (fun w => R_sub rfl rfl (sub1 n hn)) ?_
 refine PL_end ?_
 refine HL_val rfl (fun w hs => R_load Try.one100 rfl (by exact hb' hs)) ?_
 refine HL_val rfl (fun w hs => R_nilCheck rfl) ?_
 refine HL_val rfl (fun w hs => R_fieldAddr (off := 12) Try.underlying49 rfl rfl Try.ti47 rfl) ?_
 refine HL_val rfl (fun w hs => R_load Try.one47 rfl (by (rw [add_lit0]; exact hs' hs))) ?_
 refine HL_val rfl (fun w hs => R_ibits (by simp) rfl rfl (and_low16 s n hs16 hn)) ?_
 refine HL_tail ?_
 intro w hs
 have hm : s % 2 ^ n < 65536 := Nat.lt_of_le_of_lt (Nat.mod_le ..) hs16
 refine L_call rfl Try.fun71 rfl (ones_ok _ hm _) ?_
 rintro _ w2 ⟨rfl, h2⟩
 replace hs := hs.nil h2
 refine L_assign rfl rfl ?_
 refine RL_then ?_
 refine W_ret' ?_
 refine Ex_done1 rfl rfl ?_
 exact ⟨_, rfl, rfl, hs⟩
def scs (xs : List Stt) : List Value := xs.flatMap Stt.cells
theorem scs_app (xs ys : List Stt) : scs (xs ++ ys) = scs xs ++ scs ys := List.flatMap_append ..
theorem scs_one (s : Stt) : scs [s] = s.cells := by simp [scs]
theorem scs_len (xs : List Stt) : (scs xs).length = xs.length * 5 := by
 induction xs with
 | nil => rfl
 | cons t ts ih =>
  show (t.cells ++ scs ts).length = _
  rw [List.length_append, ih, List.length_cons]
  show 5 + _ = _
  omega
theorem kept_ok (w0 w : World) (v : Value) (M L : Bks) (xs : List Stt) (n : Nat) (s : Stt) (hs : HS w0 w (L ++ M)) (hb : Bl w0 46 5 v n (scs xs) M) (hn : n + 1 ≤ 1024) :
  Ret Try.prog 72 [v, .agg s.cells.toArray] w fun r w' => ∃ M', HS w0 w' (L ++ M') ∧ Bl w0 46 5 r (n + 1) (scs (xs ++ [s])) M' := by
 obtain ⟨a, c, rfl, hc⟩ := hb.slice
 refine calls_of_W Try.func72 rfl rfl rfl ?_
 refine W_seq ?_
 refine W_region ?_
 refine L_box rfl hs rfl ?_; intro b3 w hb3 _ hs; replace hs := HS.push hs
 refine L_assign rfl rfl ?_
 refine RL_then ?_
 refine W_seq ?_
 refine W_region ?_
 replace hs : HS w0 w ((b3, Row 46 s.cells) :: (L ++ M)) := hs
 refine L_move rfl rfl ?_
 refine L_loadA rfl Try.agg46 Try.ti46 rfl (by exact cellsAt_whole (cs := s.cells) (hs.get (i := 0) rfl)) ?_
 refine L_buildSlice rfl hs Try.underlying52 Try.ti46 rfl (by decide) rfl (by simp [Value.cells, Stt.cells]) ?_
 intro b7 w hb7 hnb7 hs
 skip
 have h1 : HS w0 w ((((b3, Row 46 s.cells) :: L) ++ M) ++ [(b7, Row 46 s.cells)]) := by simpa [Value.cells] using hs
 clear hs
 refine L_appendT (L := (b3, Row 46 s.cells) :: L) (M := M) (news := s.cells) rfl Try.underlying52 Try.ti46 rfl h1 (by assumption) hb rfl rfl rfl (Stt.one _) (by omega) (by omega) ?_
 clear h1
 intro v' w M' hs hb'
 obtain ⟨g, cap, sp, rfl, rfl, hg, hl, hcap⟩ := hb'.own_row (by omega)
 refine L_assign rfl rfl ?_
 refine RL_then ?_
 refine W_seq ?_
 refine W_region ?_
 refine L_move rfl rfl ?_
 refine L_move rfl rfl ?_
 refine L_len rfl Try.underlying52 rfl ?_
 first | refine L_sub rfl rfl rfl (wrp_i64 (by omega)) ?_ | refine L_sub rfl rfl rfl rfl ?_
 refine RL_val rfl (R_maxI rfl rfl (show (if (0 : Int) < ((n + 1 : Nat) : Int) - 1024 then ((n + 1 : Nat) : Int) - 1024 else 0) = 0 by rw [if_neg (by omega)])) ?_
 refine RL_val rfl (R_slice100 Try.underlying52 Try.ti46 rfl rfl (show (0 : Int) = ((0 : Nat) : Int) from rfl) ⟨Nat.zero_le _, hcap⟩) ?_
 refine L_assign rfl rfl ?_
 refine RL_then ?_
 refine W_ret' ?_
 refine Ex_done1 rfl rfl ?_
 have e : slA (some (Addr.mk g 0 none)) 0 cap 5 = some ⟨g, 0, none⟩ := by
  unfold slA
  split
  ·
   rfl
  ·
   show some ((Addr.mk g 0 none).add (0 * 5)) = _
   rw [add_lit0]
 refine ⟨_, rfl, [(g, Row 46 (scs xs ++ s.cells ++ sp))], HS.pop (p := (b3, Row 46 s.cells)) hs hb3, ?_⟩
 rw [e, scs_app, scs_one]
 exact hb'
end Go.Proofs.Ytdllakfojligjaa
