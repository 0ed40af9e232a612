/-
  A part of the proof: what functions that the statement reaches do, or a plain law on what they do. Each theorem holds under its own premises alone.
-/
import Derived.Test.YtdllakfojligjaaTTC1
namespace Go.Proofs.Ytdllakfojligjaa
open Go Go.Lk
/-! ### TopTracks: the plots of a step -/
structure Sw where
 wait : Int
 ar : Option Addr
 cr : Nat
 rs : List Int
 aT : Option Addr
 ct : Nat
 ts : List Int
def sw0 : Sw := ⟨0, none, 0, [], none, 0, []⟩
def Sw.cells (s : Sw) : List Value := [.int .i64 s.wait, .slice s.ar s.rs.length s.cr, .slice s.aT s.ts.length s.ct]
structure SwOk (w : World) (s : Sw) : Prop where
 r : SlC w s.ar (il s.rs)
 t : SlC w s.aT (il s.ts)
 lr : s.rs.length ≤ 1000000000000000
 lt : s.ts.length ≤ 1000000000000000
def TopP (p : Plt) : Prop := ∃ a b : Nat, a ≤ 1048576 ∧ b ≤ 4096 ∧ p.r = FloatKind.f64.nearest (a : Int) ∧ cn p.b = cn (fop .quo (FloatKind.f64.nearest (b : Int)) 4661225614328463360)
def SPZ (f : FuncId) (args : Array Value) (v : Value) : Prop := match f, args.toList with
 | 12, [.int .i64 n, .int .i64 m] => v = .int .i64 (sizeF n m)
 | _, _ => False
theorem sizeH {w0 w : World} {L : Bks} (hs : HS w0 w L) (n m : Int) (h1 : 1 ≤ m) (h2 : m ≤ 1048576) : Ret Try.prog 12 [.int .i64 n, .int .i64 m] w fun v w' => SPZ 12 [.int .i64 n, .int .i64 m].toArray v ∧ HS w0 w' L :=
 Calls.mono (size_ok n m h1 h2 w) fun e w' => by
  rintro ⟨v, rfl, rfl, rfl⟩
  exact ⟨_, rfl, rfl, hs⟩
set_option maxHeartbeats 2000000 in
theorem found_ok (s : Sw) (w0 : World) (h : SwOk w0 s) :
  Ret Try.prog 13 [.agg s.cells.toArray] w0 fun v w' => ∃ l M, Bl w0 35 5 v (List.length l) (pcs l) M ∧ HS w0 w' M ∧ l.length ≤ 12 ∧ ∀ p ∈ l, TopP p := by
 have hlr := h.lr
 have hlt' := h.lt
 refine Ret.start fun w hs => ?_
 refine calls_of_W Try.func13 rfl rfl rfl ?_
 refine W_seq ?_
 refine W_region ?_
 refine L_box rfl hs rfl ?_
 intro b1 w hb1 hnb1 hs
 try dsimp only [List.set_cons_succ, List.set_cons_zero, List.cons_append, List.nil_append] at hs
 replace hs : HS w0 w [(b1, Row 40 s.cells)] := hs
 have hb1o : Own w0 [(b1, Row 40 s.cells)] := Own.cons hb1 Own.nil
 refine L_assign rfl rfl ?_
 refine RL_then ?_
 refine W_seq ?_
 refine W_region ?_
 refine L_assign rfl rfl ?_
 refine RL_then ?_
 refine W_seq ?_
 refine W_seq ?_
 refine W_region ?_
 refine L_assign rfl rfl ?_
 refine RL_then ?_
 refine W_block ?_
 refine W_loop4 (fun (pb : VB) (l : List Plt) (i : Nat) (w : World) => [(1, .pointer (some ⟨b1, 0, none⟩)), (3, pb.v), (4, .int .i64 i)]) (fun (pb : VB) (l : List Plt) (i : Nat) (w : World) => w) (fun (pb : VB) (l : List Plt) (i : Nat) (w : World) => (i ≤ 12) ∧ (l.length = i) ∧ (∀ p ∈ l, TopP p) ∧ (Bl w0 35 5 pb.v i (pcs l) pb.M) ∧ (HS w0 w ([(b1, Row 40 s.cells)] ++ pb.M))) (fun (pb : VB) (l : List Plt) (i : Nat) (w : World) => 12 - i) (⟨.slice none 0 0, []⟩) ([]) (0) (_) (is := [1, 3, 4]) rfl rfl ?_ ?_
 ·
  exact ⟨Nat.zero_le _, rfl, fun p hp => (by cases hp), .nil, hs⟩
 ·
  clear hs
  intro pb l i w hI
  show W _ _ _ _ [(1, .pointer (some ⟨b1, 0, none⟩)), (3, pb.v), (4, .int .i64 i)] w
  obtain ⟨hi, hl, hp, hb, hs⟩ := hI
  by_cases hlt : i < s.rs.length
  ·
   by_cases hlt2 : i < s.ts.length
   ·
    by_cases hlt3 : i < 12
    ·
     have hho : Own w0 ([(b1, Row 40 s.cells)] ++ pb.M) := hb1o.app hb.own
     have hao1 : s.ar = some (aD s.ar) := h.r.ao (by rw [il_length]; omega)
     have hao2 : s.aT = some (aD s.aT) := h.t.ao (by rw [il_length]; omega)
     refine W_seq ?_
     refine W_seq ?_
     refine W_region ?_
     refine L_move rfl rfl ?_
     refine L_fieldAddr rfl (off := 1) Try.underlying40 rfl rfl Try.ti31 rfl ?_
     refine L_load rfl Try.one31 rfl (by exact hs.cellA (i := 0) (j := 1) rfl rfl) ?_
     refine L_len rfl Try.underlying31 rfl ?_
     first | refine L_lss rfl rfl rfl (dtrue (by omega)) ?_ | refine L_lss rfl rfl rfl (dfalse (by omega)) ?_ | refine L_lss rfl rfl rfl rfl ?_
     refine L_move rfl rfl ?_
     first | (refine RL_want rfl rfl ?_; refine L_move rfl rfl ?_) | refine RL_skip rfl rfl rfl rfl ?_ | refine RL_skipU rfl rfl rfl ?_
     first | (refine RL_want rfl rfl ?_; refine L_fieldAddr rfl (off := 2) Try.underlying40 rfl rfl Try.ti31 rfl ?_) | refine RL_skip rfl rfl rfl rfl ?_ | refine RL_skipU rfl rfl rfl ?_
     first | (refine RL_want rfl rfl ?_; refine L_load rfl Try.one31 rfl (by exact hs.cellA (i := 0) (j := 2) rfl rfl) ?_) | refine RL_skip rfl rfl rfl rfl ?_ | refine RL_skipU rfl rfl rfl ?_
     first | (refine RL_want rfl rfl ?_; refine L_len rfl Try.underlying31 rfl ?_) | refine RL_skip rfl rfl rfl rfl ?_ | refine RL_skipU rfl rfl rfl ?_
     first | (refine RL_want rfl rfl ?_; (first | refine L_lss rfl rfl rfl (dtrue (by omega)) ?_ | refine L_lss rfl rfl rfl (dfalse (by omega)) ?_ | refine L_lss rfl rfl rfl rfl ?_)) | refine RL_skip rfl rfl rfl rfl ?_ | refine RL_skipU rfl rfl rfl ?_
     first | refine L_pick_t rfl rfl rfl ?_ | refine L_pick_f rfl rfl rfl ?_
     refine L_move rfl rfl ?_
     first | (refine RL_want rfl rfl ?_; refine L_move rfl rfl ?_) | refine RL_skip rfl rfl rfl rfl ?_ | refine RL_skipU rfl rfl rfl ?_
     first | (refine RL_want rfl rfl ?_; (first | refine L_lss rfl rfl rfl (dtrue (by omega)) ?_ | refine L_lss rfl rfl rfl (dfalse (by omega)) ?_ | refine L_lss rfl rfl rfl rfl ?_)) | refine RL_skip rfl rfl rfl rfl ?_ | refine RL_skipU rfl rfl rfl ?_
     first | refine L_pick_t rfl rfl rfl ?_ | refine L_pick_f rfl rfl rfl ?_
     refine RL_then ?_
     refine W_if_true rfl ?_
     refine W_skip' ?_
     refine Nx_then ?_
     refine W_seq ?_
     refine W_block ?_
     refine W_sg Try.mixed ?_
     replace hs := hs.drewN 1
     refine SG_stageB [0, 1, 3, 8, 10] [2, 4, 5, 6, 7, 9, 11, 12, 13, 14, 15, 16, 17] [18, 19] (noBk SPZ) (g' := 0) (by kernel_rfl) (by kernel_rfl) (fun _ _ _ _ _ h => h) hs ?_
     refine PL_val rfl (fun w => R_move rfl) ?_
     refine PL_val rfl (fun w => R_fieldAddr (off := 1) Try.underlying40 rfl rfl Try.ti31 rfl) ?_
     refine PL_val rfl (fun w => R_move rfl) ?_
     refine PL_val rfl (fun w => R_fieldAddr (off := 2) Try.underlying40 rfl rfl Try.ti31 rfl) ?_
     refine PL_val rfl (fun w => R_move rfl) ?_
     refine PL_endB ?_
     refine HB_val rfl (fun w R hR hs => R_load Try.one31 rfl (by exact hs.cellA (i := 0) (j := 1) rfl rfl)) ?_
     refine HB_val rfl (fun w R hR hs => R_idx1 Try.underlying31 Try.ti3 rfl rfl (by with_reducible first | exact natc_k _ | exact natc_a1 _ | exact natc_0 | exact natc_1 | exact natc_2 | exact natc_s1 _ (by omega) | exact natc_a2 _ | exact natc_add _ _ | exact natc_mul _ _ | exact natc (by omega)) (by omega) hao1) ?_
     refine HB_val rfl (fun w R hR hs => R_load Try.one3 rfl (by exact (h.r.old hs (hho.app hR)).2 _ _ (il_get (by omega)))) ?_
     refine HB_callH rfl Try.fun12 rfl (fun w R hR hs => sizeH hs (s.rs.getD i 0) 1048576 (by omega) (by omega)) ?_
     rintro _ hd
     obtain rfl := hd
     refine HB_val rfl (fun w R hR hs => R_itof Try.underlying3 Try.underlying23 rfl) ?_
     refine HB_val rfl (fun w R hR hs => R_load Try.one31 rfl (by exact hs.cellA (i := 0) (j := 2) rfl rfl)) ?_
     refine HB_val rfl (fun w R hR hs => R_idx1 Try.underlying31 Try.ti3 rfl rfl (by with_reducible first | exact natc_k _ | exact natc_a1 _ | exact natc_0 | exact natc_1 | exact natc_2 | exact natc_s1 _ (by omega) | exact natc_a2 _ | exact natc_add _ _ | exact natc_mul _ _ | exact natc (by omega)) (by omega) hao2) ?_
     refine HB_val rfl (fun w R hR hs => R_load Try.one3 rfl (by exact (h.t.old hs (hho.app hR)).2 _ _ (il_get (by omega)))) ?_
     refine HB_callH rfl Try.fun12 rfl (fun w R hR hs => sizeH hs (s.ts.getD i 0) 4096 (by omega) (by omega)) ?_
     rintro _ hd
     obtain rfl := hd
     refine HB_val rfl (fun w R hR hs => R_itof Try.underlying3 Try.underlying23 rfl) ?_
     refine HB_farith rfl (op := .quo) rfl rfl rfl ?_
     intro r38 hr38
     refine HB_val rfl (fun w R hR hs => R_build rfl (Pl.builtN Try.pl35 rfl)) ?_
     refine HB_buildSlice rfl Try.underlying36 Try.ti35 rfl (by decide) rfl (by simp [Value.cells]) ?_
     intro b40 hb40
     refine HB_tail ?_
     intro w hs
     obtain ⟨np, hnp⟩ : ∃ np : Plt, np = ⟨FloatKind.f64.nearest (sizeF (s.rs.getD i 0) 1048576), 0, 0, r38, 0⟩ := ⟨_, rfl⟩
     have hs1 : HS w0 w (([(b1, Row 40 s.cells)] ++ pb.M) ++ [(b40, Row 35 np.cells)]) := by rw [hnp]; exact hs
     clear hs
     have hs := hs1
     clear hs1
     obtain ⟨_, _, _, _, z1, z2⟩ := size_rng (n := s.rs.getD i 0) (m := 1048576) (by decide)
     obtain ⟨_, _, _, _, z3, z4⟩ := size_rng (n := s.ts.getD i 0) (m := 4096) (by decide)
     refine L_appendT (L := [(b1, Row 40 s.cells)]) rfl Try.underlying36 Try.ti35 rfl hs hb40 hb rfl rfl rfl (Plt.one _) (by omega) (by omega) ?_
     intro v' w M' hs hb'
     refine L_assign rfl rfl ?_
     refine RL_sg ?_
     refine SG_end (by kernel_rfl) ?_
     refine Nx_block ?_
     refine Nx_then ?_
     refine W_region ?_
     refine L_move rfl rfl ?_
     first | refine L_add rfl rfl rfl (wrp_i64 (by omega)) ?_ | refine L_add rfl rfl rfl rfl ?_
     refine L_assign rfl rfl ?_
     refine RL_nil' ?_
     refine Nx_loopP (⟨v', M'⟩, l ++ [np], i + 1, _) (is := [1, 3, 4]) (I' := (fun (pb : VB) (l : List Plt) (i : Nat) (w : World) => (i ≤ 12) ∧ (l.length = i) ∧ (∀ p ∈ l, TopP p) ∧ (Bl w0 35 5 pb.v i (pcs l) pb.M) ∧ (HS w0 w ([(b1, Row 40 s.cells)] ++ pb.M))) (⟨v', M'⟩) (l ++ [np]) (i + 1) (_)) rfl rfl rfl ?_ ?_
     ·
      refine ⟨by omega, by rw [List.length_append, hl]; rfl, fun p hpm => ?_, ?_, hs⟩
      ·
       rcases List.mem_append.1 hpm with hpm | hpm
       ·
        exact hp p hpm
       ·
        obtain rfl := List.mem_singleton.1 hpm
        refine ⟨(sizeF (s.rs.getD i 0) 1048576).toNat, (sizeF (s.ts.getD i 0) 4096).toNat, by omega, by omega, ?_, ?_⟩
        ·
         rw [hnp, show (((sizeF (s.rs.getD i 0) 1048576).toNat : Nat) : Int) = sizeF (s.rs.getD i 0) 1048576 by omega]
        ·
         rw [hnp, show (((sizeF (s.ts.getD i 0) 4096).toNat : Nat) : Int) = sizeF (s.ts.getD i 0) 4096 by omega]
         exact (Fs.cn hr38).trans (cn_fop ..).symm
      ·
       have e : pcs (l ++ [np]) = pcs l ++ np.cells := by simp [pcs]
       rw [e]; exact hb'
     ·
      show 12 - (i + 1) < 12 - i; omega
    ·
     skip
     refine W_seq ?_
     refine W_seq ?_
     refine W_region ?_
     refine L_move rfl rfl ?_
     refine L_fieldAddr rfl (off := 1) Try.underlying40 rfl rfl Try.ti31 rfl ?_
     refine L_load rfl Try.one31 rfl (by exact hs.cellA (i := 0) (j := 1) rfl rfl) ?_
     refine L_len rfl Try.underlying31 rfl ?_
     first | refine L_lss rfl rfl rfl (dtrue (by omega)) ?_ | refine L_lss rfl rfl rfl (dfalse (by omega)) ?_ | refine L_lss rfl rfl rfl rfl ?_
     refine L_move rfl rfl ?_
     first | (refine RL_want rfl rfl ?_; refine L_move rfl rfl ?_) | refine RL_skip rfl rfl rfl rfl ?_ | refine RL_skipU rfl rfl rfl ?_
     first | (refine RL_want rfl rfl ?_; refine L_fieldAddr rfl (off := 2) Try.underlying40 rfl rfl Try.ti31 rfl ?_) | refine RL_skip rfl rfl rfl rfl ?_ | refine RL_skipU rfl rfl rfl ?_
     first | (refine RL_want rfl rfl ?_; refine L_load rfl Try.one31 rfl (by exact hs.cellA (i := 0) (j := 2) rfl rfl) ?_) | refine RL_skip rfl rfl rfl rfl ?_ | refine RL_skipU rfl rfl rfl ?_
     first | (refine RL_want rfl rfl ?_; refine L_len rfl Try.underlying31 rfl ?_) | refine RL_skip rfl rfl rfl rfl ?_ | refine RL_skipU rfl rfl rfl ?_
     first | (refine RL_want rfl rfl ?_; (first | refine L_lss rfl rfl rfl (dtrue (by omega)) ?_ | refine L_lss rfl rfl rfl (dfalse (by omega)) ?_ | refine L_lss rfl rfl rfl rfl ?_)) | refine RL_skip rfl rfl rfl rfl ?_ | refine RL_skipU rfl rfl rfl ?_
     first | refine L_pick_t rfl rfl rfl ?_ | refine L_pick_f rfl rfl rfl ?_
     refine L_move rfl rfl ?_
     first | (refine RL_want rfl rfl ?_; refine L_move rfl rfl ?_) | refine RL_skip rfl rfl rfl rfl ?_ | refine RL_skipU rfl rfl rfl ?_
     first | (refine RL_want rfl rfl ?_; (first | refine L_lss rfl rfl rfl (dtrue (by omega)) ?_ | refine L_lss rfl rfl rfl (dfalse (by omega)) ?_ | refine L_lss rfl rfl rfl rfl ?_)) | refine RL_skip rfl rfl rfl rfl ?_ | refine RL_skipU rfl rfl rfl ?_
     first | refine L_pick_t rfl rfl rfl ?_ | refine L_pick_f rfl rfl rfl ?_
     refine RL_then ?_
     refine W_if_false rfl ?_
     refine W_exit' ?_
     refine Ex_then_exit ?_
     refine Ex_loop_exit ?_
     refine Ex_block_hit ?_
     refine Nx_then ?_
     refine W_seq ?_
     refine W_region ?_
     refine L_move rfl rfl ?_
     refine L_assign rfl rfl ?_
     refine RL_then ?_
     refine W_ret' ?_
     refine Ex_done1 rfl rfl ?_
     have hs1 : HS w0 w pb.M := HS.dropL hs hb1o
     exact ⟨_, rfl, l, pb.M, by rw [hl]; exact hb, hs1, by omega, hp⟩
   ·
    skip
    refine W_seq ?_
    refine W_seq ?_
    refine W_region ?_
    refine L_move rfl rfl ?_
    refine L_fieldAddr rfl (off := 1) Try.underlying40 rfl rfl Try.ti31 rfl ?_
    refine L_load rfl Try.one31 rfl (by exact hs.cellA (i := 0) (j := 1) rfl rfl) ?_
    refine L_len rfl Try.underlying31 rfl ?_
    first | refine L_lss rfl rfl rfl (dtrue (by omega)) ?_ | refine L_lss rfl rfl rfl (dfalse (by omega)) ?_ | refine L_lss rfl rfl rfl rfl ?_
    refine L_move rfl rfl ?_
    first | (refine RL_want rfl rfl ?_; refine L_move rfl rfl ?_) | refine RL_skip rfl rfl rfl rfl ?_ | refine RL_skipU rfl rfl rfl ?_
    first | (refine RL_want rfl rfl ?_; refine L_fieldAddr rfl (off := 2) Try.underlying40 rfl rfl Try.ti31 rfl ?_) | refine RL_skip rfl rfl rfl rfl ?_ | refine RL_skipU rfl rfl rfl ?_
    first | (refine RL_want rfl rfl ?_; refine L_load rfl Try.one31 rfl (by exact hs.cellA (i := 0) (j := 2) rfl rfl) ?_) | refine RL_skip rfl rfl rfl rfl ?_ | refine RL_skipU rfl rfl rfl ?_
    first | (refine RL_want rfl rfl ?_; refine L_len rfl Try.underlying31 rfl ?_) | refine RL_skip rfl rfl rfl rfl ?_ | refine RL_skipU rfl rfl rfl ?_
    first | (refine RL_want rfl rfl ?_; (first | refine L_lss rfl rfl rfl (dtrue (by omega)) ?_ | refine L_lss rfl rfl rfl (dfalse (by omega)) ?_ | refine L_lss rfl rfl rfl rfl ?_)) | refine RL_skip rfl rfl rfl rfl ?_ | refine RL_skipU rfl rfl rfl ?_
    first | refine L_pick_t rfl rfl rfl ?_ | refine L_pick_f rfl rfl rfl ?_
    refine L_move rfl rfl ?_
    first | (refine RL_want rfl rfl ?_; refine L_move rfl rfl ?_) | refine RL_skip rfl rfl rfl rfl ?_ | refine RL_skipU rfl rfl rfl ?_
    first | (refine RL_want rfl rfl ?_; (first | refine L_lss rfl rfl rfl (dtrue (by omega)) ?_ | refine L_lss rfl rfl rfl (dfalse (by omega)) ?_ | refine L_lss rfl rfl rfl rfl ?_)) | refine RL_skip rfl rfl rfl rfl ?_ | refine RL_skipU rfl rfl rfl ?_
    first | refine L_pick_t rfl rfl rfl ?_ | refine L_pick_f rfl rfl rfl ?_
    refine RL_then ?_
    refine W_if_false rfl ?_
    refine W_exit' ?_
    refine Ex_then_exit ?_
    refine Ex_loop_exit ?_
    refine Ex_block_hit ?_
    refine Nx_then ?_
    refine W_seq ?_
    refine W_region ?_
    refine L_move rfl rfl ?_
    refine L_assign rfl rfl ?_
    refine RL_then ?_
    refine W_ret' ?_
    refine Ex_done1 rfl rfl ?_
    have hs1 : HS w0 w pb.M := HS.dropL hs hb1o
    exact ⟨_, rfl, l, pb.M, by rw [hl]; exact hb, hs1, by omega, hp⟩
  ·
   skip
   refine W_seq ?_
   refine W_seq ?_
   refine W_region ?_
   refine L_move rfl rfl ?_
   refine L_fieldAddr rfl (off := 1) Try.underlying40 rfl rfl Try.ti31 rfl ?_
   refine L_load rfl Try.one31 rfl (by exact hs.cellA (i := 0) (j := 1) rfl rfl) ?_
   refine L_len rfl Try.underlying31 rfl ?_
   first | refine L_lss rfl rfl rfl (dtrue (by omega)) ?_ | refine L_lss rfl rfl rfl (dfalse (by omega)) ?_ | refine L_lss rfl rfl rfl rfl ?_
   refine L_move rfl rfl ?_
   first | (refine RL_want rfl rfl ?_; refine L_move rfl rfl ?_) | refine RL_skip rfl rfl rfl rfl ?_ | refine RL_skipU rfl rfl rfl ?_
   first | (refine RL_want rfl rfl ?_; refine L_fieldAddr rfl (off := 2) Try.underlying40 rfl rfl Try.ti31 rfl ?_) | refine RL_skip rfl rfl rfl rfl ?_ | refine RL_skipU rfl rfl rfl ?_
   first | (refine RL_want rfl rfl ?_; refine L_load rfl Try.one31 rfl (by exact hs.cellA (i := 0) (j := 2) rfl rfl) ?_) | refine RL_skip rfl rfl rfl rfl ?_ | refine RL_skipU rfl rfl rfl ?_
   first | (refine RL_want rfl rfl ?_; refine L_len rfl Try.underlying31 rfl ?_) | refine RL_skip rfl rfl rfl rfl ?_ | refine RL_skipU rfl rfl rfl ?_
   first | (refine RL_want rfl rfl ?_; (first | refine L_lss rfl rfl rfl (dtrue (by omega)) ?_ | refine L_lss rfl rfl rfl (dfalse (by omega)) ?_ | refine L_lss rfl rfl rfl rfl ?_)) | refine RL_skip rfl rfl rfl rfl ?_ | refine RL_skipU rfl rfl rfl ?_
   first | refine L_pick_t rfl rfl rfl ?_ | refine L_pick_f rfl rfl rfl ?_
   refine L_move rfl rfl ?_
   first | (refine RL_want rfl rfl ?_; refine L_move rfl rfl ?_) | refine RL_skip rfl rfl rfl rfl ?_ | refine RL_skipU rfl rfl rfl ?_
   first | (refine RL_want rfl rfl ?_; (first | refine L_lss rfl rfl rfl (dtrue (by omega)) ?_ | refine L_lss rfl rfl rfl (dfalse (by omega)) ?_ | refine L_lss rfl rfl rfl rfl ?_)) | refine RL_skip rfl rfl rfl rfl ?_ | refine RL_skipU rfl rfl rfl ?_
   first | refine L_pick_t rfl rfl rfl ?_ | refine L_pick_f rfl rfl rfl ?_
   refine RL_then ?_
   refine W_if_false rfl ?_
   refine W_exit' ?_
   refine Ex_then_exit ?_
   refine Ex_loop_exit ?_
   refine Ex_block_hit ?_
   refine Nx_then ?_
   refine W_seq ?_
   refine W_region ?_
   refine L_move rfl rfl ?_
   refine L_assign rfl rfl ?_
   refine RL_then ?_
   refine W_ret' ?_
   refine Ex_done1 rfl rfl ?_
   have hs1 : HS w0 w pb.M := HS.dropL hs hb1o
   exact ⟨_, rfl, l, pb.M, by rw [hl]; exact hb, hs1, by omega, hp⟩
end Go.Proofs.Ytdllakfojligjaa
