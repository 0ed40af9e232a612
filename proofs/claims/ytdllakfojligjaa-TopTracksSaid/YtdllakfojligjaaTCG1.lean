/-
  A part of the proof: what functions that the statement reaches do, or a plain law on what they do. Each theorem holds under its own premises alone.
-/
import Derived.Test.YtdllakfojligjaaTTT
import Derived.Test.YtdllakfojligjaaKit
import Derived.Test.YtdllakfojligjaaKitP
namespace Go.Proofs.Ytdllakfojligjaa
open Go Go.Lk
/-- a row of whole numbers in a block of its own -/
abbrev SlN (g n : Nat) : Value := .slice (some ⟨g, 0, none⟩) n n
abbrev GameR (n c u v o h : Nat) : List Value := [.int .i64 n, SlN c (n * n), SlN u n, SlN v n, SlN o n, SlN h n]
/-- a game's blocks -/
abbrev GameL (B c u v o h n : Nat) (C U V of has : List Int) : List (Nat × Obj) := [(c, Row 2 (il C)), (u, Row 2 (il U)), (v, Row 2 (il V)), (o, Row 3 (il of)), (h, Row 3 (il has)), (B, Row 116 (GameR n c u v o h))]
def playedPhi (n : Nat) (i : Nat) (v : Value) (m : List (Nat × Obj)) : Prop :=
 match i with
 | 0 | 1 | 2 | 5 | 7 | 9 | 11 => v = .int .i64 n ∧ m = []
 | 3 => v = .int .i64 ((n * n : Nat) : Int) ∧ m = []
 | 4 => ∃ g, v = SlN g (n * n) ∧ m = [(g, Row 2 (il (List.replicate (n * n) 0)))]
 | 6 | 8 => ∃ g, v = SlN g n ∧ m = [(g, Row 2 (il (List.replicate n 0)))]
 | 10 | 12 => ∃ g, v = SlN g n ∧ m = [(g, Row 3 (il (List.replicate n 0)))]
 | 13 => ∃ c u vv o h, v = .agg (GameR n c u vv o h).toArray ∧ m = [(c, Row 2 (il (List.replicate (n * n) 0))), (u, Row 2 (il (List.replicate n 0))), (vv, Row 2 (il (List.replicate n 0))), (o, Row 3 (il (List.replicate n 0))), (h, Row 3 (il (List.replicate n 0)))]
 | _ => ∃ B c u vv o h, v = .pointer (some ⟨B, 0, none⟩) ∧ m = GameL B c u vv o h n (List.replicate (n * n) 0) (List.replicate n 0) (List.replicate n 0) (List.replicate n 0) (List.replicate n 0)
theorem played_ok (n : Nat) (w0 : World) (h1 : 1 ≤ n) (h2 : n ≤ 512) : Ret Try.prog 57 [.int .i64 n] w0 fun v w' => ∃ B c u vv o h, v = .pointer (some ⟨B, 0, none⟩) ∧ HS w0 w' (GameL B c u vv o h n (List.replicate (n * n) 0) (List.replicate n 0) (List.replicate n 0) (List.replicate n (-1)) (List.replicate n 0)) ∧ ∀ {C U V of has : List Int}, Own w0 (GameL B c u vv o h n C U V of has) := by
 refine Ret.start fun w hs => ?_
 have hnn : n * n ≤ 262144 := Nat.le_trans (Nat.mul_le_mul h2 h2) (by omega)
 have hnni : (n : Int) * (n : Int) = ((n * n : Nat) : Int) := (Int.natCast_mul ..).symm
 obtain ⟨nn, hnne⟩ : ∃ nn, nn = n * n := ⟨_, rfl⟩
 refine calls_of_W Try.func57 rfl rfl rfl ?_
 refine W_seq ?_
 refine W_region ?_
 refine L_assign rfl rfl ?_
 refine RL_then ?_
 refine W_seq ?_
 refine W_any (playedPhi n) (fun i => ([[], [], [], [1, 2], [3], [], [5], [], [7], [], [9], [], [11], [0, 4, 6, 8, 10, 12], [13], [14]] : List (List Nat)).getD i []) (fun i => ([[], [], [], [], [], [], [], [], [], [], [], [], [], [4, 6, 8, 10, 12], [13], [14]] : List (List Nat)).getD i []) Try.mixed (by kernel_rfl) hs ?_ ?_
 ·
  intro i oo d ho hd V M E R w Q' hdep hlook hold hR hs hc
  match i, ho with
  | 0, ho | 1, ho | 2, ho | 5, ho | 7, ho | 9, ho | 11, ho =>
   cases ho; cases hd
   refine L_move rfl (hold 0 _ rfl (nd (by kernel_rfl))) ?_
   exact hc _ [] w ⟨rfl, rfl⟩ Own.nil hs
  | 3, ho =>
   cases ho; cases hd
   have e1 : Lk.look E 6 = some (.int .i64 n) := by rw [hlook 1 (by decide) _ _ rfl rfl, (hdep 1 (by decide)).1.1]
   have e2 : Lk.look E 7 = some (.int .i64 n) := by rw [hlook 2 (by decide) _ _ rfl rfl, (hdep 2 (by decide)).1.1]
   refine L_mul rfl e1 e2 (wrp_i64 (by omega)) ?_
   exact hc _ [] w ⟨by rw [hnni], rfl⟩ Own.nil hs
  | 4, ho =>
   cases ho; cases hd
   replace hs : HS w0 w (_ ++ []) := hs
   rw [List.append_nil] at hs
   have e1 : Lk.look E 8 = some (.int .i64 ((n * n : Nat) : Int)) := by rw [hlook 3 (by decide) _ _ rfl rfl, (hdep 3 (by decide)).1.1]
   refine L_make1 rfl hs Try.underlying69 Try.ti2 e1 e1 rfl rfl (Nat.le_refl _) (by omega) (by omega) rfl ?_
   intro g w hg _ hs
   rw [il_rep] at hs
   exact hc _ _ _ ⟨g, rfl, rfl⟩ (Own.cons hg Own.nil) hs
  | 6, ho =>
   cases ho; cases hd
   replace hs : HS w0 w (_ ++ []) := hs
   rw [List.append_nil] at hs
   have e1 : Lk.look E 10 = some (.int .i64 n) := by rw [hlook 5 (by decide) _ _ rfl rfl, (hdep 5 (by decide)).1.1]
   refine L_make1 rfl hs Try.underlying69 Try.ti2 e1 e1 rfl rfl (Nat.le_refl _) (by omega) (by omega) rfl ?_
   intro g w hg _ hs
   rw [il_rep] at hs
   exact hc _ _ _ ⟨g, rfl, rfl⟩ (Own.cons hg Own.nil) hs
  | 8, ho =>
   cases ho; cases hd
   replace hs : HS w0 w (_ ++ []) := hs
   rw [List.append_nil] at hs
   have e1 : Lk.look E 12 = some (.int .i64 n) := by rw [hlook 7 (by decide) _ _ rfl rfl, (hdep 7 (by decide)).1.1]
   refine L_make1 rfl hs Try.underlying69 Try.ti2 e1 e1 rfl rfl (Nat.le_refl _) (by omega) (by omega) rfl ?_
   intro g w hg _ hs
   rw [il_rep] at hs
   exact hc _ _ _ ⟨g, rfl, rfl⟩ (Own.cons hg Own.nil) hs
  | 10, ho =>
   cases ho; cases hd
   replace hs : HS w0 w (_ ++ []) := hs
   rw [List.append_nil] at hs
   have e1 : Lk.look E 14 = some (.int .i64 n) := by rw [hlook 9 (by decide) _ _ rfl rfl, (hdep 9 (by decide)).1.1]
   refine L_make1 rfl hs Try.underlying31 Try.ti3 e1 e1 rfl rfl (Nat.le_refl _) (by omega) (by omega) rfl ?_
   intro g w hg _ hs
   rw [il_rep] at hs
   exact hc _ _ _ ⟨g, rfl, rfl⟩ (Own.cons hg Own.nil) hs
  | 12, ho =>
   cases ho; cases hd
   replace hs : HS w0 w (_ ++ []) := hs
   rw [List.append_nil] at hs
   have e1 : Lk.look E 16 = some (.int .i64 n) := by rw [hlook 11 (by decide) _ _ rfl rfl, (hdep 11 (by decide)).1.1]
   refine L_make1 rfl hs Try.underlying31 Try.ti3 e1 e1 rfl rfl (Nat.le_refl _) (by omega) (by omega) rfl ?_
   intro g w hg _ hs
   rw [il_rep] at hs
   exact hc _ _ _ ⟨g, rfl, rfl⟩ (Own.cons hg Own.nil) hs
  | 13, ho =>
   cases ho; cases hd
   have e0 : Lk.look E 5 = some (.int .i64 n) := by rw [hlook 0 (by decide) _ _ rfl rfl, (hdep 0 (by decide)).1.1]
   obtain ⟨c, hv4, hm4⟩ : ∃ g, V 4 = SlN g (n * n) ∧ M 4 = [(g, Row 2 (il (List.replicate (n * n) 0)))] := (hdep 4 (by decide)).1
   obtain ⟨u, hv6, hm6⟩ : ∃ g, V 6 = SlN g n ∧ M 6 = [(g, Row 2 (il (List.replicate n 0)))] := (hdep 6 (by decide)).1
   obtain ⟨vv, hv8, hm8⟩ : ∃ g, V 8 = SlN g n ∧ M 8 = [(g, Row 2 (il (List.replicate n 0)))] := (hdep 8 (by decide)).1
   obtain ⟨oo, hv10, hm10⟩ : ∃ g, V 10 = SlN g n ∧ M 10 = [(g, Row 3 (il (List.replicate n 0)))] := (hdep 10 (by decide)).1
   obtain ⟨hh, hv12, hm12⟩ : ∃ g, V 12 = SlN g n ∧ M 12 = [(g, Row 3 (il (List.replicate n 0)))] := (hdep 12 (by decide)).1
   have o4 := (hdep 4 (by decide)).2
   have o6 := (hdep 6 (by decide)).2
   have o8 := (hdep 8 (by decide)).2
   have o10 := (hdep 10 (by decide)).2
   have o12 := (hdep 12 (by decide)).2
   have e4 : Lk.look E 9 = some (SlN c (n * n)) := by rw [hlook 4 (by decide) _ _ rfl rfl, hv4]
   have e6 : Lk.look E 11 = some (SlN u n) := by rw [hlook 6 (by decide) _ _ rfl rfl, hv6]
   have e8 : Lk.look E 13 = some (SlN vv n) := by rw [hlook 8 (by decide) _ _ rfl rfl, hv8]
   have e10 : Lk.look E 15 = some (SlN oo n) := by rw [hlook 10 (by decide) _ _ rfl rfl, hv10]
   have e12 : Lk.look E 17 = some (SlN hh n) := by rw [hlook 12 (by decide) _ _ rfl rfl, hv12]
   rw [hm4] at o4
   rw [hm6] at o6
   rw [hm8] at o8
   rw [hm10] at o10
   rw [hm12] at o12
   replace hs : HS w0 w (_ ++ (M 4 ++ (M 6 ++ (M 8 ++ (M 10 ++ (M 12 ++ [])))))) := hs
   rw [hm4, hm6, hm8, hm10, hm12] at hs
   simp only [List.append_nil, List.cons_append, List.nil_append] at hs
   have hev : evalPs E [(0, .tmp 5), (1, .tmp 9), (2, .tmp 11), (3, .tmp 13), (4, .tmp 15), (5, .tmp 17)] = some [(0, .int .i64 n), (1, SlN c (n * n)), (2, SlN u n), (3, SlN vv n), (4, SlN oo n), (5, SlN hh n)] := by
    simp [evalPs, evalE, e0, e4, e6, e8, e10, e12]
   refine L_build rfl hev (Pl.built Try.pl116 rfl) ?_
   exact hc _ _ _ ⟨c, u, vv, oo, hh, rfl, rfl⟩ (Own.cons o4.head (Own.cons o6.head (Own.cons o8.head (Own.cons o10.head o12)))) hs
  | 14, ho =>
   cases ho; cases hd
   obtain ⟨c, u, vv, oo, hh, hv13, hm13⟩ : ∃ c u vv o h, V 13 = .agg (GameR n c u vv o h).toArray ∧ M 13 = [(c, Row 2 (il (List.replicate (n * n) 0))), (u, Row 2 (il (List.replicate n 0))), (vv, Row 2 (il (List.replicate n 0))), (o, Row 3 (il (List.replicate n 0))), (h, Row 3 (il (List.replicate n 0)))] := (hdep 13 (by decide)).1
   have o13 := (hdep 13 (by decide)).2
   have e13 : Lk.look E 18 = some (.agg (GameR n c u vv oo hh).toArray) := by rw [hlook 13 (by decide) _ _ rfl rfl, hv13]
   rw [hm13] at o13
   replace hs : HS w0 w (_ ++ (M 13 ++ [])) := hs
   rw [hm13, List.append_nil] at hs
   refine L_box rfl hs e13 ?_
   intro B w hB _ hs
   rw [List.append_assoc] at hs
   exact hc _ _ _ ⟨B, c, u, vv, oo, hh, rfl, rfl⟩ (o13.app (Own.cons hB Own.nil)) hs
  | 15, ho =>
   cases ho; cases hd
   have o14 := (hdep 14 (by decide)).2
   have e14 : Lk.look E 19 = some (V 14) := hlook 14 (by decide) _ _ rfl rfl
   replace hs : HS w0 w (_ ++ (M 14 ++ [])) := hs
   rw [List.append_nil] at hs
   refine L_assign rfl e14 ?_
   exact hc _ (M 14) w (hdep 14 (by decide)).1 o14 hs
 ·
  intro V M own w hΦ hs hown hnd E hold hlook
  replace hs := hs.pickOwn (k := 15) ((hown 15).2 ⟨by decide, by decide⟩) (fun j hj => (hΦ j ((hown j).1 hj).1).2)
  have hoM := (hΦ 15 (by decide)).2
  obtain ⟨B, c, u, vv, oo, hh, hv, hm⟩ : ∃ B c u vv o h, V 15 = .pointer (some ⟨B, 0, none⟩) ∧ M 15 = GameL B c u vv o h n (List.replicate (n * n) 0) (List.replicate n 0) (List.replicate n 0) (List.replicate n 0) (List.replicate n 0) := (hΦ 15 (by decide)).1
  rw [hm] at hs hoM
  have hO : ∀ {C U V of has : List Int}, Own w0 (GameL B c u vv oo hh n C U V of has) :=
   Own.cons (hoM (c, Row 2 (il (List.replicate (n * n) 0))) (by simp)) (Own.cons (hoM (u, Row 2 (il (List.replicate n 0))) (by simp)) (Own.cons (hoM (vv, Row 2 (il (List.replicate n 0))) (by simp)) (Own.cons (hoM (oo, Row 3 (il (List.replicate n 0))) (by simp)) (Own.cons (hoM (hh, Row 3 (il (List.replicate n 0))) (by simp)) (Own.cons (hoM (B, Row 116 (GameR n c u vv oo hh)) (by simp)) Own.nil)))))
  have e3 : Lk.look E 3 = some (.pointer (some ⟨B, 0, none⟩)) := by rw [hlook 15 _ _ rfl rfl, hv]
  refine Nx_env (e := [(3, .pointer (some ⟨B, 0, none⟩))]) ?_ (looks_cons e3 looks_nil)
  clear hΦ hown hold hlook hnd hm hv e3 hoM
  replace hs : HS w0 w (GameL B c u vv oo hh n (List.replicate (n * n) 0) (List.replicate n 0) (List.replicate n 0) (List.replicate n 0) (List.replicate n 0)) := hs
  refine Nx_then ?_
  refine W_seq ?_
  refine W_seq ?_
  refine W_region ?_
  refine L_move rfl rfl ?_
  refine L_nilCheck rfl rfl ?_
  refine L_fieldAddr rfl (off := 4) Try.underlying116 rfl rfl Try.ti31 rfl ?_
  refine L_load rfl Try.one31 rfl (by exact hs.cellA (i := 5) rfl rfl) ?_
  refine L_len rfl Try.underlying31 rfl ?_
  refine L_move rfl rfl ?_
  refine RL_then ?_
  refine W_block ?_
  refine W_loop3 (fun (j : Nat) (of : List Int) (w : World) => [(3, .pointer (some ⟨B, 0, none⟩)), (24, .int .i64 n), (25, .int .i64 j)]) (fun (j : Nat) (of : List Int) (w : World) => w) (fun (j : Nat) (of : List Int) (w : World) => (j ≤ n) ∧ (of.length = n) ∧ (∀ k, k < j → of.getD k 0 = -1) ∧ (HS w0 w (GameL B c u vv oo hh n (List.replicate (n * n) 0) (List.replicate n 0) (List.replicate n 0) of (List.replicate n 0)))) (fun (j : Nat) (of : List Int) (w : World) => n - j) (0) (List.replicate n 0) (w) (is := [3, 24, 25]) rfl rfl ?_ ?_
  ·
   exact ⟨Nat.zero_le _, by simp, fun _ h => absurd h (Nat.not_lt_zero _), hs⟩
  ·
   clear hs
   intro j of w hI
   show W _ _ _ _ [(3, .pointer (some ⟨B, 0, none⟩)), (24, .int .i64 n), (25, .int .i64 j)] w
   obtain ⟨hj, hol, hof, hs⟩ := hI
   by_cases hlt : j < n
   ·
    skip
    refine W_seq ?_
    refine W_region ?_
    first | refine L_lss rfl rfl rfl (dtrue (by omega)) ?_ | refine L_lss rfl rfl rfl (dfalse (by omega)) ?_ | refine L_lss rfl rfl rfl rfl ?_
    refine RL_then ?_
    refine W_seq ?_
    refine W_if_true rfl ?_
    refine W_skip' ?_
    refine Nx_then ?_
    refine W_seq ?_
    refine W_block ?_
    refine W_seq ?_
    refine W_region ?_
    refine L_move rfl rfl ?_
    refine L_assign rfl rfl ?_
    refine RL_then ?_
    refine W_region ?_
    refine L_move rfl rfl ?_
    refine L_nilCheck rfl rfl ?_
    refine L_fieldAddr rfl (off := 4) Try.underlying116 rfl rfl Try.ti31 rfl ?_
    refine L_load rfl Try.one31 rfl (by exact hs.cellA (i := 5) rfl rfl) ?_
    refine L_move rfl rfl ?_
    refine L_idx1 rfl Try.underlying31 Try.ti3 rfl rfl (by with_reducible first | exact natc_k _ | exact natc_a1 _ | exact natc_0 | exact natc_1 | exact natc_2 | exact natc_s1 _ (by omega) | exact natc_a2 _ | exact natc_add _ _ | exact natc_mul _ _ | exact natc (by omega)) (by omega) rfl ?_
    refine L_store hs (i := 3) rfl Try.ti3 rfl rfl (by first | rfl | exact add_lit0 _ _ | exact Addr.add_lit .. | (rw [add_add]; exact add_lit0 _ _)) (by first | omega | (simp; done) | (simp; omega)) rfl ?_
    intro w hs
    try dsimp only [List.set_cons_succ, List.set_cons_zero, List.cons_append, List.nil_append] at hs
    refine RL_nil' ?_
    refine Nx_block ?_
    refine Nx_then ?_
    refine W_region ?_
    first | refine L_add rfl rfl rfl (wrp_i64 (by omega)) ?_ | refine L_add rfl rfl rfl rfl ?_
    refine L_move rfl rfl ?_
    refine RL_nil' ?_
    rw [il_set] at hs
    refine Nx_loopP (j + 1, of.set j (-1), w) (is := [3, 24, 25]) (I' := (fun (j : Nat) (of : List Int) (w : World) => (j ≤ n) ∧ (of.length = n) ∧ (∀ k, k < j → of.getD k 0 = -1) ∧ (HS w0 w (GameL B c u vv oo hh n (List.replicate (n * n) 0) (List.replicate n 0) (List.replicate n 0) of (List.replicate n 0)))) (j + 1) (of.set j (-1)) (w)) rfl rfl rfl ?_ ?_
    ·
     refine ⟨by omega, by simp [hol], fun k hk => ?_, hs⟩
     rw [gset (by omega)]
     split
     ·
      rfl
     ·
      exact hof k (by omega)
    ·
     omega
   ·
    refine W_seq ?_
    refine W_region ?_
    first | refine L_lss rfl rfl rfl (dtrue (by omega)) ?_ | refine L_lss rfl rfl rfl (dfalse (by omega)) ?_ | refine L_lss rfl rfl rfl rfl ?_
    refine RL_then ?_
    refine W_seq ?_
    refine W_if_false rfl ?_
    refine W_exit' ?_
    refine Ex_then_exit ?_
    refine Ex_loop_exit ?_
    refine Ex_block_hit ?_
    refine Nx_then ?_
    refine W_seq ?_
    refine W_region ?_
    refine L_move rfl rfl ?_
    refine L_assign rfl rfl ?_
    refine RL_then ?_
    refine W_ret' ?_
    refine Ex_done1 rfl rfl ?_
    have hofe : of = List.replicate n (-1) := by
     apply List.ext_getElem
     ·
      simp [hol]
     ·
      intro k hk1 hk2
      have := hof k (by omega)
      simpa [List.getD, hk1] using this
    rw [hofe] at hs
    exact ⟨_, rfl, B, c, u, vv, oo, hh, rfl, hs, hO⟩
end Go.Proofs.Ytdllakfojligjaa
