/-
  A part of the proof: what functions that the statement reaches do, or a plain law on what they do. Each theorem holds under its own premises alone.
-/
import Derived.Test.YtdllakfojligjaaTKN
namespace Go.Proofs.Ytdllakfojligjaa
open Go Go.Lk
/-! ### A step -/
theorem HS.swp2 {w0 w : World} {p q : Nat × Obj} {L : Bks} (h : HS w0 w (q :: p :: L)) : HS w0 w (p :: q :: L) := h.mem_perm (List.Perm.swap ..)
structure StepIn (w0 : World) (N n : Nat) (k : Bok) (time : Nat) (a : Option Addr) (l : List Plt) (L : Bks) : Prop where
 book : k.ok w0 N
 N : N + 1 ≤ 1024
 own : Own w0 L
 pl : ∀ w' L', HS w0 w' L' → Own w0 L' → (∀ p ∈ L, p ∈ L') → SlC w' a (pcs l)
 len : l.length = n
 len2 : n ≤ 1000000
 lt : ∀ i, i < n → PltLt (l.getD i plt0)
 time : time < 18446744073709551616
 next : k.next + 256 ≤ 1000000
set_option maxHeartbeats 4000000 in
theorem step_ok (w0 w : World) (N n : Nat) (k : Bok) (time : Nat) (a : Option Addr) (c : Nat) (l : List Plt) (L : Bks) (hs : HS w0 w (k.bks ++ L)) (hI : StepIn w0 N n k time a l L) :
  Ret Try.prog 10 [bv k.B, .float .f64 time, .slice a n c] w fun v w' =>
   (refE k.last time l ≠ 0 ∧ v = .tuple #[.slice none 0 0, .int .i64 (refE k.last time l)] ∧ HS w0 w' (k.bks ++ L)) ∨
   (refE k.last time l = 0 ∧ ∃ k' vt Mt told os2 ps ms os3, v = .tuple #[vt, .int .i64 0] ∧ HS w0 w' (k'.bks ++ L ++ Mt) ∧ Bl w0 3 1 vt n (il told) Mt ∧ told.length = n ∧ k'.ok w0 (N + 1) ∧ StepTo k time l k' told os2 ps ms os3) := by
 have hk := hI.book
 have hn := hI.len
 have hn2 := hI.len2
 have hkB := hk.B
 have hkm := hk.mb
 obtain ⟨er, her⟩ : ∃ er, er = refE k.last time l := ⟨_, rfl⟩
 rw [← her]
 refine calls_of_W Try.func10 rfl rfl rfl ?_
 refine W_seq ?_
 refine W_region ?_
 refine L_assign rfl rfl ?_
 refine L_assign rfl rfl ?_
 refine RL_then ?_
 refine W_seq ?_
 refine W_seq ?_
 refine W_region ?_
 refine L_move rfl rfl ?_
 refine L_ptrNil rfl Try.underlying27 rfl rfl ?_
 refine RL_then ?_
 refine W_if_false rfl ?_
 refine W_skip' ?_
 refine Nx_then ?_
 refine W_seq ?_
 refine W_seq ?_
 refine W_region ?_
 refine L_move rfl rfl ?_
 refine L_move rfl rfl ?_
 refine L_move rfl rfl ?_
 refine L_call rfl Try.fun37 rfl (refused_ok k.B time k.last a n c l w (Lk.cell_of_row (hs.has _ (List.mem_cons_self ..)) rfl) hI.time (hI.pl w _ hs (hk.own.app hI.own) (fun p hp => List.mem_append_right _ hp)) hn hn2 hI.lt) ?_
 rintro _ w1 ⟨rfl, hs'⟩
 have hs1 := hs.nil hs'
 clear hs hs'
 have hs := hs1
 clear hs1
 rw [← her]
 by_cases he : er = 0
 ·
  subst he
  have hn256 : n ≤ 256 := by
   apply Classical.byContradiction
   intro h
   unfold refE at her
   rw [if_pos (by omega)] at her
   cases her
  refine L_assign rfl rfl ?_
  refine RL_then ?_
  refine W_seq ?_
  refine W_region ?_
  refine L_move rfl rfl ?_
  first | refine L_neq rfl rfl rfl (dtrue (by omega)) ?_ | refine L_neq rfl rfl rfl (dfalse (by omega)) ?_ | refine L_neq rfl rfl rfl rfl ?_
  refine RL_then ?_
  refine W_if_false rfl ?_
  refine W_skip' ?_
  refine Nx_then ?_
  refine W_seq ?_
  refine W_region ?_
  refine L_move rfl rfl ?_
  refine L_move rfl rfl ?_
  refine L_nilCheck rfl rfl ?_
  refine L_fieldAddr rfl (off := 8) Try.underlying88 rfl rfl Try.ti23 rfl ?_
  refine L_store hs (i := 0) rfl Try.ti23 rfl rfl (by first | rfl | exact add_lit0 _ _ | exact Addr.add_lit .. | (rw [add_add]; exact add_lit0 _ _)) (by simp [Rul.cells]) rfl ?_
  intro w hs
  try dsimp only [List.set_cons_succ, List.set_cons_zero, List.cons_append, List.nil_append] at hs
  refine RL_then ?_
  refine W_seq ?_
  obtain ⟨c1, hc1⟩ : ∃ c1 : List Value, c1 = k.r.cells ++ [.map (some k.mb), .int .i64 k.next, .float .f64 time] := ⟨_, rfl⟩
  have hs1 : HS w0 w ((k.B, Row 88 c1) :: (k.mrow :: (obs k.os ++ L))) := by rw [hc1]; exact hs
  clear hs
  have hs2 : HS w0 w (k.mrow :: ((k.B, Row 88 c1) :: (obs k.os ++ L))) := HS.re hs1 (fun c => by simp only [List.map_append, List.map_cons, List.map_nil, List.sum_append, List.sum_cons, List.sum_nil]; omega)
  clear hs1
  have hs := hs2
  clear hs2
  have hids : (k.os.map fun o => o.t.id).Nodup := by rw [← k.ids]; exact hk.ents.keys
  have hkd : ∀ x ∈ k.ents, ∃ cs, (x.2.1, Row 93 cs) ∈ (k.B, Row 88 c1) :: (obs k.os ++ L) ∧ cs[1]? = some (.int .i8 (kdOf k.os x)) := by
   intro x hx
   obtain ⟨o, ho, rfl⟩ := List.mem_map.1 hx
   refine ⟨o.cells, List.mem_cons_of_mem _ (List.mem_append_left _ (obs_mem ho _ On.row_mem)), ?_⟩
   rw [kdOf_eq hids ho]; rfl
  refine W_region ?_
  refine L_move rfl rfl ?_
  refine L_nilCheck rfl rfl ?_
  refine L_fieldAddr rfl (off := 6) Try.underlying88 rfl rfl Try.ti85 rfl ?_
  refine L_load rfl Try.one85 rfl (by exact cellAM hs (b := k.B) (cs := c1) (List.mem_cons_of_mem _ (List.mem_cons_self ..)) (j := 6) (by rw [hc1]; rfl)) ?_
  refine L_call rfl Try.fun38 rfl (delete_ok w0 w k.mb k.ck k.ents (kdOf k.os) _ hs hk.ents hkd) ?_
  rintro _ w1 hs1
  clear hs
  rw [show k.ents.filter (fun x => !decide (kdOf k.os x = 2)) = (k.os.filter aliveB).map entOf from ents_alive hids] at hs1
  obtain ⟨os1, hos1⟩ : ∃ os1, os1 = k.os.filter aliveB := ⟨_, rfl⟩
  rw [← hos1] at hs1
  have hs2 : HS w0 w1 (obs k.os ++ ((k.B, Row 88 c1) :: (k.mb, MapO (Value.int .i64) pv (os1.map entOf) k.ck) :: L)) := HS.re hs1 (fun c => by simp only [List.map_append, List.map_cons, List.map_nil, List.sum_append, List.sum_cons, List.sum_nil]; omega)
  clear hs1
  have hs3 := HS.alive (p := aliveB) hs2 hk.each
  clear hs2
  rw [← hos1] at hs3
  have hs : HS w0 w1 ((k.B, Row 88 c1) :: (k.mb, MapO (Value.int .i64) pv (os1.map entOf) k.ck) :: (obs os1 ++ L)) := HS.re hs3 (fun c => by simp only [List.map_append, List.map_cons, List.map_nil, List.sum_append, List.sum_cons, List.sum_nil]; omega)
  clear hs3
  obtain ⟨k2, hk2⟩ : ∃ k2 : Bok, k2 = { k with last := time, os := os1 } := ⟨_, rfl⟩
  replace hs : HS w0 w1 (k2.row :: k2.mrow :: (obs k2.os ++ L)) := by rw [hk2]; rw [hc1] at hs; exact hs
  have hsub : ∀ o ∈ os1, o ∈ k.os := fun o ho => by rw [hos1] at ho; exact (List.mem_filter.1 ho).1
  have hk2o : k2.ok w0 N := by
   rw [hk2]
   refine ⟨hk.B, hk.mb, fun o ho => hk.each o (hsub o ho), ?_, fun o ho => hk.low o (hsub o ho), hk.next1, hk.next2, fun o ho => hk.hist o (hsub o ho), hk.rul, ?_⟩
   ·
    have := hk.ents.sub (fun x => !decide (kdOf k.os x = 2))
    rw [show k.ents.filter (fun x => !decide (kdOf k.os x = 2)) = (k.os.filter aliveB).map entOf from ents_alive hids, ← hos1] at this
    exact this
   ·
    show os1.length ≤ 256
    rw [hos1]; exact Nat.le_trans (List.length_filter_le ..) hk.cnt
  have e2B : k2.B = k.B := by rw [hk2]
  have e2m : k2.mb = k.mb := by rw [hk2]
  refine RL_then ?_
  refine W_seq ?_
  refine W_region ?_
  refine L_move rfl rfl ?_
  refine L_len rfl Try.underlying36 rfl ?_
  obtain ⟨Y, hY⟩ : ∃ Y, Y = k2.row :: k2.mrow :: (obs k2.os ++ L) := ⟨_, rfl⟩
  rw [← hY] at hs
  have hLY : ∀ p ∈ L, p ∈ Y := fun p hp => by rw [hY]; exact List.mem_cons_of_mem _ (List.mem_cons_of_mem _ (List.mem_append_right _ hp))
  have hYo : Own w0 Y := by rw [hY]; exact hk2o.own.app hI.own
  refine L_make rfl hs Try.underlying95 Try.ti97 rfl rfl rfl rfl (Nat.le_refl _) (by omega) (by omega) ?_
  intro b52 w hb52 _ hs
  replace hs := HS.push hs
  have hs1 : HS w0 w ((b52, Row 97 (pqs (([] : List Pq) ++ List.replicate n pq0))) :: Y) := by
   have e : madeCells (Value.agg #[Value.float .f64 0, Value.float .f64 0]).cells (n * 2) = (pqs (([] : List Pq) ++ List.replicate n pq0)).toArray := by
    rw [List.nil_append, ← pqs_made, ← madeCells_pair]; rfl
   have e2 := congrArg (fun z : Array Value => ((b52, Obj.cells z 97) : Nat × Obj)) e
   rw [show ((b52, Row 97 (pqs (([] : List Pq) ++ List.replicate n pq0))) : Nat × Obj) = (b52, Obj.cells (madeCells (Value.agg #[Value.float .f64 0, Value.float .f64 0]).cells (n * 2)) 97) from e2.symm]
   exact hs
  clear hs
  have hs := hs1
  clear hs1
  refine L_assign rfl rfl ?_
  refine RL_then ?_
  refine W_seq ?_
  refine W_seq ?_
  refine W_region ?_
  refine L_move rfl rfl ?_
  refine L_len rfl Try.underlying36 rfl ?_
  refine L_move rfl rfl ?_
  refine RL_then ?_
  refine W_block ?_
  refine W_loop3 (fun (ps : List Pq) (i : Nat) (w : World) => [(0, bv k.B), (1, .float .f64 time), (2, .slice a n c), (9, .slice (some ⟨b52, 0, none⟩) n n), (53, .slice a n c), (54, .int .i64 n), (55, .int .i64 i)]) (fun (ps : List Pq) (i : Nat) (w : World) => w) (fun (ps : List Pq) (i : Nat) (w : World) => (i ≤ n) ∧ (All2 PtOk (l.take i) ps) ∧ (HS w0 w ((b52, Row 97 (pqs (ps ++ List.replicate (n - i) pq0))) :: Y))) (fun (ps : List Pq) (i : Nat) (w : World) => n - i) ([]) (0) (_) (is := [0, 1, 2, 9, 53, 54, 55]) rfl rfl ?_ ?_
  ·
   exact ⟨Nat.zero_le _, .nil, hs⟩
  ·
   clear hs
   intro ps i w hI
   show W _ _ _ _ [(0, bv k.B), (1, .float .f64 time), (2, .slice a n c), (9, .slice (some ⟨b52, 0, none⟩) n n), (53, .slice a n c), (54, .int .i64 n), (55, .int .i64 i)] w
   obtain ⟨hi, hps, hs⟩ := hI
   by_cases hlt2 : i < n
   ·
    have hpl := hps.len
    rw [List.length_take, Nat.min_eq_left (by omega)] at hpl
    have hsl : SlC w a (pcs l) := hI.pl w _ hs (Own.cons hb52 hYo) (fun p hp => List.mem_cons_of_mem _ (hLY p hp))
    obtain ⟨m, hm⟩ : ∃ m, n - i = m + 1 := ⟨n - i - 1, by omega⟩
    rw [hm] at hs
    refine W_seq ?_
    refine W_region ?_
    first | refine L_lss rfl rfl rfl (dtrue (by omega)) ?_ | refine L_lss rfl rfl rfl (dfalse (by omega)) ?_ | refine L_lss rfl rfl rfl rfl ?_
    refine RL_then ?_
    refine W_seq ?_
    refine W_if_true rfl ?_
    refine W_skip' ?_
    refine Nx_then ?_
    refine W_seq ?_
    refine W_block ?_
    refine W_seq ?_
    refine W_region ?_
    refine L_move rfl rfl ?_
    refine L_idxN rfl Try.underlying36 Try.ti35 rfl rfl (by with_reducible first | exact natc_k _ | exact natc_a1 _ | exact natc_0 | exact natc_1 | exact natc_2 | exact natc_s1 _ (by omega) | exact natc_a2 _ | exact natc_add _ _ | exact natc_mul _ _ | exact natc (by omega)) (by omega) (hsl.ao (by rw [pcs_len]; omega)) ?_
    refine L_loadA rfl Try.agg35 Try.ti35 rfl (by exact plt_at hsl (by omega)) ?_
    refine L_alloc rfl hs Try.ti35 ?_; intro b11 w hb11 _ hs; replace hs := HS.push hs
    refine L_assign rfl rfl ?_
    refine L_storeA hs (i := 0) rfl Try.ti35 rfl rfl (by first | rfl | exact add_lit0 _ _ | exact Addr.add_lit .. | (rw [add_add]; exact add_lit0 _ _)) (by simp [Plt.cells]) (by exact Plt.one _) ?_
    intro w hs
    try dsimp only [List.set_cons_succ, List.set_cons_zero, List.cons_append, List.nil_append] at hs
    refine RL_then ?_
    refine W_region ?_
    refine L_move rfl rfl ?_
    refine L_move rfl rfl ?_
    replace hs : HS w0 w ((b11, Row 35 (l.getD i plt0).cells) :: (b52, Row 97 (pqs (ps ++ List.replicate (m + 1) pq0))) :: Y) := hs
    refine L_loadA rfl Try.agg35 Try.ti35 rfl (by exact cellsAt_whole (cs := (l.getD i plt0).cells) (hs.get (i := 0) rfl)) ?_
    refine L_call rfl Try.fun40 rfl (point_ok (l.getD i plt0) (hI.lt i hlt2).b w) ?_
    rintro _ w1 ⟨⟨px, py, rfl, hpx, hpy⟩, hs'⟩
    have hs1 := hs.nil hs'
    clear hs hs'
    have hs := hs1
    clear hs1
    refine L_idxN rfl Try.underlying95 Try.ti97 rfl rfl (by with_reducible first | exact natc_k _ | exact natc_a1 _ | exact natc_0 | exact natc_1 | exact natc_2 | exact natc_s1 _ (by omega) | exact natc_a2 _ | exact natc_add _ _ | exact natc_mul _ _ | exact natc (by omega)) (by omega) rfl ?_
    refine L_storeA hs (i := 1) rfl Try.ti97 rfl rfl (by first | rfl | exact add_lit0 _ _ | exact Addr.add_lit .. | (rw [add_add]; exact add_lit0 _ _)) (by simp only [pqs_len, List.length_append, List.length_replicate, List.length_cons, List.length_nil]; omega) (by simp [Value.oneCell']) ?_
    intro w hs
    try dsimp only [List.set_cons_succ, List.set_cons_zero, List.cons_append, List.nil_append] at hs
    refine RL_nil' ?_
    refine Nx_block ?_
    refine Nx_then ?_
    refine W_region ?_
    first | refine L_add rfl rfl rfl (wrp_i64 (by omega)) ?_ | refine L_add rfl rfl rfl rfl ?_
    refine L_move rfl rfl ?_
    refine RL_nil' ?_
    refine Nx_loopP (ps ++ [⟨px, py⟩], i + 1, _) (is := [0, 1, 2, 9, 53, 54, 55]) (I' := (fun (ps : List Pq) (i : Nat) (w : World) => (i ≤ n) ∧ (All2 PtOk (l.take i) ps) ∧ (HS w0 w ((b52, Row 97 (pqs (ps ++ List.replicate (n - i) pq0))) :: Y))) (ps ++ [⟨px, py⟩]) (i + 1) (_)) rfl rfl rfl ?_ ?_
    ·
     refine ⟨by omega, ?_, ?_⟩
     ·
      rw [take_snoc (j := i) (x := l.getD i plt0) (by rw [List.getElem?_eq_getElem (by omega), List.getD_eq_getElem?_getD, List.getElem?_eq_getElem (by omega)]; rfl)]
      exact hps.snoc ⟨hpx, hpy⟩
     ·
      have h1 := HS.pop hs hb11
      rw [show n - (i + 1) = m by omega, ← pqs_put hpl]
      exact h1
    ·
     show n - (i + 1) < n - i; omega
   ·
    obtain rfl : n = i := by omega
    rw [Nat.sub_self] at hs
    rw [← hn, List.take_length] at hps
    have hpl := hps.len
    replace hs : HS w0 w ((b52, Row 97 (pqs ps)) :: Y) := by rw [show pqs ps = pqs (ps ++ List.replicate 0 pq0) by simp]; exact hs
    refine W_seq ?_
    refine W_region ?_
    first | refine L_lss rfl rfl rfl (dtrue (by omega)) ?_ | refine L_lss rfl rfl rfl (dfalse (by omega)) ?_ | refine L_lss rfl rfl rfl rfl ?_
    refine RL_then ?_
    refine W_seq ?_
    refine W_if_false rfl ?_
    refine W_exit' ?_
    refine Ex_then_exit ?_
    refine Ex_loop_exit ?_
    refine Ex_block_hit ?_
    refine Nx_then ?_
    refine W_seq ?_
    refine W_region ?_
    refine L_move rfl rfl ?_
    have hBY : (k.B, Row 88 k2.cells) ∈ Y := by rw [hY, ← e2B]; exact List.mem_cons_self ..
    have hmY : (k.mb, MapO (Value.int .i64) pv k2.ents k2.ck) ∈ Y := by rw [hY, ← e2m]; exact List.mem_cons_of_mem _ (List.mem_cons_self ..)
    refine L_call rfl Try.fun41 rfl (ids_ok k.B k.mb k2.ck k2.ents w0 w _ k2.cells hs (List.mem_cons_of_mem _ hBY) (by rw [← e2m]; rfl) (List.mem_cons_of_mem _ hmY) hk2o.ents (Own.cons hb52 hYo)) ?_
    rintro vi w1 ⟨Mi, hs1, hbi⟩
    clear hs
    have hs := hs1
    clear hs1
    rw [k2.ids, k2.ents_len] at hbi
    obtain ⟨ai, ci, rfl, hci⟩ := hbi.slice
    have hm256 := hk2o.cnt
    obtain ⟨m, hm⟩ : ∃ m, m = k2.os.length := ⟨_, rfl⟩
    rw [← hm] at hbi hci hm256 ⊢
    refine L_assign rfl rfl ?_
    refine RL_then ?_
    refine W_seq ?_
    refine W_region ?_
    refine L_move rfl rfl ?_
    refine L_len rfl Try.underlying31 rfl ?_
    refine L_make1 rfl hs Try.underlying67 Try.ti69 rfl rfl rfl rfl (Nat.le_refl _) (by omega) (by omega) rfl ?_
    intro b70 w hb70 _ hs
    obtain ⟨Z, hZ⟩ : ∃ Z, Z = (k.B, Row 88 k2.cells) :: (k.mb, MapO (Value.int .i64) pv k2.ents k2.ck) :: (b52, Row 97 (pqs ps)) :: (L ++ Mi) := ⟨_, rfl⟩
    have hs1 : HS w0 w ((b70, Row 69 (rvs ([] : List RR) ++ List.replicate m (.slice none 0 0))) :: (rbs ([] : List RR) ++ (obs k2.os ++ Z))) := by
     have h0 : HS w0 w (((b52, Row 97 (pqs ps)) :: ((k.B, Row 88 k2.cells) :: (k.mb, MapO (Value.int .i64) pv k2.ents k2.ck) :: (obs k2.os ++ L)) ++ Mi) ++ [(b70, Row 69 (List.replicate m (.slice none 0 0)))]) := by
      rw [hY, ← e2B, ← e2m] at *
      exact hs
     show HS w0 w ((b70, Row 69 (List.replicate m (.slice none 0 0))) :: (obs k2.os ++ Z))
     rw [hZ]
     exact HS.re h0 (fun c => by simp only [List.map_append, List.map_cons, List.map_nil, List.sum_append, List.sum_cons, List.sum_nil]; omega)
    clear hs
    have hs := hs1
    clear hs1
    have hBZ : (k.B, Row 88 k2.cells) ∈ Z := by rw [hZ]; exact List.mem_cons_self ..
    have hmZ : (k.mb, MapO (Value.int .i64) pv k2.ents k2.ck) ∈ Z := by rw [hZ]; exact List.mem_cons_of_mem _ (List.mem_cons_self ..)
    have hgZ : (b52, Row 97 (pqs ps)) ∈ Z := by rw [hZ]; exact List.mem_cons_of_mem _ (List.mem_cons_of_mem _ (List.mem_cons_self ..))
    have hiZ : ∀ p ∈ Mi, p ∈ Z := fun p hp => by rw [hZ]; exact List.mem_cons_of_mem _ (List.mem_cons_of_mem _ (List.mem_cons_of_mem _ (List.mem_append_right _ hp)))
    have hLZ : ∀ p ∈ L, p ∈ Z := fun p hp => by rw [hZ]; exact List.mem_cons_of_mem _ (List.mem_cons_of_mem _ (List.mem_cons_of_mem _ (List.mem_append_left _ hp)))
    have hZo : Own w0 Z := by rw [hZ]; exact Own.cons hkB (Own.cons hkm (Own.cons hb52 (hI.own.app hbi.own)))
    clear hY hLY hYo hBY hmY
    have hpl2 : ps.length = n := by omega
    have hc6 : k2.cells[6]? = some (.map (some k.mb)) := by rw [← e2m]; rfl
    have hc7 : k2.cells[7]? = some (.int .i64 k.next) := by rw [hk2]; rfl
    have hc0 : k2.cells[0]? = some (.float .f64 k.r.noise) := by rw [hk2]; rfl
    have hc1 : k2.cells[1]? = some (.float .f64 k.r.sway) := by rw [hk2]; rfl
    have hc2 : k2.cells[2]? = some (.float .f64 k.r.gate) := by rw [hk2]; rfl
    refine L_assign rfl rfl ?_
    refine RL_then ?_
    refine W_seq ?_
    refine W_seq ?_
    refine W_region ?_
    refine L_move rfl rfl ?_
    refine L_len rfl Try.underlying31 rfl ?_
    refine L_move rfl rfl ?_
    refine RL_then ?_
    refine W_block ?_
    refine W_loop4 (fun (done : List On) (rr : List RR) (i : Nat) (w : World) => [(0, bv k.B), (1, .float .f64 time), (2, .slice a n c), (9, .slice (some ⟨b52, 0, none⟩) n n), (12, .slice ai m ci), (13, .slice (some ⟨b70, 0, none⟩) m m), (71, .slice ai m ci), (72, .int .i64 m), (73, .int .i64 i)]) (fun (done : List On) (rr : List RR) (i : Nat) (w : World) => w) (fun (done : List On) (rr : List RR) (i : Nat) (w : World) => (i ≤ m) ∧ (All2 (AheadR time k.r.sway) (k2.os.take i) done) ∧ (rr.map RR.xs = costRows k.r ps done) ∧ ((∀ r ∈ rr, r.ok w0) ∧ (∀ o ∈ done, o.ok w0)) ∧ (HS w0 w ((b70, Row 69 (rvs rr ++ List.replicate (m - i) (.slice none 0 0))) :: (rbs rr ++ (obs (done ++ k2.os.drop i) ++ Z))))) (fun (done : List On) (rr : List RR) (i : Nat) (w : World) => m - i) ([]) ([]) (0) (_) (is := [0, 1, 2, 9, 12, 13, 71, 72, 73]) rfl rfl ?_ ?_
    ·
     exact ⟨Nat.zero_le _, .nil, rfl, ⟨fun r hr => (by cases hr), fun o ho => (by cases ho)⟩, hs⟩
    ·
     clear hs
     intro done rr i w hI
     show W _ _ _ _ [(0, bv k.B), (1, .float .f64 time), (2, .slice a n c), (9, .slice (some ⟨b52, 0, none⟩) n n), (12, .slice ai m ci), (13, .slice (some ⟨b70, 0, none⟩) m m), (71, .slice ai m ci), (72, .int .i64 m), (73, .int .i64 i)] w
     obtain ⟨hi, hah, hrx, ⟨hro, hdo⟩, hs⟩ := hI
     by_cases hlt2 : i < m
     ·
      have ho : k2.os.getD i on0 ∈ k2.os := getD_mem (by omega)
      obtain ⟨o, hoe⟩ : ∃ o, o = k2.os.getD i on0 := ⟨_, rfl⟩
      rw [← hoe] at ho
      have hid : (k2.os.map fun o => o.t.id)[i]? = some o.t.id := by rw [hoe]; exact get_of_map rfl (by omega)
      have hok := hk2o.each o ho
      have hdr : k2.os.drop i = o :: k2.os.drop (i + 1) := by
       rw [hoe, List.getD_eq_getElem?_getD, List.getElem?_eq_getElem (by omega), Option.getD_some, List.getElem_cons_drop]
      have hdl := hah.len
      rw [List.length_take, Nat.min_eq_left (by omega)] at hdl
      have hrl : rr.length = i := by have := congrArg List.length hrx; rw [List.length_map, costRows_len] at this; omega
      obtain ⟨q, hq⟩ : ∃ q, m - i = q + 1 := ⟨m - i - 1, by omega⟩
      rw [hq, hdr, obs_app] at hs
      obtain ⟨X, hX⟩ : ∃ X, X = o.Mx ++ (o.My ++ (obs (done ++ k2.os.drop (i + 1)) ++ Z)) := ⟨_, rfl⟩
      have hXZ : ∀ p ∈ Z, p ∈ X := fun p hp => by rw [hX]; exact List.mem_append_right _ (List.mem_append_right _ (List.mem_append_right _ hp))
      have hs1 : HS w0 w ((o.p, Row 93 (oRow o o.t)) :: (b70, Row 69 (rvs rr ++ List.replicate (q + 1) (.slice none 0 0))) :: (rbs rr ++ X)) := by
       have h0 : HS w0 w ((b70, Row 69 (rvs rr ++ List.replicate (q + 1) (.slice none 0 0))) :: (rbs rr ++ ((obs done ++ (((o.p, Row 93 (oRow o o.t)) :: (o.Mx ++ o.My)) ++ obs (k2.os.drop (i + 1)))) ++ Z))) := hs
       rw [hX, obs_app]
       exact HS.re h0 (fun c => by simp only [List.map_append, List.map_cons, List.map_nil, List.sum_append, List.sum_cons, List.sum_nil]; omega)
      clear hs
      have hs := hs1
      clear hs1
      have hsi : SlC w ai (il (k2.os.map fun o => o.t.id)) := Bl.slcM hbi hs (fun p hp => List.mem_cons_of_mem _ (List.mem_cons_of_mem _ (List.mem_append_right _ (hXZ _ (hiZ p hp)))))
      have hai := hsi.ao (by rw [il_length, List.length_map]; omega)
      have hcell : w.cell? ((aD ai).add i) = some (.int .i64 o.t.id) := hsi.2 i _ (by unfold il; rw [List.getElem?_map, hid]; rfl)
      have hmem : ∀ p ∈ Z, p ∈ (o.p, Row 93 (oRow o o.t)) :: (b70, Row 69 (rvs rr ++ List.replicate (q + 1) (.slice none 0 0))) :: (rbs rr ++ X) := fun p hp => List.mem_cons_of_mem _ (List.mem_cons_of_mem _ (List.mem_append_right _ (hXZ _ hp)))
      have hgo := Bok.get hk2o ho
      refine W_seq ?_
      refine W_region ?_
      first | refine L_lss rfl rfl rfl (dtrue (by omega)) ?_ | refine L_lss rfl rfl rfl (dfalse (by omega)) ?_ | refine L_lss rfl rfl rfl rfl ?_
      refine RL_then ?_
      refine W_seq ?_
      refine W_if_true rfl ?_
      refine W_skip' ?_
      refine Nx_then ?_
      refine W_seq ?_
      refine W_block ?_
      refine W_seq ?_
      refine W_region ?_
      refine L_move rfl rfl ?_
      refine L_idx1 rfl Try.underlying31 Try.ti3 rfl rfl (by with_reducible first | exact natc_k _ | exact natc_a1 _ | exact natc_0 | exact natc_1 | exact natc_2 | exact natc_s1 _ (by omega) | exact natc_a2 _ | exact natc_add _ _ | exact natc_mul _ _ | exact natc (by omega)) (by omega) hai ?_
      refine L_load rfl Try.one3 rfl (by exact hcell) ?_
      refine L_assign rfl rfl ?_
      refine L_assign rfl rfl ?_
      refine RL_then ?_
      refine W_seq ?_
      refine W_region ?_
      refine L_move rfl rfl ?_
      refine L_nilCheck rfl rfl ?_
      refine L_fieldAddr rfl (off := 6) Try.underlying88 rfl rfl Try.ti85 rfl ?_
      refine L_load rfl Try.one85 rfl (by exact cellAM hs (hmem _ hBZ) (j := 6) hc6) ?_
      refine L_move rfl rfl ?_
      refine L_look1 (k := o.t.id) (ev := pv) (z := .pointer none) rfl K3 Try.underlying85 Try.ti91 (hs.has _ (hmem _ hmZ)) rfl rfl ?_; rw [hgo]
      refine L_nilCheck rfl rfl ?_
      refine L_fieldAddr rfl (off := 0) Try.underlying93 rfl rfl Try.ti49 rfl ?_
      refine L_assign rfl rfl ?_
      refine RL_then ?_
      refine W_seq ?_
      refine W_set 16 (v' := .pointer (some ⟨o.p, 0, none⟩)) rfl (rfl) ?_
      refine W_region ?_
      refine L_move rfl rfl ?_
      refine L_move rfl rfl ?_
      refine L_nilCheck rfl rfl ?_
      refine L_fieldAddr rfl (off := 14) Try.underlying49 rfl rfl Try.ti23 rfl ?_
      refine L_load rfl Try.one23 rfl (by exact hs.cellA (i := 0) (j := 14) rfl rfl) ?_
      refine L_farith rfl (op := .sub) rfl rfl rfl ?_
      intro r91 k91 hr91
      try replace hs := hs.drewN k91
      refine L_assign rfl rfl ?_
      refine RL_then ?_
      refine W_seq ?_
      refine W_sg Try.mixed ?_
      replace hs := hs.drewN 1
      refine SG_stageB [0, 1, 2, 3, 4, 6, 7, 8, 9, 10, 13, 14, 15, 17, 18, 19, 20, 21] [5, 11, 12, 16, 22, 23, 24, 25] [26, 27, 28, 29] (noBk SPC) (g' := 0) (by kernel_rfl) (by kernel_rfl) (fun _ _ _ _ _ h => h) hs ?_
      refine PL_val rfl (fun w => R_move rfl) ?_
      refine PL_val rfl (fun w => R_move rfl) ?_
      refine PL_val rfl (fun w => R_move rfl) ?_
      refine PL_val rfl (fun w => R_nilCheck rfl) ?_
      refine PL_val rfl (fun w => R_fieldAddr (off := 2) Try.underlying49 rfl rfl Try.ti46 rfl) ?_
      refine PL_val rfl (fun w => R_move rfl) ?_
      refine PL_val rfl (fun w => R_move rfl) ?_
      refine PL_val rfl (fun w => R_nilCheck rfl) ?_
      refine PL_val rfl (fun w => R_fieldAddr (off := 0) Try.underlying88 rfl rfl Try.ti25 rfl) ?_
      refine PL_val rfl (fun w => R_fieldAddr (off := 1) Try.underlying25 rfl rfl Try.ti23 rfl) ?_
      refine PL_val rfl (fun w => R_move rfl) ?_
      refine PL_val rfl (fun w => R_nilCheck rfl) ?_
      refine PL_val rfl (fun w => R_fieldAddr (off := 7) Try.underlying49 rfl rfl Try.ti46 rfl) ?_
      refine PL_val rfl (fun w => R_move rfl) ?_
      refine PL_val rfl (fun w => R_move rfl) ?_
      refine PL_val rfl (fun w => R_nilCheck rfl) ?_
      refine PL_val rfl (fun w => R_fieldAddr (off := 0) Try.underlying88 rfl rfl Try.ti25 rfl) ?_
      refine PL_val rfl (fun w => R_fieldAddr (off := 1) Try.underlying25 rfl rfl Try.ti23 rfl) ?_
      refine PL_endB ?_
      refine HB_val rfl (fun w R hR hs => R_loadA Try.agg46 Try.ti46 rfl (by exact cellsAt_part (n := 5) (cs := o.t.x.cells) (hs.get (i := 0) rfl) rfl)) ?_
      refine HB_val rfl (fun w R hR hs => R_load Try.one23 rfl (by exact cellAM hs (List.mem_append_left _ (hmem _ hBZ)) (j := 1) hc1)) ?_
      refine HB_callH rfl Try.fun23 rfl (fun w R hR hs => aheadH hs o.t.x r91 k.r.sway) ?_
      rintro _ hd
      obtain ⟨ux, rfl, hux⟩ := hd _ rfl
      refine HB_val rfl (fun w R hR hs => R_loadA Try.agg46 Try.ti46 rfl (by exact cellsAt_part (n := 5) (cs := o.t.y.cells) (hs.get (i := 0) rfl) rfl)) ?_
      refine HB_val rfl (fun w R hR hs => R_load Try.one23 rfl (by exact cellAM hs (List.mem_append_left _ (hmem _ hBZ)) (j := 1) hc1)) ?_
      refine HB_callH rfl Try.fun23 rfl (fun w R hR hs => aheadH hs o.t.y r91 k.r.sway) ?_
      rintro _ hd
      obtain ⟨uy, rfl, huy⟩ := hd _ rfl
      refine HB_val rfl (fun w R hR hs => R_nilCheck rfl) ?_
      refine HB_val rfl (fun w R hR hs => R_fieldAddr (off := 2) Try.underlying49 rfl rfl Try.ti46 rfl) ?_
      refine HB_tail ?_
      intro w hs
      refine L_storeA hs (i := 0) rfl Try.ti46 rfl rfl (by first | rfl | exact add_lit0 _ _ | exact Addr.add_lit .. | (rw [add_add]; exact add_lit0 _ _)) (by simp [On.cells, Stt.cells]) (by simp [Stt.cells, Value.oneCell']) ?_
      intro w hs
      try dsimp only [List.set_cons_succ, List.set_cons_zero, List.cons_append, List.nil_append] at hs
      refine L_nilCheck rfl rfl ?_
      refine L_fieldAddr rfl (off := 7) Try.underlying49 rfl rfl Try.ti46 rfl ?_
      refine L_storeA hs (i := 0) rfl Try.ti46 rfl rfl (by first | rfl | exact add_lit0 _ _ | exact Addr.add_lit .. | (rw [add_add]; exact add_lit0 _ _)) (by simp [On.cells, Stt.cells]) (by simp [Stt.cells, Value.oneCell']) ?_
      intro w hs
      try dsimp only [List.set_cons_succ, List.set_cons_zero, List.cons_append, List.nil_append] at hs
      refine RL_sg ?_
      refine SG_end (by kernel_rfl) ?_
      refine Nx_then ?_
      refine W_seq ?_
      obtain ⟨o1, ho1⟩ : ∃ o1 : On, o1 = { o with t := { o.t with x := ux, y := uy } } := ⟨_, rfl⟩
      have hs1 : HS w0 w ((o1.p, Row 93 (oRow o1 o1.t)) :: (b70, Row 69 (rvs rr ++ List.replicate (q + 1) (.slice none 0 0))) :: (rbs rr ++ X)) := by
       rw [List.append_nil] at hs
       rw [ho1]; exact hs
      clear hs
      have hs := hs1
      clear hs1
      obtain ⟨V1, hV1⟩ : ∃ V1, V1 = (o1.p, Row 93 (oRow o1 o1.t)) :: (rbs rr ++ X) := ⟨_, rfl⟩
      have hs1 : HS w0 w ((b70, Row 69 (rvs rr ++ (Value.slice none 0 0) :: List.replicate q (.slice none 0 0))) :: ([] ++ V1)) := by
       rw [hV1]
       exact HS.swp2 hs
      clear hs
      have hs := hs1
      clear hs1
      have ho1p : o1.p = o.p := by rw [ho1]
      have hrowV : (o.p, Row 93 (oRow o1 o1.t)) ∈ V1 := by rw [hV1, ho1p]; exact List.mem_cons_self ..
      have hZV : ∀ p ∈ Z, p ∈ V1 := fun p hp => by rw [hV1]; exact List.mem_cons_of_mem _ (List.mem_append_right _ (hXZ _ hp))
      have hrvl : (rvs rr).length = i := by unfold rvs; rw [List.length_map, hrl]
      clear hmem hsi hcell
      refine W_region ?_
      refine L_move rfl rfl ?_
      refine L_len rfl Try.underlying95 rfl ?_
      refine L_move rfl rfl ?_
      refine RL_then ?_
      refine W_block ?_
      refine W_loop4 (fun (v : Value) (M : Bks) (j : Nat) (w : World) => [(0, bv k.B), (1, .float .f64 time), (2, .slice a n c), (9, .slice (some ⟨b52, 0, none⟩) n n), (12, .slice ai m ci), (13, .slice (some ⟨b70, 0, none⟩) m m), (14, .int .i64 i), (16, .pointer (some ⟨o.p, 0, none⟩)), (71, .slice ai m ci), (72, .int .i64 m), (73, .int .i64 i), (120, .slice (some ⟨b52, 0, none⟩) n n), (121, .int .i64 n), (122, .int .i64 j)]) (fun (v : Value) (M : Bks) (j : Nat) (w : World) => w) (fun (v : Value) (M : Bks) (j : Nat) (w : World) => (j ≤ n) ∧ (Bl w0 2 1 v j (il (costRow k.r (ps.take j) o1)) M) ∧ (HS w0 w ((b70, Row 69 (rvs rr ++ v :: List.replicate q (.slice none 0 0))) :: (M ++ V1)))) (fun (v : Value) (M : Bks) (j : Nat) (w : World) => n - j) ((.slice none 0 0)) ([]) (0) (_) (is := [0, 1, 2, 9, 12, 13, 14, 16, 71, 72, 73, 120, 121, 122]) rfl rfl ?_ ?_
      ·
       exact ⟨Nat.zero_le _, .nil, hs⟩
      ·
       clear hs
       intro v M j w hI
       show W _ _ _ _ [(0, bv k.B), (1, .float .f64 time), (2, .slice a n c), (9, .slice (some ⟨b52, 0, none⟩) n n), (12, .slice ai m ci), (13, .slice (some ⟨b70, 0, none⟩) m m), (14, .int .i64 i), (16, .pointer (some ⟨o.p, 0, none⟩)), (71, .slice ai m ci), (72, .int .i64 m), (73, .int .i64 i), (120, .slice (some ⟨b52, 0, none⟩) n n), (121, .int .i64 n), (122, .int .i64 j)] w
       obtain ⟨hj, hbv, hs⟩ := hI
       by_cases hlt3 : j < n
       ·
        obtain ⟨p, hp⟩ : ∃ p, p = ps.getD j pq0 := ⟨_, rfl⟩
        have hsp : SlC w (some ⟨b52, 0, none⟩) (pqs ps) := SlC.of_row (sp := []) (by rw [List.append_nil]; exact hs.has _ (List.mem_cons_of_mem _ (List.mem_append_right _ (hZV _ hgZ))))
        refine W_seq ?_
        refine W_region ?_
        first | refine L_lss rfl rfl rfl (dtrue (by omega)) ?_ | refine L_lss rfl rfl rfl (dfalse (by omega)) ?_ | refine L_lss rfl rfl rfl rfl ?_
        refine RL_then ?_
        refine W_seq ?_
        refine W_if_true rfl ?_
        refine W_skip' ?_
        refine Nx_then ?_
        refine W_seq ?_
        refine W_block ?_
        refine W_seq ?_
        refine W_region ?_
        refine L_idxN rfl Try.underlying95 Try.ti97 rfl rfl (by with_reducible first | exact natc_k _ | exact natc_a1 _ | exact natc_0 | exact natc_1 | exact natc_2 | exact natc_s1 _ (by omega) | exact natc_a2 _ | exact natc_add _ _ | exact natc_mul _ _ | exact natc (by omega)) (by omega) rfl ?_
        refine L_loadA rfl Try.agg97 Try.ti97 rfl (by exact (hsp.sub fun _ _ hv => pqs_get (by omega) (by rw [← hp]; exact hv) : CellsAt w ((aD (some (Addr.mk b52 0 none))).add (j * 2)) p.cells)) ?_
        refine L_alloc rfl hs Try.ti97 ?_; intro b19 w hb19 _ hs; replace hs := HS.push hs
        refine L_storeA hs (i := 0) rfl Try.ti97 rfl rfl (by first | rfl | exact add_lit0 _ _ | exact Addr.add_lit .. | (rw [add_add]; exact add_lit0 _ _)) (by simp [Pq.cells]) (by simp [Pq.cells, Value.oneCell']) ?_
        intro w hs
        try dsimp only [List.set_cons_succ, List.set_cons_zero, List.cons_append, List.nil_append] at hs
        refine RL_then ?_
        replace hs : HS w0 w ((b19, Row 97 p.cells) :: (b70, Row 69 (rvs rr ++ v :: List.replicate q (.slice none 0 0))) :: (M ++ V1)) := hs
        have hVm : ∀ z ∈ V1, z ∈ (b19, Row 97 p.cells) :: (b70, Row 69 (rvs rr ++ v :: List.replicate q (.slice none 0 0))) :: (M ++ V1) := fun z hz => List.mem_cons_of_mem _ (List.mem_cons_of_mem _ (List.mem_append_right _ hz))
        refine W_sg Try.mixed ?_
        replace hs := hs.drewN 1
        refine SG_stageB [0, 1, 2, 3, 4, 6, 7, 8] [5, 9, 10, 11, 12] [13, 14, 15] (noBk (SPK k.r.noise k.r.gate)) (g' := 0) (by kernel_rfl) (by kernel_rfl) (fun _ _ _ _ _ h => h) hs ?_
        refine PL_val rfl (fun w => R_move rfl) ?_
        refine PL_val rfl (fun w => R_move rfl) ?_
        refine PL_val rfl (fun w => R_move rfl) ?_
        refine PL_val rfl (fun w => R_move rfl) ?_
        refine PL_val rfl (fun w => R_idx1 Try.underlying67 Try.ti69 rfl rfl (by with_reducible first | exact natc_k _ | exact natc_a1 _ | exact natc_0 | exact natc_1 | exact natc_2 | exact natc_s1 _ (by omega) | exact natc_a2 _ | exact natc_add _ _ | exact natc_mul _ _ | exact natc (by omega)) (by omega) rfl) ?_
        refine PL_val rfl (fun w => R_move rfl) ?_
        refine PL_val rfl (fun w => R_move rfl) ?_
        refine PL_val rfl (fun w => R_nilCheck rfl) ?_
        refine PL_endB ?_
        refine HB_val rfl (fun w R hR hs => R_load Try.one69 rfl (by exact cellAM hs (List.mem_append_left _ (List.mem_cons_of_mem _ (List.mem_cons_self ..))) (get_mid _ _ v i hrvl))) ?_
        refine HB_val rfl (fun w R hR hs => R_loadA Try.agg49 Try.ti49 rfl (by exact cellsAt_lit (j := 0) (n := 15) (cs := o1.t.cells) (hs.has _ (List.mem_append_left _ (hVm _ hrowV))) rfl)) ?_
        refine HB_val rfl (fun w R hR hs => R_loadA Try.agg97 Try.ti97 rfl (by exact cellsAt_whole (cs := p.cells) (hs.get (i := 0) rfl))) ?_
        refine HB_callH rfl Try.fun42 rfl (fun w R hR hs => costH hs k.B k.r.noise k.r.gate k2.cells o1.t p hk.rul.gate (List.mem_append_left _ (hVm _ (hZV _ hBZ))) hc0 hc2) ?_
        rintro _ hd
        obtain rfl := hd _ _ rfl rfl
        obtain ⟨ct, hct⟩ : ∃ ct, ct = costT k.r.noise k.r.gate o1.t.x o1.t.y p.x p.y := ⟨_, rfl⟩
        rw [← hct]
        refine HB_buildSlice1 rfl Try.underlying69 Try.ti2 rfl (by decide) rfl rfl ?_
        intro b138 hb138
        refine HB_tail ?_
        intro w hs
        have h0 : HS w0 w (((b19, Row 97 p.cells) :: (b70, Row 69 (rvs rr ++ v :: List.replicate q (.slice none 0 0))) :: (M ++ V1)) ++ [(b138, Row 2 [.int .i64 ct])]) := hs
        clear hs
        have hs : HS w0 w ((((b19, Row 97 p.cells) :: (b70, Row 69 (rvs rr ++ v :: List.replicate q (.slice none 0 0))) :: V1) ++ M) ++ [(b138, Row 2 [.int .i64 ct])]) := HS.re h0 (fun c => by simp only [List.map_append, List.map_cons, List.map_nil, List.sum_append, List.sum_cons, List.sum_nil]; omega)
        clear h0
        refine L_appendT (L := (b19, Row 97 p.cells) :: (b70, Row 69 (rvs rr ++ v :: List.replicate q (.slice none 0 0))) :: V1) rfl Try.underlying69 Try.ti2 rfl hs hb138 hbv rfl rfl rfl (by simp [Value.oneCell']) (by omega) (by omega) ?_
        intro v' w M' hs hb'
        obtain ⟨a', c', rfl, hc'⟩ := hb'.slice
        refine L_idx1 rfl Try.underlying67 Try.ti69 rfl rfl (by with_reducible first | exact natc_k _ | exact natc_a1 _ | exact natc_0 | exact natc_1 | exact natc_2 | exact natc_s1 _ (by omega) | exact natc_a2 _ | exact natc_add _ _ | exact natc_mul _ _ | exact natc (by omega)) (by omega) rfl ?_
        refine L_store hs (i := 1) rfl Try.ti69 rfl rfl (by first | rfl | exact add_lit0 _ _ | exact Addr.add_lit .. | (rw [add_add]; exact add_lit0 _ _)) (by simp only [List.length_append, List.length_cons, hrvl]; omega) rfl ?_
        intro w hs
        try dsimp only [List.set_cons_succ, List.set_cons_zero, List.cons_append, List.nil_append] at hs
        refine RL_sg ?_
        refine SG_end (by kernel_rfl) ?_
        refine Nx_block ?_
        refine Nx_then ?_
        refine W_region ?_
        first | refine L_add rfl rfl rfl (wrp_i64 (by omega)) ?_ | refine L_add rfl rfl rfl rfl ?_
        refine L_move rfl rfl ?_
        refine RL_nil' ?_
        refine Nx_loopP (.slice a' (j + 1) c', M', j + 1, _) (is := [0, 1, 2, 9, 12, 13, 14, 16, 71, 72, 73, 120, 121, 122]) (I' := (fun (v : Value) (M : Bks) (j : Nat) (w : World) => (j ≤ n) ∧ (Bl w0 2 1 v j (il (costRow k.r (ps.take j) o1)) M) ∧ (HS w0 w ((b70, Row 69 (rvs rr ++ v :: List.replicate q (.slice none 0 0))) :: (M ++ V1)))) (.slice a' (j + 1) c') (M') (j + 1) (_)) rfl rfl rfl ?_ ?_
        ·
         refine ⟨by omega, ?_, ?_⟩
         ·
          have e : costRow k.r (ps.take (j + 1)) o1 = costRow k.r (ps.take j) o1 ++ [ct] := by
           unfold costRow
           rw [take_snoc (j := j) (x := p) (by rw [hp, List.getElem?_eq_getElem (by omega), List.getD_eq_getElem?_getD, List.getElem?_eq_getElem (by omega)]; rfl), List.map_append, hct]; rfl
          rw [e, ← il_snoc]
          exact hb'
         ·
          have h1 := HS.pop hs hb19
          rw [set_mid' _ _ _ _ i hrvl] at h1
          have h2 : HS w0 w ((b70, Row 69 (rvs rr ++ Value.slice a' (j + 1) c' :: List.replicate q (.slice none 0 0))) :: (M' ++ V1)) := HS.re h1 (fun c => by simp only [List.map_append, List.map_cons, List.map_nil, List.sum_append, List.sum_cons, List.sum_nil]; omega)
          exact h2
        ·
         show n - (j + 1) < n - j; omega
       ·
        obtain rfl : n = j := by omega
        have e : ps.take n = ps := by rw [← hpl2, List.take_length]
        rw [e] at hbv
        refine W_seq ?_
        refine W_region ?_
        first | refine L_lss rfl rfl rfl (dtrue (by omega)) ?_ | refine L_lss rfl rfl rfl (dfalse (by omega)) ?_ | refine L_lss rfl rfl rfl rfl ?_
        refine RL_then ?_
        refine W_seq ?_
        refine W_if_false rfl ?_
        refine W_exit' ?_
        refine Ex_then_exit ?_
        refine Ex_loop_exit ?_
        refine Ex_block_hit ?_
        refine Nx_block ?_
        refine Nx_then ?_
        refine W_region ?_
        first | refine L_add rfl rfl rfl (wrp_i64 (by omega)) ?_ | refine L_add rfl rfl rfl rfl ?_
        refine L_move rfl rfl ?_
        refine RL_nil' ?_
        refine Nx_loopP (done ++ [o1], rr ++ [⟨costRow k.r ps o1, v, M⟩], i + 1, _) (is := [0, 1, 2, 9, 12, 13, 71, 72, 73]) (I' := (fun (done : List On) (rr : List RR) (i : Nat) (w : World) => (i ≤ m) ∧ (All2 (AheadR time k.r.sway) (k2.os.take i) done) ∧ (rr.map RR.xs = costRows k.r ps done) ∧ ((∀ r ∈ rr, r.ok w0) ∧ (∀ o ∈ done, o.ok w0)) ∧ (HS w0 w ((b70, Row 69 (rvs rr ++ List.replicate (m - i) (.slice none 0 0))) :: (rbs rr ++ (obs (done ++ k2.os.drop i) ++ Z))))) (done ++ [o1]) (rr ++ [⟨costRow k.r ps o1, v, M⟩]) (i + 1) (_)) rfl rfl rfl ?_ ?_
        ·
         refine ⟨by omega, ?_, ?_, ⟨fun r hr => ?_, fun u hu => ?_⟩, ?_⟩
         ·
          rw [take_snoc (j := i) (x := o) (by rw [hoe, List.getElem?_eq_getElem (by omega), List.getD_eq_getElem?_getD, List.getElem?_eq_getElem (by omega)]; rfl)]
          have et : cn r91 = cn (fop .sub time o.t.last) := (Fs.cn hr91).trans (cn_fop ..).symm
          exact hah.snoc ⟨ux, uy, hux.trans (aheadF_congr rfl et), huy.trans (aheadF_congr rfl et), ho1⟩
         ·
          rw [List.map_append, hrx]; unfold costRows; rw [List.map_append]; rfl
         ·
          rcases List.mem_append.1 hr with hr | hr
          ·
           exact hro r hr
          ·
           rw [List.mem_singleton.1 hr]
           show Bl w0 2 1 v (costRow k.r ps o1).length (il (costRow k.r ps o1)) M
           rw [show (costRow k.r ps o1).length = n by unfold costRow; rw [List.length_map, hpl2]]
           exact hbv
         ·
          rcases List.mem_append.1 hu with hu | hu
          ·
           exact hdo u hu
          ·
           rw [List.mem_singleton.1 hu, ho1]
           exact ⟨hok.p, hok.bx, hok.by', hok.seen⟩
         ·
          have e1 : rvs (rr ++ [⟨costRow k.r ps o1, v, M⟩]) ++ List.replicate (m - (i + 1)) (Value.slice none 0 0) = rvs rr ++ v :: List.replicate q (Value.slice none 0 0) := by
           rw [show m - (i + 1) = q by omega]; unfold rvs; rw [List.map_append, List.append_assoc]; rfl
          have e2 : rbs (rr ++ [⟨costRow k.r ps o1, v, M⟩]) = rbs rr ++ M := by unfold rbs; rw [List.flatMap_append]; simp
          have e3 : obs ((done ++ [o1]) ++ k2.os.drop (i + 1)) = obs done ++ (((o1.p, Row 93 (oRow o1 o1.t)) :: (o.Mx ++ o.My)) ++ obs (k2.os.drop (i + 1))) := by
           rw [obs_app, obs_app, List.append_assoc]
           have e4 : obs [o1] = (o1.p, Row 93 (oRow o1 o1.t)) :: (o.Mx ++ o.My) := by unfold obs; rw [List.flatMap_cons, List.flatMap_nil, List.append_nil, ho1]; rfl
           rw [e4]
          rw [e1, e2, e3]
          rw [hV1, hX, obs_app] at hs
          exact HS.re hs (fun c => by simp only [List.map_append, List.map_cons, List.map_nil, List.sum_append, List.sum_cons, List.sum_nil]; omega)
        ·
         show m - (i + 1) < m - i; omega
     ·
      obtain rfl : m = i := by omega
      have hm2 : m = k2.os.length := hm
      rw [show k2.os.take m = k2.os by rw [hm2, List.take_length]] at hah
      rw [show done ++ k2.os.drop m = done by rw [hm2, List.drop_length, List.append_nil], Nat.sub_self, List.replicate_zero, List.append_nil] at hs
      have hdl : done.length = m := by rw [hah.len, hm2]
      have hrl : rr.length = m := by have := congrArg List.length hrx; rw [List.length_map, costRows_len] at this; omega
      have hdA : ∀ j, j < m → AheadR time k.r.sway (k2.os.getD j on0) (done.getD j on0) := fun j hj => hah.at (by omega)
      refine W_seq ?_
      refine W_region ?_
      first | refine L_lss rfl rfl rfl (dtrue (by omega)) ?_ | refine L_lss rfl rfl rfl (dfalse (by omega)) ?_ | refine L_lss rfl rfl rfl rfl ?_
      refine RL_then ?_
      refine W_seq ?_
      refine W_if_false rfl ?_
      refine W_exit' ?_
      refine Ex_then_exit ?_
      refine Ex_loop_exit ?_
      refine Ex_block_hit ?_
      refine Nx_then ?_
      refine W_seq ?_
      refine W_region ?_
      refine L_move rfl rfl ?_
      have hrI : RowsI w (some ⟨b70, 0, none⟩) (rr.map RR.xs) (rvs rr) :=
       rowsI_sl (n := n) hs (SlC.of_row (sp := []) (by rw [List.append_nil]; exact hs.get (i := 0) rfl)) hro (fun p hp => List.mem_cons_of_mem _ (List.mem_append_left _ hp)) (fun r hr => by
        have h1 : r.xs ∈ costRows k.r ps done := by rw [← hrx]; exact List.mem_map.2 ⟨r, hr, rfl⟩
        have h2 := costRows_get _ h1
        omega) (by omega)
      rw [hrx] at hrI
      refine L_call rfl Try.fun27 rfl (most_ok (some ⟨b70, 0, none⟩) m m (costRows k.r ps done) (rvs rr) w hrI (by rw [costRows_len, hdl]) (by omega)) ?_
      rintro _ w1 ⟨vm, Nm, ms, cnt, tt, e0, rfl, hs', hbm, hans⟩
      obtain ⟨rfl, hml, hmr⟩ := most_len hk.rul.gate (by omega) (by omega) hans
      have hs1 := hs.call hs' hbm.own
      replace hbm := hbm.mono hs.size
      clear hs hs' hrI
      obtain ⟨Z3, hZ3⟩ : ∃ Z3, Z3 = Z ++ Nm := ⟨_, rfl⟩
      have hs : HS w0 w1 (obs done ++ Z3) := by
       have h1 : HS w0 w1 (((b70, Row 69 (rvs rr)) :: rbs rr) ++ (obs done ++ Z3)) := by rw [hZ3]; exact HS.re hs1 (fun c => by simp only [List.map_append, List.map_cons, List.map_nil, List.sum_append, List.sum_cons, List.sum_nil]; omega)
       exact HS.dropL h1 (Own.cons hb70 (rbs_own hro))
      clear hs1
      have hZ33 : ∀ p ∈ Z, p ∈ Z3 := fun p hp => by rw [hZ3]; exact List.mem_append_left _ hp
      have hNZ3 : ∀ p ∈ Nm, p ∈ Z3 := fun p hp => by rw [hZ3]; exact List.mem_append_right _ hp
      have hZ3o : Own w0 Z3 := by rw [hZ3]; exact hZo.app hbm.own
      rw [hml, hdl] at hbm
      rw [hdl] at hml
      obtain ⟨am, cm, rfl, hcm⟩ := hbm.slice
      clear hrx hro hrl
      refine L_move rfl rfl ?_
      refine L_extract rfl rfl rfl ?_
      refine L_extract rfl rfl rfl ?_
      refine L_extract rfl rfl rfl ?_
      refine L_extract rfl rfl rfl ?_
      refine L_assign rfl rfl ?_
      refine L_assign rfl rfl ?_
      refine L_assign rfl rfl ?_
      refine L_assign rfl rfl ?_
      refine RL_then ?_
      refine W_seq ?_
      refine W_region ?_
      refine L_move rfl rfl ?_
      refine L_len rfl Try.underlying36 rfl ?_
      refine L_make1 rfl hs Try.underlying31 Try.ti3 rfl rfl rfl rfl (Nat.le_refl _) (by omega) (by omega) rfl ?_
      intro b152 w hb152 _ hs
      rw [il_rep] at hs
      replace hs := HS.push hs
      refine L_assign rfl rfl ?_
      refine RL_then ?_
      refine W_seq ?_
      refine W_seq ?_
      refine W_region ?_
      refine L_move rfl rfl ?_
      refine L_len rfl Try.underlying31 rfl ?_
      refine L_move rfl rfl ?_
      refine RL_then ?_
      refine W_block ?_
      refine W_loop4 (fun (hit : List On) (told : List Int) (i : Nat) (w : World) => [(0, bv k.B), (1, .float .f64 time), (6, .slice (some ⟨b152, 0, none⟩) n n), (9, .slice (some ⟨b52, 0, none⟩) n n), (20, .slice am m cm), (153, .slice ai m ci), (154, .int .i64 m), (155, .int .i64 i)]) (fun (hit : List On) (told : List Int) (i : Nat) (w : World) => w) (fun (hit : List On) (told : List Int) (i : Nat) (w : World) => (i ≤ m) ∧ (All2 (HitR k.r time ps) ((done.zip ms).take i) hit) ∧ (told = ((done.zip ms).take i).foldl hitT (List.replicate n 0)) ∧ (∀ o ∈ hit, o.ok w0) ∧ (HS w0 w ((b152, Row 3 (il told)) :: (obs (hit ++ done.drop i) ++ Z3)))) (fun (hit : List On) (told : List Int) (i : Nat) (w : World) => m - i) ([]) ((List.replicate n 0)) (0) (_) (is := [0, 1, 6, 9, 20, 153, 154, 155]) rfl rfl ?_ ?_
      ·
       exact ⟨Nat.zero_le _, .nil, rfl, fun o ho => (by cases ho), hs⟩
      ·
       clear hs
       intro hit told i w hI
       show W _ _ _ _ [(0, bv k.B), (1, .float .f64 time), (6, .slice (some ⟨b152, 0, none⟩) n n), (9, .slice (some ⟨b52, 0, none⟩) n n), (20, .slice am m cm), (153, .slice ai m ci), (154, .int .i64 m), (155, .int .i64 i)] w
       obtain ⟨hi, hhi, htl, hho, hs⟩ := hI
       by_cases hlt2 : i < m
       ·
        have ho : done.getD i on0 ∈ done := getD_mem (by omega)
        obtain ⟨o, hoe⟩ : ∃ o, o = done.getD i on0 := ⟨_, rfl⟩
        have hA := hdA i hlt2
        rw [← hoe] at ho hA
        have hok := hdo o ho
        obtain ⟨ux, uy, _, _, hoA⟩ := hA
        have hb0 : k2.os.getD i on0 ∈ k2.os := getD_mem (by omega)
        have hidE : o.t.id = (k2.os.getD i on0).t.id := by rw [hoA]
        have hpE : o.p = (k2.os.getD i on0).p := by rw [hoA]
        have hxE : o.xs = (k2.os.getD i on0).xs := by rw [hoA]
        have hyE : o.ys = (k2.os.getD i on0).ys := by rw [hoA]
        have hsE : o.t.steps = (k2.os.getD i on0).t.steps := by rw [hoA]
        clear hoA
        have hhist := hk2o.hist _ hb0
        rw [← hxE, ← hyE, ← hsE] at hhist
        have hid : (k2.os.map fun o => o.t.id)[i]? = some o.t.id := by rw [hidE]; exact get_of_map rfl (by omega)
        have hdr : done.drop i = o :: done.drop (i + 1) := by
         rw [hoe, List.getD_eq_getElem?_getD, List.getElem?_eq_getElem (by omega), Option.getD_some, List.getElem_cons_drop]
        have hhl := hhi.len
        rw [List.length_take, List.length_zip, Nat.min_eq_left (by omega)] at hhl
        have htlen : told.length = n := by rw [htl, hitsT_len, List.length_replicate]
        rw [hdr, obs_app] at hs
        obtain ⟨X, hX⟩ : ∃ X, X = o.Mx ++ (o.My ++ (obs (hit ++ done.drop (i + 1)) ++ Z3)) := ⟨_, rfl⟩
        have hXZ : ∀ p ∈ Z3, p ∈ X := fun p hp => by rw [hX]; exact List.mem_append_right _ (List.mem_append_right _ (List.mem_append_right _ hp))
        have hs1 : HS w0 w ((o.p, Row 93 (oRow o o.t)) :: (b152, Row 3 (il told)) :: X) := by
         have h0 : HS w0 w ((b152, Row 3 (il told)) :: ((obs hit ++ (((o.p, Row 93 (oRow o o.t)) :: (o.Mx ++ o.My)) ++ obs (done.drop (i + 1)))) ++ Z3)) := hs
         rw [hX, obs_app]
         exact HS.re h0 (fun c => by simp only [List.map_append, List.map_cons, List.map_nil, List.sum_append, List.sum_cons, List.sum_nil]; omega)
        clear hs
        have hs := hs1
        clear hs1
        have hmem : ∀ {v1 v2 : Nat × Obj}, ∀ p ∈ Z3, p ∈ v1 :: v2 :: X := fun p hp => List.mem_cons_of_mem _ (List.mem_cons_of_mem _ (hXZ _ hp))
        have hsi : SlC w ai (il (k2.os.map fun o => o.t.id)) := Bl.slcM hbi hs (fun p hp => hmem _ (hZ33 _ (hiZ p hp)))
        have hai := hsi.ao (by rw [il_length, List.length_map]; omega)
        have hcell : w.cell? ((aD ai).add i) = some (.int .i64 o.t.id) := hsi.2 i _ (by unfold il; rw [List.getElem?_map, hid]; rfl)
        have hgo : mget o.t.id k2.ents = some o.p := by rw [hidE, hpE]; exact Bok.get hk2o hb0
        refine W_seq ?_
        refine W_region ?_
        first | refine L_lss rfl rfl rfl (dtrue (by omega)) ?_ | refine L_lss rfl rfl rfl (dfalse (by omega)) ?_ | refine L_lss rfl rfl rfl rfl ?_
        refine RL_then ?_
        refine W_seq ?_
        refine W_if_true rfl ?_
        refine W_skip' ?_
        refine Nx_then ?_
        refine W_seq ?_
        refine W_block ?_
        refine W_seq ?_
        refine W_region ?_
        refine L_move rfl rfl ?_
        refine L_idx1 rfl Try.underlying31 Try.ti3 rfl rfl (by with_reducible first | exact natc_k _ | exact natc_a1 _ | exact natc_0 | exact natc_1 | exact natc_2 | exact natc_s1 _ (by omega) | exact natc_a2 _ | exact natc_add _ _ | exact natc_mul _ _ | exact natc (by omega)) (by omega) hai ?_
        refine L_load rfl Try.one3 rfl (by exact hcell) ?_
        refine L_assign rfl rfl ?_
        refine L_assign rfl rfl ?_
        refine RL_then ?_
        refine W_seq ?_
        refine W_region ?_
        refine L_move rfl rfl ?_
        refine L_nilCheck rfl rfl ?_
        refine L_fieldAddr rfl (off := 6) Try.underlying88 rfl rfl Try.ti85 rfl ?_
        refine L_load rfl Try.one85 rfl (by exact cellAM hs (hmem _ (hZ33 _ hBZ)) (j := 6) hc6) ?_
        refine L_move rfl rfl ?_
        refine L_look1 (k := o.t.id) (ev := pv) (z := .pointer none) rfl K3 Try.underlying85 Try.ti91 (hs.has _ (hmem _ (hZ33 _ hmZ))) rfl rfl ?_; rw [hgo]
        refine L_assign rfl rfl ?_
        refine RL_then ?_
        refine W_seq ?_
        refine W_set 26 (v' := .pointer (some ⟨o.p, 0, none⟩)) rfl (rfl) ?_
        refine W_region ?_
        refine L_move rfl rfl ?_
        refine L_nilCheck rfl rfl ?_
        refine L_fieldAddr rfl (off := 0) Try.underlying93 rfl rfl Try.ti49 rfl ?_
        refine L_fieldAddr rfl (off := 12) Try.underlying49 rfl rfl Try.ti47 rfl ?_
        refine L_load rfl Try.one47 rfl (by exact hs.cellA (i := 0) (j := 12) rfl rfl) ?_
        refine RL_val rfl (R_shl rfl rfl (by omega) (shl16_ok _ hok.seen)) ?_
        refine L_nilCheck rfl rfl ?_
        refine L_fieldAddr rfl (off := 0) Try.underlying93 rfl rfl Try.ti49 rfl ?_
        refine L_fieldAddr rfl (off := 12) Try.underlying49 rfl rfl Try.ti47 rfl ?_
        refine L_store hs (i := 0) rfl Try.ti47 rfl rfl (by first | rfl | exact add_lit0 _ _ | exact Addr.add_lit .. | (rw [add_add]; exact add_lit0 _ _)) (by exact (by decide : (12 : Nat) < 17)) rfl ?_
        intro w hs
        try dsimp only [List.set_cons_succ, List.set_cons_zero, List.cons_append, List.nil_append] at hs
        refine RL_then ?_
        refine W_seq ?_
        refine W_seq ?_
        obtain ⟨t0, ht0⟩ : ∃ t0 : Trk, t0 = { o.t with seen := shl16 o.t.seen } := ⟨_, rfl⟩
        have hs1 : HS w0 w ((o.p, Row 93 (oRow o t0)) :: (b152, Row 3 (il told)) :: X) := by rw [ht0]; exact hs
        clear hs
        have hs := hs1
        clear hs1 hsi hcell
        have ht0x : t0.x = o.t.x := by rw [ht0]
        have ht0y : t0.y = o.t.y := by rw [ht0]
        have ht0s : t0.seen < 65536 := by rw [ht0]; exact shl16_lt _
        have ht0i : t0.id = o.t.id := by rw [ht0]
        have ht0p : t0.steps = o.t.steps := by rw [ht0]
        obtain ⟨mi, hmi⟩ : ∃ mi, mi = ms.getD i 0 := ⟨_, rfl⟩
        have hmi1 : ms[i]? = some mi := by rw [hmi, List.getD_eq_getElem?_getD, List.getElem?_eq_getElem (by omega)]; rfl
        have hmiR := hmr mi (List.mem_of_getElem? hmi1)
        rw [hpl2] at hmiR
        have hsm : SlC w am (il ms) := Bl.slcM hbm hs (fun p hp => hmem _ (hNZ3 p hp))
        have ham := hsm.ao (by rw [il_length]; omega)
        refine W_region ?_
        refine L_move rfl rfl ?_
        refine L_move rfl rfl ?_
        refine L_idx1 rfl Try.underlying31 Try.ti3 rfl rfl (by with_reducible first | exact natc_k _ | exact natc_a1 _ | exact natc_0 | exact natc_1 | exact natc_2 | exact natc_s1 _ (by omega) | exact natc_a2 _ | exact natc_add _ _ | exact natc_mul _ _ | exact natc (by omega)) (by omega) ham ?_
        refine L_load rfl Try.one3 rfl (by exact (hsm.2 i _ (by unfold il; rw [List.getElem?_map, hmi1]; rfl) : w.cell? ((aD am).add i) = some (.int .i64 mi))) ?_
        refine L_assign rfl rfl ?_
        refine RL_then ?_
        refine W_seq ?_
        refine W_region ?_
        refine L_move rfl rfl ?_
        first | refine L_geq rfl rfl rfl (dtrue (by omega)) ?_ | refine L_geq rfl rfl rfl (dfalse (by omega)) ?_ | refine L_geq rfl rfl rfl rfl ?_
        refine RL_then ?_
        refine W_cut3 (fun (t1 : Trk) (told' : List Int) (w : World) => [(0, bv k.B), (1, .float .f64 time), (6, .slice (some ⟨b152, 0, none⟩) n n), (9, .slice (some ⟨b52, 0, none⟩) n n), (20, .slice am m cm), (26, .pointer (some ⟨o.p, 0, none⟩)), (153, .slice ai m ci), (154, .int .i64 m), (155, .int .i64 i)]) (fun (t1 : Trk) (told' : List Int) (w : World) => w) (fun (t1 : Trk) (told' : List Int) (w : World) => (told' = hitT told (o, mi)) ∧ (if 0 ≤ mi then ∃ x y : Stt, x.c = (seenF o.t.x (ps.getD mi.toNat pq0).x k.r.noise).c ∧ y.c = (seenF o.t.y (ps.getD mi.toNat pq0).y k.r.noise).c ∧ t1 = { o.t with x := x, y := y, seen := or16 (shl16 o.t.seen) } else t1 = { o.t with seen := shl16 o.t.seen }) ∧ (HS w0 w ((o.p, Row 93 (oRow o t1)) :: (b152, Row 3 (il told')) :: X))) ?_ ?_
        ·
         by_cases hmp : 0 ≤ mi
         ·
          obtain ⟨z, hz⟩ : ∃ z : Nat, mi = (z : Int) := ⟨mi.toNat, by omega⟩
          have hzn : z < n := by omega
          obtain ⟨p, hp⟩ : ∃ p, p = ps.getD z pq0 := ⟨_, rfl⟩
          have hsp : SlC w (some ⟨b52, 0, none⟩) (pqs ps) := SlC.of_row (sp := []) (by rw [List.append_nil]; exact hs.has _ (hmem _ (hZ33 _ hgZ)))
          refine W_set 180 (v' := .bool true) rfl ((congrArg Value.bool (decide_eq_true hmp))) ?_
          refine W_set 27 (v' := .int .i64 (z : Int)) rfl ((by rw [hz])) ?_
          refine W_if_true rfl ?_
          refine W_seq ?_
          refine W_region ?_
          refine L_move rfl rfl ?_
          refine L_move rfl rfl ?_
          refine L_idxN rfl Try.underlying95 Try.ti97 rfl rfl (by with_reducible first | exact natc_k _ | exact natc_a1 _ | exact natc_0 | exact natc_1 | exact natc_2 | exact natc_s1 _ (by omega) | exact natc_a2 _ | exact natc_add _ _ | exact natc_mul _ _ | exact natc (by omega)) (by omega) rfl ?_
          refine L_loadA rfl Try.agg97 Try.ti97 rfl (by exact (hsp.sub fun _ _ hv => pqs_get (by omega) (by rw [← hp]; exact hv) : CellsAt w ((aD (some (Addr.mk b52 0 none))).add (z * 2)) p.cells)) ?_
          refine L_alloc rfl hs Try.ti97 ?_; intro b28 w hb28 _ hs; replace hs := HS.push hs
          refine L_storeA hs (i := 0) rfl Try.ti97 rfl rfl (by first | rfl | exact add_lit0 _ _ | exact Addr.add_lit .. | (rw [add_add]; exact add_lit0 _ _)) (by simp [Pq.cells]) (by simp [Pq.cells, Value.oneCell']) ?_
          intro w hs
          try dsimp only [List.set_cons_succ, List.set_cons_zero, List.cons_append, List.nil_append] at hs
          refine RL_then ?_
          refine W_seq ?_
          replace hs : HS w0 w ((b28, Row 97 p.cells) :: (o.p, Row 93 (oRow o t0)) :: (b152, Row 3 (il told)) :: X) := hs
          have hmem3 : ∀ {v1 v2 v3 : Nat × Obj}, ∀ p ∈ Z3, p ∈ v1 :: v2 :: v3 :: X := fun p hp => List.mem_cons_of_mem _ (hmem p hp)
          refine W_sg Try.mixed ?_
          replace hs := hs.drewN 1
          refine SG_stageB [0, 1, 2, 3, 4, 5, 7, 9, 10, 11, 12, 15, 16, 17, 18, 20, 22, 23, 24, 25] [6, 8, 13, 14, 19, 21, 26, 27, 28, 29, 30] [31, 32, 33, 34, 35] (noBk SPC) (g' := 0) (by kernel_rfl) (by kernel_rfl) (fun _ _ _ _ _ h => h) hs ?_
          refine PL_val rfl (fun w => R_move rfl) ?_
          refine PL_val rfl (fun w => R_move rfl) ?_
          refine PL_val rfl (fun w => R_move rfl) ?_
          refine PL_val rfl (fun w => R_nilCheck rfl) ?_
          refine PL_val rfl (fun w => R_fieldAddr (off := 0) Try.underlying93 rfl rfl Try.ti49 rfl) ?_
          refine PL_val rfl (fun w => R_fieldAddr (off := 2) Try.underlying49 rfl rfl Try.ti46 rfl) ?_
          refine PL_val rfl (fun w => R_fieldAddr (off := 0) Try.underlying97 rfl rfl Try.ti23 rfl) ?_
          refine PL_val rfl (fun w => R_move rfl) ?_
          refine PL_val rfl (fun w => R_nilCheck rfl) ?_
          refine PL_val rfl (fun w => R_fieldAddr (off := 0) Try.underlying88 rfl rfl Try.ti25 rfl) ?_
          refine PL_val rfl (fun w => R_fieldAddr (off := 0) Try.underlying25 rfl rfl Try.ti23 rfl) ?_
          refine PL_val rfl (fun w => R_move rfl) ?_
          refine PL_val rfl (fun w => R_nilCheck rfl) ?_
          refine PL_val rfl (fun w => R_fieldAddr (off := 0) Try.underlying93 rfl rfl Try.ti49 rfl) ?_
          refine PL_val rfl (fun w => R_fieldAddr (off := 7) Try.underlying49 rfl rfl Try.ti46 rfl) ?_
          refine PL_val rfl (fun w => R_fieldAddr (off := 1) Try.underlying97 rfl rfl Try.ti23 rfl) ?_
          refine PL_val rfl (fun w => R_move rfl) ?_
          refine PL_val rfl (fun w => R_nilCheck rfl) ?_
          refine PL_val rfl (fun w => R_fieldAddr (off := 0) Try.underlying88 rfl rfl Try.ti25 rfl) ?_
          refine PL_val rfl (fun w => R_fieldAddr (off := 0) Try.underlying25 rfl rfl Try.ti23 rfl) ?_
          refine PL_endB ?_
          refine HB_val rfl (fun w R hR hs => R_loadA Try.agg46 Try.ti46 rfl (by (rw [add_add]; exact cellsAt_part (n := 5) (cs := t0.x.cells) (hs.get (i := 1) rfl) rfl))) ?_
          refine HB_val rfl (fun w R hR hs => R_load Try.one23 rfl (by exact hs.cellA (i := 0) (j := 0) rfl rfl)) ?_
          refine HB_val rfl (fun w R hR hs => R_load Try.one23 rfl (by exact cellAM hs (List.mem_append_left _ (hmem3 _ (hZ33 _ hBZ))) (j := 0) hc0)) ?_
          refine HB_callH rfl Try.fun43 rfl (fun w R hR hs => seenH' hs t0.x p.x k.r.noise) ?_
          rintro _ hd
          obtain ⟨sx, rfl, hsx⟩ := hd _ rfl
          refine HB_val rfl (fun w R hR hs => R_loadA Try.agg46 Try.ti46 rfl (by (rw [add_add]; exact cellsAt_part (n := 5) (cs := t0.y.cells) (hs.get (i := 1) rfl) rfl))) ?_
          refine HB_val rfl (fun w R hR hs => R_load Try.one23 rfl (by exact hs.cellA (i := 0) (j := 1) rfl rfl)) ?_
          refine HB_val rfl (fun w R hR hs => R_load Try.one23 rfl (by exact cellAM hs (List.mem_append_left _ (hmem3 _ (hZ33 _ hBZ))) (j := 0) hc0)) ?_
          refine HB_callH rfl Try.fun43 rfl (fun w R hR hs => seenH' hs t0.y p.y k.r.noise) ?_
          rintro _ hd
          obtain ⟨sy, rfl, hsy⟩ := hd _ rfl
          refine HB_val rfl (fun w R hR hs => R_nilCheck rfl) ?_
          refine HB_val rfl (fun w R hR hs => R_fieldAddr (off := 0) Try.underlying93 rfl rfl Try.ti49 rfl) ?_
          refine HB_val rfl (fun w R hR hs => R_fieldAddr (off := 2) Try.underlying49 rfl rfl Try.ti46 rfl) ?_
          refine HB_tail ?_
          intro w hs
          refine L_storeA hs (i := 1) rfl Try.ti46 rfl rfl (by first | rfl | exact add_lit0 _ _ | exact Addr.add_lit .. | (rw [add_add]; exact add_lit0 _ _)) (by first | exact (by decide : (7 : Nat) ≤ 17) | exact (by decide : (12 : Nat) ≤ 17)) (by simp [Stt.cells, Value.oneCell']) ?_
          intro w hs
          try dsimp only [List.set_cons_succ, List.set_cons_zero, List.cons_append, List.nil_append] at hs
          refine L_nilCheck rfl rfl ?_
          refine L_fieldAddr rfl (off := 0) Try.underlying93 rfl rfl Try.ti49 rfl ?_
          refine L_fieldAddr rfl (off := 7) Try.underlying49 rfl rfl Try.ti46 rfl ?_
          refine L_storeA hs (i := 1) rfl Try.ti46 rfl rfl (by first | rfl | exact add_lit0 _ _ | exact Addr.add_lit .. | (rw [add_add]; exact add_lit0 _ _)) (by first | exact (by decide : (7 : Nat) ≤ 17) | exact (by decide : (12 : Nat) ≤ 17)) (by simp [Stt.cells, Value.oneCell']) ?_
          intro w hs
          try dsimp only [List.set_cons_succ, List.set_cons_zero, List.cons_append, List.nil_append] at hs
          refine RL_sg ?_
          refine SG_end (by kernel_rfl) ?_
          refine Nx_then ?_
          refine W_seq ?_
          obtain ⟨t2, ht2⟩ : ∃ t2 : Trk, t2 = { t0 with x := sx, y := sy } := ⟨_, rfl⟩
          have hs1 : HS w0 w ((b28, Row 97 p.cells) :: (o.p, Row 93 (oRow o t2)) :: (b152, Row 3 (il told)) :: X) := by
           rw [List.append_nil] at hs
           rw [ht2]; exact hs
          clear hs
          have hs := hs1
          clear hs1
          have ht2s : t2.seen = t0.seen := by rw [ht2]
          refine W_region ?_
          refine L_move rfl rfl ?_
          refine L_nilCheck rfl rfl ?_
          refine L_fieldAddr rfl (off := 0) Try.underlying93 rfl rfl Try.ti49 rfl ?_
          refine L_fieldAddr rfl (off := 12) Try.underlying49 rfl rfl Try.ti47 rfl ?_
          refine L_load rfl Try.one47 rfl (by exact hs.cellA (i := 1) (j := 12) rfl rfl) ?_
          refine RL_val rfl (R_ibits (by simp) rfl rfl (show bits .or .u16 (t2.seen : Int) 1 = ((or16 t2.seen : Nat) : Int) from u16_or_nat _ 1 (by omega) (by decide))) ?_
          refine L_nilCheck rfl rfl ?_
          refine L_fieldAddr rfl (off := 0) Try.underlying93 rfl rfl Try.ti49 rfl ?_
          refine L_fieldAddr rfl (off := 12) Try.underlying49 rfl rfl Try.ti47 rfl ?_
          refine L_store hs (i := 1) rfl Try.ti47 rfl rfl (by first | rfl | exact add_lit0 _ _ | exact Addr.add_lit .. | (rw [add_add]; exact add_lit0 _ _)) (by exact (by decide : (12 : Nat) < 17)) rfl ?_
          intro w hs
          try dsimp only [List.set_cons_succ, List.set_cons_zero, List.cons_append, List.nil_append] at hs
          refine RL_then ?_
          refine W_region ?_
          refine L_move rfl rfl ?_
          refine L_move rfl rfl ?_
          refine L_move rfl rfl ?_
          refine L_idx1 rfl Try.underlying31 Try.ti3 rfl rfl (by with_reducible first | exact natc_k _ | exact natc_a1 _ | exact natc_0 | exact natc_1 | exact natc_2 | exact natc_s1 _ (by omega) | exact natc_a2 _ | exact natc_add _ _ | exact natc_mul _ _ | exact natc (by omega)) (by omega) rfl ?_
          refine L_store hs (i := 2) rfl Try.ti3 rfl rfl (by first | rfl | exact add_lit0 _ _ | exact Addr.add_lit .. | (rw [add_add]; exact add_lit0 _ _)) (by rw [il_length]; omega) rfl ?_
          intro w hs
          try dsimp only [List.set_cons_succ, List.set_cons_zero, List.cons_append, List.nil_append] at hs
          refine RL_nil' ?_
          refine Nx_cutP ({ t2 with seen := or16 t2.seen }, told.set z o.t.id, _) (is := [0, 1, 6, 9, 20, 26, 153, 154, 155]) (I' := (fun (t1 : Trk) (told' : List Int) (w : World) => (told' = hitT told (o, mi)) ∧ (if 0 ≤ mi then ∃ x y : Stt, x.c = (seenF o.t.x (ps.getD mi.toNat pq0).x k.r.noise).c ∧ y.c = (seenF o.t.y (ps.getD mi.toNat pq0).y k.r.noise).c ∧ t1 = { o.t with x := x, y := y, seen := or16 (shl16 o.t.seen) } else t1 = { o.t with seen := shl16 o.t.seen }) ∧ (HS w0 w ((o.p, Row 93 (oRow o t1)) :: (b152, Row 3 (il told')) :: X))) ({ t2 with seen := or16 t2.seen }) (told.set z o.t.id) (_)) rfl rfl rfl ?_
          refine ⟨?_, ?_, ?_⟩
          ·
           unfold hitT; rw [if_pos hmp, hz]; rfl
          ·
           rw [if_pos hmp]
           have hzt : mi.toNat = z := by rw [hz]; rfl
           rw [hzt, ← hp]
           refine ⟨sx, sy, by rw [ht0x] at hsx; exact hsx, by rw [ht0y] at hsy; exact hsy, ?_⟩
           rw [ht2, ht0]
          ·
           have h1 := HS.pop hs hb28
           rw [← il_set]
           exact h1
         ·
          refine W_set 180 (v' := .bool false) rfl ((congrArg Value.bool (decide_eq_false hmp))) ?_
          refine W_if_false rfl ?_
          refine W_skip' ?_
          refine Nx_cutP (t0, told, _) (is := [0, 1, 6, 9, 20, 26, 153, 154, 155]) (I' := (fun (t1 : Trk) (told' : List Int) (w : World) => (told' = hitT told (o, mi)) ∧ (if 0 ≤ mi then ∃ x y : Stt, x.c = (seenF o.t.x (ps.getD mi.toNat pq0).x k.r.noise).c ∧ y.c = (seenF o.t.y (ps.getD mi.toNat pq0).y k.r.noise).c ∧ t1 = { o.t with x := x, y := y, seen := or16 (shl16 o.t.seen) } else t1 = { o.t with seen := shl16 o.t.seen }) ∧ (HS w0 w ((o.p, Row 93 (oRow o t1)) :: (b152, Row 3 (il told')) :: X))) (t0) (told) (_)) rfl rfl rfl ?_
          refine ⟨?_, ?_, hs⟩
          ·
           unfold hitT; rw [if_neg hmp]
          ·
           rw [if_neg hmp]; exact ht0
        ·
         clear hs
         intro t1 told' w hI
         show W _ _ _ _ [(0, bv k.B), (1, .float .f64 time), (6, .slice (some ⟨b152, 0, none⟩) n n), (9, .slice (some ⟨b52, 0, none⟩) n n), (20, .slice am m cm), (26, .pointer (some ⟨o.p, 0, none⟩)), (153, .slice ai m ci), (154, .int .i64 m), (155, .int .i64 i)] w
         obtain ⟨htl', ht1, hs⟩ := hI
         have hst1 : t1.steps = o.t.steps ∧ t1.seen < 65536 ∧ t1.id = o.t.id := by
          split at ht1
          ·
           obtain ⟨x, y, _, _, rfl⟩ := ht1; exact ⟨rfl, or16_lt (shl16_lt _), rfl⟩
          ·
           rw [ht1]; exact ⟨rfl, shl16_lt _, rfl⟩
         obtain ⟨o1, ho1⟩ : ∃ o1 : On, o1 = { o with t := t1 } := ⟨_, rfl⟩
         have ho1k : o1.ok w0 := by rw [ho1]; exact ⟨hok.p, hok.bx, hok.by', hst1.2.1⟩
         obtain ⟨U, hU⟩ : ∃ U, U = (b152, Row 3 (il told')) :: (obs (hit ++ done.drop (i + 1)) ++ Z3) := ⟨_, rfl⟩
         have hs1 : HS w0 w (U ++ o1.bks) := by
          have h1 : HS w0 w ((o.p, Row 93 (oRow o t1)) :: (b152, Row 3 (il told')) :: (o.Mx ++ (o.My ++ (obs (hit ++ done.drop (i + 1)) ++ Z3)))) := by rw [← hX]; exact hs
          have e : o1.bks = (o.p, Row 93 (oRow o t1)) :: (o.Mx ++ o.My) := by rw [ho1]; rfl
          rw [e, hU]
          exact HS.re h1 (fun c => by simp only [List.map_append, List.map_cons, List.map_nil, List.sum_append, List.sum_cons, List.sum_nil]; omega)
         clear hs
         have hs := hs1
         clear hs1
         have hBU : (k.B, Row 88 (k.r.cells ++ [.map (some k2.mb), .int .i64 k2.next, .float .f64 k2.last])) ∈ U := by
          have e : k2.cells = k.r.cells ++ [.map (some k2.mb), .int .i64 k2.next, .float .f64 k2.last] := by rw [hk2]
          rw [← e, hU]; exact List.mem_cons_of_mem _ (List.mem_append_right _ (hZ33 _ hBZ))
         have hUo : Own w0 U := by
          rw [hU]
          refine Own.cons hb152 (Own.app (fun p hp => ?_) hZ3o)
          obtain ⟨u, hu, hp⟩ := List.mem_flatMap.1 hp
          rcases List.mem_append.1 hu with hu | hu
          ·
           exact (hho u hu).own p hp
          ·
           exact (hdo u (List.mem_of_mem_drop hu)).own p hp
         have hNN := hI.N
         have hcall := ends_ok w0 w k.B time k.r [.map (some k2.mb), .int .i64 k2.next, .float .f64 k2.last] o1 U hs ho1k hBU hk.rul (by rw [ho1]; show 0 ≤ t1.steps ∧ t1.steps ≤ 1000000; omega) (by rw [ho1]; show o.xs.length + 1 ≤ 1024; omega) (by rw [ho1]; show o.ys.length + 1 ≤ 1024; omega) hUo
         rw [show o1.p = o.p by rw [ho1]] at hcall
         refine W_region ?_
         refine L_move rfl rfl ?_
         refine L_move rfl rfl ?_
         refine L_move rfl rfl ?_
         refine L_call rfl Try.fun44 rfl (hcall) ?_
         rintro _ w1 ⟨o2, h2p, h2c, h2t, h2x, h2y, hs1, h2k⟩
         clear hs
         have hs := hs1
         clear hs1
         refine RL_nil' ?_
         refine Nx_block ?_
         refine Nx_then ?_
         refine W_region ?_
         first | refine L_add rfl rfl rfl (wrp_i64 (by omega)) ?_ | refine L_add rfl rfl rfl rfl ?_
         refine L_move rfl rfl ?_
         refine RL_nil' ?_
         refine Nx_loopP (hit ++ [o2], told', i + 1, _) (is := [0, 1, 6, 9, 20, 153, 154, 155]) (I' := (fun (hit : List On) (told : List Int) (i : Nat) (w : World) => (i ≤ m) ∧ (All2 (HitR k.r time ps) ((done.zip ms).take i) hit) ∧ (told = ((done.zip ms).take i).foldl hitT (List.replicate n 0)) ∧ (∀ o ∈ hit, o.ok w0) ∧ (HS w0 w ((b152, Row 3 (il told)) :: (obs (hit ++ done.drop i) ++ Z3)))) (hit ++ [o2]) (told') (i + 1) (_)) rfl rfl rfl ?_ ?_
         ·
          have hzi : (done.zip ms)[i]? = some (o, mi) := by rw [zip_get (da := on0) (db := 0) (by omega) (by omega), ← hoe, ← hmi]
          refine ⟨by omega, ?_, ?_, fun u hu => ?_, ?_⟩
          ·
           rw [take_snoc hzi]
           refine hhi.snoc ⟨t1, ?_, ?_, ?_, ?_, ?_, ?_⟩
           ·
            exact ht1
           ·
            exact h2p
           ·
            rw [h2c, ho1]
           ·
            rw [h2t, ho1]
           ·
            rw [h2x, ho1]
           ·
            rw [h2y, ho1]
          ·
           rw [take_snoc hzi, List.foldl_append, ← htl, htl']; rfl
          ·
           rcases List.mem_append.1 hu with hu | hu
           ·
            exact hho u hu
           ·
            rw [List.mem_singleton.1 hu]; exact h2k
          ·
           have e3 : obs ((hit ++ [o2]) ++ done.drop (i + 1)) = obs hit ++ (o2.bks ++ obs (done.drop (i + 1))) := by
            rw [obs_app, obs_app, List.append_assoc]
            have e4 : obs [o2] = o2.bks := by unfold obs; rw [List.flatMap_cons, List.flatMap_nil, List.append_nil]
            rw [e4]
           rw [hU, obs_app] at hs
           have h2 : HS w0 w1 ((b152, Row 3 (il told')) :: ((obs hit ++ (o2.bks ++ obs (done.drop (i + 1)))) ++ Z3)) := HS.re hs (fun c => by simp only [List.map_append, List.map_cons, List.map_nil, List.sum_append, List.sum_cons, List.sum_nil]; omega)
           rw [← e3] at h2
           exact h2
         ·
          show m - (i + 1) < m - i; omega
       ·
        obtain rfl : m = i := by omega
        have hzl : (done.zip ms).length = m := by rw [List.length_zip]; omega
        rw [show (done.zip ms).take m = done.zip ms by rw [← hzl, List.take_length]] at hhi htl
        rw [show hit ++ done.drop m = hit by rw [← hdl, List.drop_length, List.append_nil]] at hs
        have hhl := hhi.len
        rw [hzl] at hhl
        have htlen : told.length = n := by rw [htl, hitsT_len, List.length_replicate]
        have hent : hit.map entOf = k2.ents := by
         rw [hhi.map_eq (f := fun z => entOf z.1) (fun _ _ h => HitR.ent h), zip_fst entOf (by omega), hah.map_eq (f := entOf) (fun _ _ h => AheadR.ent h)]; rfl
        have hhit : ∀ u ∈ hit, u.xs.length ≤ N + 1 ∧ u.ys.length ≤ N + 1 ∧ 0 ≤ u.t.steps ∧ u.t.steps ≤ (N + 1 : Nat) := by
         intro u hu
         obtain ⟨j, hj, rfl⟩ := List.getElem_of_mem hu
         have h1 := hhi.at (i := j) (da := (on0, 0)) (db := on0) (by omega)
         have h2 := hdA j (by omega)
         have h3 := hk2o.hist _ (getD_mem (l := k2.os) (i := j) (d := on0) (by omega))
         have e1 : hit.getD j on0 = hit[j] := by rw [List.getD_eq_getElem?_getD, List.getElem?_eq_getElem hj]; rfl
         have e2 : (done.zip ms).getD j (on0, 0) = (done.getD j on0, ms.getD j 0) := by rw [List.getD_eq_getElem?_getD, zip_get (da := on0) (db := 0) (by omega) (by omega)]; rfl
         rw [e1, e2] at h1
         obtain ⟨t, g1, g2, g3, g4, g5, g6⟩ := h1
         obtain ⟨x, y, _, _, h2⟩ := h2
         have gt : t.steps = (done.getD j on0).t.steps := by
          split at g1
          ·
           obtain ⟨x, y, _, _, rfl⟩ := g1; rfl
          ·
           rw [g1]
         rw [g4, g5, g6, List.length_append, List.length_append, List.length_singleton, List.length_singleton]
         show _ ∧ _ ∧ 0 ≤ t.steps + 1 ∧ t.steps + 1 ≤ _
         rw [gt]
         have gx : (done.getD j on0).xs = (k2.os.getD j on0).xs := by rw [h2]
         have gy : (done.getD j on0).ys = (k2.os.getD j on0).ys := by rw [h2]
         have gs : (done.getD j on0).t.steps = (k2.os.getD j on0).t.steps := by rw [h2]
         show (done.getD j on0).xs.length + 1 ≤ N + 1 ∧ (done.getD j on0).ys.length + 1 ≤ N + 1 ∧ _
         rw [gx, gy, gs]
         omega
        have hlow : ∀ u ∈ hit, 1 ≤ u.t.id ∧ u.t.id < k.next := by
         intro u hu
         have h1 : entOf u ∈ k2.ents := by rw [← hent]; exact List.mem_map.2 ⟨u, hu, rfl⟩
         obtain ⟨v, hv, hve⟩ := List.mem_map.1 h1
         have h2 := hk2o.low v hv
         have h3 : v.t.id = u.t.id := congrArg Prod.fst hve
         rw [← h3]
         have h4 : k2.next = k.next := by rw [hk2]
         rw [← h4]; exact h2
        obtain ⟨Z4, hZ4⟩ : ∃ Z4, Z4 = (b52, Row 97 (pqs ps)) :: (L ++ (Mi ++ Nm)) := ⟨_, rfl⟩
        have hgZ4 : (b52, Row 97 (pqs ps)) ∈ Z4 := by rw [hZ4]; exact List.mem_cons_self ..
        have hZ4o : Own w0 Z4 := by rw [hZ4]; exact Own.cons hb52 (hI.own.app (hbi.own.app hbm.own))
        have ek : ∀ {u : NS}, (⟨k.B, k.mb, k.r, u.os, u.ck, u.next, time⟩ : Bok).bks = (k.B, Row 88 (k.r.cells ++ [.map (some k.mb), .int .i64 u.next, .float .f64 time])) :: (k.mb, MapO (Value.int .i64) pv (u.os.map entOf) u.ck) :: obs u.os := rfl
        have hs1 : HS w0 w ((b152, Row 3 (il told)) :: ((k.B, Row 88 (k.r.cells ++ [.map (some k.mb), .int .i64 k.next, .float .f64 time])) :: (k.mb, MapO (Value.int .i64) pv (hit.map entOf) k.ck) :: (obs hit ++ Z4))) := by
         have e1 : k2.cells = k.r.cells ++ [.map (some k.mb), .int .i64 k.next, .float .f64 time] := by rw [hk2]
         have e2 : k2.ck = k.ck := by rw [hk2]
         rw [hZ3, hZ, e1, e2, ← hent] at hs
         rw [hZ4]
         exact HS.re hs (fun c => by simp only [List.map_append, List.map_cons, List.map_nil, List.sum_append, List.sum_cons, List.sum_nil]; omega)
        clear hs
        have hs := hs1
        clear hs1
        have hkk : (⟨k.B, k.mb, k.r, hit, k.ck, k.next, time⟩ : Bok).ok w0 (N + 1) := by
         refine ⟨hkB, hkm, hho, ?_, hlow, hk.next1, hk.next2, hhit, hk.rul, by show hit.length ≤ 256; omega⟩
         show EntOk (hit.map entOf) k.ck
         rw [hent]
         have e2 : k2.ck = k.ck := by rw [hk2]
         rw [← e2]; exact hk2o.ents
        have hnx := hI.next
        refine W_seq ?_
        refine W_region ?_
        first | refine L_lss rfl rfl rfl (dtrue (by omega)) ?_ | refine L_lss rfl rfl rfl (dfalse (by omega)) ?_ | refine L_lss rfl rfl rfl rfl ?_
        refine RL_then ?_
        refine W_seq ?_
        refine W_if_false rfl ?_
        refine W_exit' ?_
        refine Ex_then_exit ?_
        refine Ex_loop_exit ?_
        refine Ex_block_hit ?_
        refine Nx_then ?_
        refine W_seq ?_
        refine W_seq ?_
        refine W_region ?_
        refine L_move rfl rfl ?_
        refine L_len rfl Try.underlying95 rfl ?_
        refine L_move rfl rfl ?_
        refine RL_then ?_
        refine W_block ?_
        refine W_loop3 (fun (u : NS) (j : Nat) (w : World) => [(0, bv k.B), (1, .float .f64 time), (6, .slice (some ⟨b152, 0, none⟩) n n), (237, .slice (some ⟨b52, 0, none⟩) n n), (238, .int .i64 n), (239, .int .i64 j)]) (fun (u : NS) (j : Nat) (w : World) => w) (fun (u : NS) (j : Nat) (w : World) => (j ≤ n) ∧ (NewsTo k.r time ps ⟨hit, k.ck, k.next, told⟩ j u) ∧ (u.told.length = n) ∧ (u.next ≤ k.next + j) ∧ ((⟨k.B, k.mb, k.r, u.os, u.ck, u.next, time⟩ : Bok).ok w0 (N + 1)) ∧ (HS w0 w ((b152, Row 3 (il u.told)) :: ((k.B, Row 88 (k.r.cells ++ [.map (some k.mb), .int .i64 u.next, .float .f64 time])) :: (k.mb, MapO (Value.int .i64) pv (u.os.map entOf) u.ck) :: (obs u.os ++ Z4))))) (fun (u : NS) (j : Nat) (w : World) => n - j) (⟨hit, k.ck, k.next, told⟩) (0) (_) (is := [0, 1, 6, 237, 238, 239]) rfl rfl ?_ ?_
        ·
         exact ⟨Nat.zero_le _, .zero, htlen, by show k.next ≤ k.next + ((0 : Nat) : Int); omega, hkk, hs⟩
        ·
         clear hs hkk
         intro u j w hI
         show W _ _ _ _ [(0, bv k.B), (1, .float .f64 time), (6, .slice (some ⟨b152, 0, none⟩) n n), (237, .slice (some ⟨b52, 0, none⟩) n n), (238, .int .i64 n), (239, .int .i64 j)] w
         obtain ⟨hj, hnt, hul, hun, huk, hs⟩ := hI
         by_cases hlt3 : j < n
         ·
          obtain ⟨p, hp⟩ : ∃ p, p = ps.getD j pq0 := ⟨_, rfl⟩
          have hsp : SlC w (some ⟨b52, 0, none⟩) (pqs ps) := SlC.of_row (sp := []) (by rw [List.append_nil]; exact hs.has _ (List.mem_cons_of_mem _ (List.mem_cons_of_mem _ (List.mem_cons_of_mem _ (List.mem_append_right _ hgZ4)))))
          obtain ⟨tj, htj⟩ : ∃ tj, tj = u.told.getD j 0 := ⟨_, rfl⟩
          have htj1 : (il u.told)[j]? = some (.int .i64 tj) := by rw [htj]; exact il_get (by omega)
          refine W_seq ?_
          refine W_region ?_
          first | refine L_lss rfl rfl rfl (dtrue (by omega)) ?_ | refine L_lss rfl rfl rfl (dfalse (by omega)) ?_ | refine L_lss rfl rfl rfl rfl ?_
          refine RL_then ?_
          refine W_seq ?_
          refine W_if_true rfl ?_
          refine W_skip' ?_
          refine Nx_then ?_
          refine W_seq ?_
          refine W_block ?_
          refine W_seq ?_
          refine W_region ?_
          refine L_move rfl rfl ?_
          refine L_idxN rfl Try.underlying95 Try.ti97 rfl rfl (by with_reducible first | exact natc_k _ | exact natc_a1 _ | exact natc_0 | exact natc_1 | exact natc_2 | exact natc_s1 _ (by omega) | exact natc_a2 _ | exact natc_add _ _ | exact natc_mul _ _ | exact natc (by omega)) (by omega) rfl ?_
          refine L_loadA rfl Try.agg97 Try.ti97 rfl (by exact (hsp.sub fun _ _ hv => pqs_get (by omega) (by rw [← hp]; exact hv) : CellsAt w ((aD (some (Addr.mk b52 0 none))).add (j * 2)) p.cells)) ?_
          refine L_alloc rfl hs Try.ti97 ?_; intro b30 w hb30 _ hs; replace hs := HS.push hs
          refine L_assign rfl rfl ?_
          refine L_storeA hs (i := 0) rfl Try.ti97 rfl rfl (by first | rfl | exact add_lit0 _ _ | exact Addr.add_lit .. | (rw [add_add]; exact add_lit0 _ _)) (by simp [Pq.cells]) (by simp [Pq.cells, Value.oneCell']) ?_
          intro w hs
          try dsimp only [List.set_cons_succ, List.set_cons_zero, List.cons_append, List.nil_append] at hs
          refine RL_then ?_
          refine W_seq ?_
          refine W_seq ?_
          replace hs : HS w0 w ((b30, Row 97 p.cells) :: (b152, Row 3 (il u.told)) :: ((k.B, Row 88 (k.r.cells ++ [.map (some k.mb), .int .i64 u.next, .float .f64 time])) :: (k.mb, MapO (Value.int .i64) pv (u.os.map entOf) u.ck) :: (obs u.os ++ Z4))) := hs
          by_cases hc1 : 0 < tj
          ·
           refine W_region ?_
           refine L_move rfl rfl ?_
           refine L_move rfl rfl ?_
           refine L_idx1 rfl Try.underlying31 Try.ti3 rfl rfl (by with_reducible first | exact natc_k _ | exact natc_a1 _ | exact natc_0 | exact natc_1 | exact natc_2 | exact natc_s1 _ (by omega) | exact natc_a2 _ | exact natc_add _ _ | exact natc_mul _ _ | exact natc (by omega)) (by omega) rfl ?_
           refine L_load rfl Try.one3 rfl (by exact hs.cellA (i := 1) (j := j) rfl htj1) ?_
           first | refine L_gtr rfl rfl rfl (dtrue (by omega)) ?_ | refine L_gtr rfl rfl rfl (dfalse (by omega)) ?_ | refine L_gtr rfl rfl rfl rfl ?_
           refine L_move rfl rfl ?_
           first | refine RL_skip rfl rfl rfl rfl ?_ | refine RL_skipU rfl rfl rfl ?_
           first | refine RL_skip rfl rfl rfl rfl ?_ | refine RL_skipU rfl rfl rfl ?_
           first | refine RL_skip rfl rfl rfl rfl ?_ | refine RL_skipU rfl rfl rfl ?_
           first | refine RL_skip rfl rfl rfl rfl ?_ | refine RL_skipU rfl rfl rfl ?_
           first | refine RL_skip rfl rfl rfl rfl ?_ | refine RL_skipU rfl rfl rfl ?_
           first | refine RL_skip rfl rfl rfl rfl ?_ | refine RL_skipU rfl rfl rfl ?_
           first | refine L_pick_t rfl rfl rfl ?_ | refine L_pick_f rfl rfl rfl ?_
           refine RL_then ?_
           refine W_if_true rfl ?_
           refine W_exit' ?_
           refine Ex_then_exit ?_
           refine Ex_block_hit ?_
           refine Nx_then ?_
           refine W_region ?_
           first | refine L_add rfl rfl rfl (wrp_i64 (by omega)) ?_ | refine L_add rfl rfl rfl rfl ?_
           refine L_move rfl rfl ?_
           refine RL_nil' ?_
           refine Nx_loopP (u, j + 1, _) (is := [0, 1, 6, 237, 238, 239]) (I' := (fun (u : NS) (j : Nat) (w : World) => (j ≤ n) ∧ (NewsTo k.r time ps ⟨hit, k.ck, k.next, told⟩ j u) ∧ (u.told.length = n) ∧ (u.next ≤ k.next + j) ∧ ((⟨k.B, k.mb, k.r, u.os, u.ck, u.next, time⟩ : Bok).ok w0 (N + 1)) ∧ (HS w0 w ((b152, Row 3 (il u.told)) :: ((k.B, Row 88 (k.r.cells ++ [.map (some k.mb), .int .i64 u.next, .float .f64 time])) :: (k.mb, MapO (Value.int .i64) pv (u.os.map entOf) u.ck) :: (obs u.os ++ Z4))))) (u) (j + 1) (_)) rfl rfl rfl ?_ ?_
           ·
            exact ⟨by omega, .old hnt (.inl (by rw [← htj]; exact hc1)), hul, by omega, huk, HS.pop hs hb30⟩
           ·
            show n - (j + 1) < n - j; omega
          ·
           by_cases hc2 : 256 ≤ u.os.length
           ·
            refine W_region ?_
            refine L_move rfl rfl ?_
            refine L_move rfl rfl ?_
            refine L_idx1 rfl Try.underlying31 Try.ti3 rfl rfl (by with_reducible first | exact natc_k _ | exact natc_a1 _ | exact natc_0 | exact natc_1 | exact natc_2 | exact natc_s1 _ (by omega) | exact natc_a2 _ | exact natc_add _ _ | exact natc_mul _ _ | exact natc (by omega)) (by omega) rfl ?_
            refine L_load rfl Try.one3 rfl (by exact hs.cellA (i := 1) (j := j) rfl htj1) ?_
            first | refine L_gtr rfl rfl rfl (dtrue (by omega)) ?_ | refine L_gtr rfl rfl rfl (dfalse (by omega)) ?_ | refine L_gtr rfl rfl rfl rfl ?_
            refine L_move rfl rfl ?_
            first | (refine RL_want rfl rfl ?_; refine L_move rfl rfl ?_) | refine RL_skip rfl rfl rfl rfl ?_ | refine RL_skipU rfl rfl rfl ?_
            first | (refine RL_want rfl rfl ?_; refine L_nilCheck rfl rfl ?_) | refine RL_skip rfl rfl rfl rfl ?_ | refine RL_skipU rfl rfl rfl ?_
            first | (refine RL_want rfl rfl ?_; refine L_fieldAddr rfl (off := 6) Try.underlying88 rfl rfl Try.ti85 rfl ?_) | refine RL_skip rfl rfl rfl rfl ?_ | refine RL_skipU rfl rfl rfl ?_
            first | (refine RL_want rfl rfl ?_; refine L_load rfl Try.one85 rfl (by exact hs.cellA (i := 2) (j := 6) rfl rfl) ?_) | refine RL_skip rfl rfl rfl rfl ?_ | refine RL_skipU rfl rfl rfl ?_
            first | (refine RL_want rfl rfl ?_; refine L_mlen rfl Try.underlying85 (hs.get (i := 3) rfl) rfl ?_; rw [List.length_map]) | refine RL_skip rfl rfl rfl rfl ?_ | refine RL_skipU rfl rfl rfl ?_
            first | (refine RL_want rfl rfl ?_; (first | refine L_geq rfl rfl rfl (dtrue (by omega)) ?_ | refine L_geq rfl rfl rfl (dfalse (by omega)) ?_ | refine L_geq rfl rfl rfl rfl ?_)) | refine RL_skip rfl rfl rfl rfl ?_ | refine RL_skipU rfl rfl rfl ?_
            first | refine L_pick_t rfl rfl rfl ?_ | refine L_pick_f rfl rfl rfl ?_
            refine RL_then ?_
            refine W_if_true rfl ?_
            refine W_exit' ?_
            refine Ex_then_exit ?_
            refine Ex_block_hit ?_
            refine Nx_then ?_
            refine W_region ?_
            first | refine L_add rfl rfl rfl (wrp_i64 (by omega)) ?_ | refine L_add rfl rfl rfl rfl ?_
            refine L_move rfl rfl ?_
            refine RL_nil' ?_
            refine Nx_loopP (u, j + 1, _) (is := [0, 1, 6, 237, 238, 239]) (I' := (fun (u : NS) (j : Nat) (w : World) => (j ≤ n) ∧ (NewsTo k.r time ps ⟨hit, k.ck, k.next, told⟩ j u) ∧ (u.told.length = n) ∧ (u.next ≤ k.next + j) ∧ ((⟨k.B, k.mb, k.r, u.os, u.ck, u.next, time⟩ : Bok).ok w0 (N + 1)) ∧ (HS w0 w ((b152, Row 3 (il u.told)) :: ((k.B, Row 88 (k.r.cells ++ [.map (some k.mb), .int .i64 u.next, .float .f64 time])) :: (k.mb, MapO (Value.int .i64) pv (u.os.map entOf) u.ck) :: (obs u.os ++ Z4))))) (u) (j + 1) (_)) rfl rfl rfl ?_ ?_
            ·
             exact ⟨by omega, .old hnt (.inr hc2), hul, by omega, huk, HS.pop hs hb30⟩
            ·
             show n - (j + 1) < n - j; omega
           ·
            refine W_region ?_
            refine L_move rfl rfl ?_
            refine L_move rfl rfl ?_
            refine L_idx1 rfl Try.underlying31 Try.ti3 rfl rfl (by with_reducible first | exact natc_k _ | exact natc_a1 _ | exact natc_0 | exact natc_1 | exact natc_2 | exact natc_s1 _ (by omega) | exact natc_a2 _ | exact natc_add _ _ | exact natc_mul _ _ | exact natc (by omega)) (by omega) rfl ?_
            refine L_load rfl Try.one3 rfl (by exact hs.cellA (i := 1) (j := j) rfl htj1) ?_
            first | refine L_gtr rfl rfl rfl (dtrue (by omega)) ?_ | refine L_gtr rfl rfl rfl (dfalse (by omega)) ?_ | refine L_gtr rfl rfl rfl rfl ?_
            refine L_move rfl rfl ?_
            first | (refine RL_want rfl rfl ?_; refine L_move rfl rfl ?_) | refine RL_skip rfl rfl rfl rfl ?_ | refine RL_skipU rfl rfl rfl ?_
            first | (refine RL_want rfl rfl ?_; refine L_nilCheck rfl rfl ?_) | refine RL_skip rfl rfl rfl rfl ?_ | refine RL_skipU rfl rfl rfl ?_
            first | (refine RL_want rfl rfl ?_; refine L_fieldAddr rfl (off := 6) Try.underlying88 rfl rfl Try.ti85 rfl ?_) | refine RL_skip rfl rfl rfl rfl ?_ | refine RL_skipU rfl rfl rfl ?_
            first | (refine RL_want rfl rfl ?_; refine L_load rfl Try.one85 rfl (by exact hs.cellA (i := 2) (j := 6) rfl rfl) ?_) | refine RL_skip rfl rfl rfl rfl ?_ | refine RL_skipU rfl rfl rfl ?_
            first | (refine RL_want rfl rfl ?_; refine L_mlen rfl Try.underlying85 (hs.get (i := 3) rfl) rfl ?_; rw [List.length_map]) | refine RL_skip rfl rfl rfl rfl ?_ | refine RL_skipU rfl rfl rfl ?_
            first | (refine RL_want rfl rfl ?_; (first | refine L_geq rfl rfl rfl (dtrue (by omega)) ?_ | refine L_geq rfl rfl rfl (dfalse (by omega)) ?_ | refine L_geq rfl rfl rfl rfl ?_)) | refine RL_skip rfl rfl rfl rfl ?_ | refine RL_skipU rfl rfl rfl ?_
            first | refine L_pick_t rfl rfl rfl ?_ | refine L_pick_f rfl rfl rfl ?_
            refine RL_then ?_
            refine W_if_false rfl ?_
            refine W_skip' ?_
            refine Nx_then ?_
            refine W_seq ?_
            refine W_region ?_
            refine L_move rfl rfl ?_
            refine L_nilCheck rfl rfl ?_
            refine L_fieldAddr rfl (off := 7) Try.underlying88 rfl rfl Try.ti3 rfl ?_
            refine L_load rfl Try.one3 rfl (by exact hs.cellA (i := 2) (j := 7) rfl rfl) ?_
            refine L_build rfl rfl (Pl.builtN Try.pl49 rfl) ?_
            refine L_build rfl rfl (Pl.builtN Try.pl93 rfl) ?_
            refine L_box rfl hs rfl ?_; intro b263 w hb263 _ hs; replace hs := HS.push hs
            refine L_assign rfl rfl ?_
            refine RL_then ?_
            refine W_seq ?_
            obtain ⟨t0, ht0⟩ : ∃ t0 : Trk, t0 = ⟨u.next, 0, stt0, stt0, 1, 0, 0⟩ := ⟨_, rfl⟩
            obtain ⟨o0, ho0⟩ : ∃ o0 : On, o0 = ⟨b263, t0, .slice none 0 0, [], [], .slice none 0 0, [], [], u.ck⟩ := ⟨_, rfl⟩
            obtain ⟨U, hU⟩ : ∃ U, U = (b30, Row 97 p.cells) :: (b152, Row 3 (il u.told)) :: ((k.B, Row 88 (k.r.cells ++ [.map (some k.mb), .int .i64 u.next, .float .f64 time])) :: (k.mb, MapO (Value.int .i64) pv (u.os.map entOf) u.ck) :: (obs u.os ++ Z4)) := ⟨_, rfl⟩
            have hs1 : HS w0 w ((b263, Row 93 (oRow o0 t0)) :: U) := by rw [hU, ho0, ht0]; exact hs
            clear hs
            have hs := hs1
            clear hs1
            have hpU : (b30, Row 97 p.cells) ∈ U := by rw [hU]; exact List.mem_cons_self ..
            have hBU : (k.B, Row 88 (k.r.cells ++ [.map (some k.mb), .int .i64 u.next, .float .f64 time])) ∈ U := by rw [hU]; exact List.mem_cons_of_mem _ (List.mem_cons_of_mem _ (List.mem_cons_self ..))
            have hUo : Own w0 U := by
             rw [hU]
             exact Own.cons hb30 (Own.cons hb152 (Own.cons hkB (Own.cons hkm (Own.app (fun q hq => by
              obtain ⟨x, hx, hq⟩ := List.mem_flatMap.1 hq
              exact (huk.each x hx).own q hq) hZ4o))))
            refine W_sg Try.mixed ?_
            replace hs := hs.drewN 1
            refine SG_stageB [0, 1, 2, 4, 5, 6, 7, 9, 10, 11, 12, 15, 17, 18, 19, 20, 22, 23, 24, 25] [3, 8, 13, 14, 16, 21, 26, 27, 28, 29, 30] [31, 32, 33, 34, 35] (noBk SPC) (g' := 0) (by kernel_rfl) (by kernel_rfl) (fun _ _ _ _ _ h => h) hs ?_
            refine PL_val rfl (fun w => R_move rfl) ?_
            refine PL_val rfl (fun w => R_move rfl) ?_
            refine PL_val rfl (fun w => R_fieldAddr (off := 0) Try.underlying97 rfl rfl Try.ti23 rfl) ?_
            refine PL_val rfl (fun w => R_move rfl) ?_
            refine PL_val rfl (fun w => R_nilCheck rfl) ?_
            refine PL_val rfl (fun w => R_fieldAddr (off := 0) Try.underlying88 rfl rfl Try.ti25 rfl) ?_
            refine PL_val rfl (fun w => R_fieldAddr (off := 0) Try.underlying25 rfl rfl Try.ti23 rfl) ?_
            refine PL_val rfl (fun w => R_move rfl) ?_
            refine PL_val rfl (fun w => R_nilCheck rfl) ?_
            refine PL_val rfl (fun w => R_fieldAddr (off := 0) Try.underlying88 rfl rfl Try.ti25 rfl) ?_
            refine PL_val rfl (fun w => R_fieldAddr (off := 1) Try.underlying25 rfl rfl Try.ti23 rfl) ?_
            refine PL_val rfl (fun w => R_fieldAddr (off := 1) Try.underlying97 rfl rfl Try.ti23 rfl) ?_
            refine PL_val rfl (fun w => R_move rfl) ?_
            refine PL_val rfl (fun w => R_nilCheck rfl) ?_
            refine PL_val rfl (fun w => R_fieldAddr (off := 0) Try.underlying88 rfl rfl Try.ti25 rfl) ?_
            refine PL_val rfl (fun w => R_fieldAddr (off := 0) Try.underlying25 rfl rfl Try.ti23 rfl) ?_
            refine PL_val rfl (fun w => R_move rfl) ?_
            refine PL_val rfl (fun w => R_nilCheck rfl) ?_
            refine PL_val rfl (fun w => R_fieldAddr (off := 0) Try.underlying88 rfl rfl Try.ti25 rfl) ?_
            refine PL_val rfl (fun w => R_fieldAddr (off := 1) Try.underlying25 rfl rfl Try.ti23 rfl) ?_
            refine PL_endB ?_
            refine HB_val rfl (fun w R hR hs => R_load Try.one23 rfl (by exact cellAM hs (List.mem_append_left _ (List.mem_cons_of_mem _ hpU)) (j := 0) rfl)) ?_
            refine HB_val rfl (fun w R hR hs => R_load Try.one23 rfl (by exact cellAM hs (List.mem_append_left _ (List.mem_cons_of_mem _ hBU)) (j := 0) rfl)) ?_
            refine HB_val rfl (fun w R hR hs => R_load Try.one23 rfl (by exact cellAM hs (List.mem_append_left _ (List.mem_cons_of_mem _ hBU)) (j := 1) rfl)) ?_
            refine HB_callH rfl Try.fun45 rfl (fun w R hR hs => startH hs p.x k.r.noise k.r.sway) ?_
            rintro _ hd
            obtain rfl := hd
            refine HB_val rfl (fun w R hR hs => R_load Try.one23 rfl (by exact cellAM hs (List.mem_append_left _ (List.mem_cons_of_mem _ hpU)) (j := 1) rfl)) ?_
            refine HB_val rfl (fun w R hR hs => R_load Try.one23 rfl (by exact cellAM hs (List.mem_append_left _ (List.mem_cons_of_mem _ hBU)) (j := 0) rfl)) ?_
            refine HB_val rfl (fun w R hR hs => R_load Try.one23 rfl (by exact cellAM hs (List.mem_append_left _ (List.mem_cons_of_mem _ hBU)) (j := 1) rfl)) ?_
            refine HB_callH rfl Try.fun45 rfl (fun w R hR hs => startH hs p.y k.r.noise k.r.sway) ?_
            rintro _ hd
            obtain rfl := hd
            refine HB_val rfl (fun w R hR hs => R_nilCheck rfl) ?_
            refine HB_val rfl (fun w R hR hs => R_fieldAddr (off := 0) Try.underlying93 rfl rfl Try.ti49 rfl) ?_
            refine HB_val rfl (fun w R hR hs => R_fieldAddr (off := 2) Try.underlying49 rfl rfl Try.ti46 rfl) ?_
            refine HB_tail ?_
            intro w hs
            refine L_storeA hs (i := 0) rfl Try.ti46 rfl rfl (by first | rfl | exact add_lit0 _ _ | exact Addr.add_lit .. | (rw [add_add]; exact add_lit0 _ _)) (by first | exact (by decide : (7 : Nat) ≤ 17) | exact (by decide : (12 : Nat) ≤ 17)) (by simp [Stt.cells, Value.oneCell']) ?_
            intro w hs
            try dsimp only [List.set_cons_succ, List.set_cons_zero, List.cons_append, List.nil_append] at hs
            refine L_nilCheck rfl rfl ?_
            refine L_fieldAddr rfl (off := 0) Try.underlying93 rfl rfl Try.ti49 rfl ?_
            refine L_fieldAddr rfl (off := 7) Try.underlying49 rfl rfl Try.ti46 rfl ?_
            refine L_storeA hs (i := 0) rfl Try.ti46 rfl rfl (by first | rfl | exact add_lit0 _ _ | exact Addr.add_lit .. | (rw [add_add]; exact add_lit0 _ _)) (by first | exact (by decide : (7 : Nat) ≤ 17) | exact (by decide : (12 : Nat) ≤ 17)) (by simp [Stt.cells, Value.oneCell']) ?_
            intro w hs
            try dsimp only [List.set_cons_succ, List.set_cons_zero, List.cons_append, List.nil_append] at hs
            refine RL_sg ?_
            refine SG_end (by kernel_rfl) ?_
            refine Nx_then ?_
            refine W_seq ?_
            obtain ⟨o1, ho1⟩ : ∃ o1 : On, o1 = { o0 with t := newT0 k.r u.next p } := ⟨_, rfl⟩
            have ho1p : o1.p = b263 := by rw [ho1, ho0]
            have ho1k : o1.ok w0 := by rw [ho1, ho0]; exact ⟨hb263, .nil, .nil, by show (1 : Nat) < 65536; decide⟩
            have hs1 : HS w0 w (U ++ o1.bks) := by
             rw [List.append_nil] at hs
             have h1 : HS w0 w (o1.bks ++ U) := by rw [ho1, ho0]; rw [ho0, ht0] at hs; exact hs
             exact HS.re h1 (fun c => by simp only [List.map_append, List.map_cons, List.map_nil, List.sum_append, List.sum_cons, List.sum_nil]; omega)
            clear hs
            have hs := hs1
            clear hs1
            have hcall := ends_ok w0 w k.B time k.r [.map (some k.mb), .int .i64 u.next, .float .f64 time] o1 U hs ho1k hBU hk.rul (by rw [ho1]; show (0 : Int) ≤ 0 ∧ (0 : Int) ≤ 1000000; decide) (by rw [ho1, ho0]; show 0 + 1 ≤ 1024; decide) (by rw [ho1, ho0]; show 0 + 1 ≤ 1024; decide) hUo
            rw [ho1p] at hcall
            refine W_region ?_
            refine L_move rfl rfl ?_
            refine L_move rfl rfl ?_
            refine L_move rfl rfl ?_
            refine L_call rfl Try.fun44 rfl (hcall) ?_
            rintro _ w1 ⟨o2, h2p, h2c, h2t, h2x, h2y, hs1, h2k⟩
            clear hs
            have hs : HS w0 w1 ((b30, Row 97 p.cells) :: (b152, Row 3 (il u.told)) :: ((k.B, Row 88 (k.r.cells ++ [.map (some k.mb), .int .i64 u.next, .float .f64 time])) :: (k.mb, MapO (Value.int .i64) pv (u.os.map entOf) u.ck) :: ((obs u.os ++ Z4) ++ o2.bks))) := by rw [hU] at hs1; exact hs1
            clear hs1
            refine RL_then ?_
            refine W_seq ?_
            refine W_sg Try.mixed ?_
            replace hs := hs.drewN 1
            refine SG_stageB [0, 1, 2, 4, 5, 6, 8] [3, 7] [9] (noBk SPC) (g' := 0) (by kernel_rfl) (by kernel_rfl) (fun _ _ _ _ _ h => h) hs ?_
            refine PL_val rfl (fun w => R_move rfl) ?_
            refine PL_val rfl (fun w => R_nilCheck rfl) ?_
            refine PL_val rfl (fun w => R_fieldAddr (off := 6) Try.underlying88 rfl rfl Try.ti85 rfl) ?_
            refine PL_val rfl (fun w => R_move rfl) ?_
            refine PL_val rfl (fun w => R_nilCheck rfl) ?_
            refine PL_val rfl (fun w => R_fieldAddr (off := 7) Try.underlying88 rfl rfl Try.ti3 rfl) ?_
            refine PL_val rfl (fun w => R_move rfl) ?_
            refine PL_endB ?_
            refine HB_val rfl (fun w R hR hs => R_load Try.one85 rfl (by exact cellAM hs (List.mem_append_left _ (List.mem_cons_of_mem _ (List.mem_cons_of_mem _ (List.mem_cons_self ..)))) (j := 6) rfl)) ?_
            refine HB_val rfl (fun w R hR hs => R_load Try.one3 rfl (by exact cellAM hs (List.mem_append_left _ (List.mem_cons_of_mem _ (List.mem_cons_of_mem _ (List.mem_cons_self ..)))) (j := 7) rfl)) ?_
            refine HB_tail ?_
            intro w hs
            refine L_mput hs (i := 3) (k := u.next) (v := b263) (ev := pv) rfl K3 Try.underlying85 rfl rfl rfl ?_; intro w hs
            refine RL_sg ?_
            refine SG_end (by kernel_rfl) ?_
            refine Nx_then ?_
            refine W_seq ?_
            have hne : ∀ x ∈ u.os.map entOf, x.1 < u.next := fun x hx => by
             obtain ⟨v, hv, rfl⟩ := List.mem_map.1 hx
             exact (huk.low v hv).2
            obtain ⟨hmp, hmc⟩ := mput_new (es := u.os.map entOf) (k := u.next) (v := b263) (ck := u.ck) (fun x hx => Int.ne_of_lt (hne x hx))
            rw [hmp, hmc] at hs
            have hs1 : HS w0 w ((b30, Row 97 p.cells) :: (b152, Row 3 (il u.told)) :: ((k.B, Row 88 (k.r.cells ++ [.map (some k.mb), .int .i64 u.next, .float .f64 time])) :: (k.mb, MapO (Value.int .i64) pv (u.os.map entOf ++ [(u.next, b263, u.ck)]) (u.ck + 1)) :: ((obs u.os ++ Z4) ++ o2.bks))) := by rw [List.append_nil] at hs; exact hs
            clear hs
            have h9n : (1 : Int) ≤ u.next := huk.next1
            have hs := hs1
            clear hs1
            refine W_region ?_
            refine L_move rfl rfl ?_
            refine L_move rfl rfl ?_
            refine L_move rfl rfl ?_
            refine L_nilCheck rfl rfl ?_
            refine L_fieldAddr rfl (off := 7) Try.underlying88 rfl rfl Try.ti3 rfl ?_
            refine L_load rfl Try.one3 rfl (by exact hs.cellA (i := 2) (j := 7) rfl rfl) ?_
            refine L_idx1 rfl Try.underlying31 Try.ti3 rfl rfl (by with_reducible first | exact natc_k _ | exact natc_a1 _ | exact natc_0 | exact natc_1 | exact natc_2 | exact natc_s1 _ (by omega) | exact natc_a2 _ | exact natc_add _ _ | exact natc_mul _ _ | exact natc (by omega)) (by omega) rfl ?_
            refine L_store hs (i := 1) rfl Try.ti3 rfl rfl (by first | rfl | exact add_lit0 _ _ | exact Addr.add_lit .. | (rw [add_add]; exact add_lit0 _ _)) (by rw [il_length]; omega) rfl ?_
            intro w hs
            try dsimp only [List.set_cons_succ, List.set_cons_zero, List.cons_append, List.nil_append] at hs
            refine RL_then ?_
            refine W_region ?_
            refine L_move rfl rfl ?_
            refine L_nilCheck rfl rfl ?_
            refine L_fieldAddr rfl (off := 7) Try.underlying88 rfl rfl Try.ti3 rfl ?_
            refine L_load rfl Try.one3 rfl (by exact hs.cellA (i := 2) (j := 7) rfl rfl) ?_
            first | refine L_add rfl rfl rfl (wrp_i64 (by omega)) ?_ | refine L_add rfl rfl rfl rfl ?_
            refine L_nilCheck rfl rfl ?_
            refine L_fieldAddr rfl (off := 7) Try.underlying88 rfl rfl Try.ti3 rfl ?_
            refine L_store hs (i := 2) rfl Try.ti3 rfl rfl (by first | rfl | exact add_lit0 _ _ | exact Addr.add_lit .. | (rw [add_add]; exact add_lit0 _ _)) (by exact (by decide : (7 : Nat) < 9)) rfl ?_
            intro w hs
            try dsimp only [List.set_cons_succ, List.set_cons_zero, List.cons_append, List.nil_append] at hs
            refine RL_nil' ?_
            refine Nx_block ?_
            refine Nx_then ?_
            refine W_region ?_
            first | refine L_add rfl rfl rfl (wrp_i64 (by omega)) ?_ | refine L_add rfl rfl rfl rfl ?_
            refine L_move rfl rfl ?_
            refine RL_nil' ?_
            have h1n := huk.next1
            have h2p' : o2.p = b263 := h2p
            have h2i : o2.t.id = u.next := by rw [h2t, ho1]; rfl
            refine Nx_loopP (⟨u.os ++ [o2], u.ck + 1, u.next + 1, u.told.set j u.next⟩, j + 1, _) (is := [0, 1, 6, 237, 238, 239]) (I' := (fun (u : NS) (j : Nat) (w : World) => (j ≤ n) ∧ (NewsTo k.r time ps ⟨hit, k.ck, k.next, told⟩ j u) ∧ (u.told.length = n) ∧ (u.next ≤ k.next + j) ∧ ((⟨k.B, k.mb, k.r, u.os, u.ck, u.next, time⟩ : Bok).ok w0 (N + 1)) ∧ (HS w0 w ((b152, Row 3 (il u.told)) :: ((k.B, Row 88 (k.r.cells ++ [.map (some k.mb), .int .i64 u.next, .float .f64 time])) :: (k.mb, MapO (Value.int .i64) pv (u.os.map entOf) u.ck) :: (obs u.os ++ Z4))))) (⟨u.os ++ [o2], u.ck + 1, u.next + 1, u.told.set j u.next⟩) (j + 1) (_)) rfl rfl rfl ?_ ?_
            ·
             have hent : (u.os ++ [o2]).map entOf = u.os.map entOf ++ [(u.next, b263, u.ck)] := by
              rw [List.map_append, List.map_cons, List.map_nil]
              unfold entOf
              rw [h2i, h2p', h2c, ho1, ho0]
             refine ⟨by omega, ?_, ?_, ?_, ?_, ?_⟩
             ·
              refine .new hnt (fun h => ?_) ?_ ?_ ?_ ?_
              ·
               rw [← htj] at h; omega
              ·
               rw [h2c, ho1, ho0]
              ·
               rw [h2t, ho1, ← hp]
              ·
               rw [h2x, ho1, ho0, ← hp]; rfl
              ·
               rw [h2y, ho1, ho0, ← hp]; rfl
             ·
              show (u.told.set j u.next).length = n
              rw [List.length_set, hul]
             ·
              show u.next + 1 ≤ k.next + ((j + 1 : Nat) : Int); omega
             ·
              refine ⟨hkB, hkm, fun v hv => ?_, ?_, fun v hv => ?_, ?_, ?_, fun v hv => ?_, hk.rul, ?_⟩
              ·
               rcases List.mem_append.1 hv with hv | hv
               ·
                exact huk.each v hv
               ·
                rw [List.mem_singleton.1 hv]; exact h2k
              ·
               show EntOk ((u.os ++ [o2]).map entOf) (u.ck + 1)
               rw [hent]
               exact huk.ents.push hne (by have h9 : (1 : Int) ≤ u.next := h1n; omega) (by omega) (by show (u.os.map entOf).length ≤ 999; rw [List.length_map]; omega)
              ·
               show 1 ≤ v.t.id ∧ v.t.id < u.next + 1
               rcases List.mem_append.1 hv with hv | hv
               ·
                have h9 : 1 ≤ v.t.id ∧ v.t.id < u.next := huk.low v hv
                omega
               ·
                rw [List.mem_singleton.1 hv, h2i]
                have h9 : (1 : Int) ≤ u.next := h1n
                omega
              ·
               show 1 ≤ u.next + 1
               have h9 : (1 : Int) ≤ u.next := h1n
               omega
              ·
               show u.next + 1 ≤ 1000000; omega
              ·
               rcases List.mem_append.1 hv with hv | hv
               ·
                exact huk.hist v hv
               ·
                rw [List.mem_singleton.1 hv, h2x, h2y, h2t, ho1, ho0]
                refine ⟨by show 0 + 1 ≤ N + 1; omega, by show 0 + 1 ≤ N + 1; omega, by show (0 : Int) ≤ 0 + 1; omega, by show (0 : Int) + 1 ≤ ((N + 1 : Nat) : Int); omega⟩
              ·
               show (u.os ++ [o2]).length ≤ 256
               rw [List.length_append, List.length_singleton]; omega
             ·
              have h3 := HS.pop hs hb30
              have h4 : HS w0 w ((b152, Row 3 (il (u.told.set j u.next))) :: ((k.B, Row 88 (k.r.cells ++ [.map (some k.mb), .int .i64 (u.next + 1), .float .f64 time])) :: (k.mb, MapO (Value.int .i64) pv (u.os.map entOf ++ [(u.next, b263, u.ck)]) (u.ck + 1)) :: ((obs u.os ++ Z4) ++ o2.bks))) := by rw [← il_set]; exact h3
              have e4 : obs (u.os ++ [o2]) = obs u.os ++ o2.bks := by rw [obs_app]; unfold obs; rw [List.flatMap_cons, List.flatMap_nil, List.append_nil]
              have h5 : HS w0 w ((b152, Row 3 (il (u.told.set j u.next))) :: ((k.B, Row 88 (k.r.cells ++ [.map (some k.mb), .int .i64 (u.next + 1), .float .f64 time])) :: (k.mb, MapO (Value.int .i64) pv (u.os.map entOf ++ [(u.next, b263, u.ck)]) (u.ck + 1)) :: ((obs u.os ++ o2.bks) ++ Z4))) := HS.re h4 (fun c => by simp only [List.map_append, List.map_cons, List.map_nil, List.sum_append, List.sum_cons, List.sum_nil]; omega)
              rw [← e4, ← hent] at h5
              exact h5
            ·
             show n - (j + 1) < n - j; omega
         ·
          obtain rfl : n = j := by omega
          refine W_seq ?_
          refine W_region ?_
          first | refine L_lss rfl rfl rfl (dtrue (by omega)) ?_ | refine L_lss rfl rfl rfl (dfalse (by omega)) ?_ | refine L_lss rfl rfl rfl rfl ?_
          refine RL_then ?_
          refine W_seq ?_
          refine W_if_false rfl ?_
          refine W_exit' ?_
          refine Ex_then_exit ?_
          refine Ex_loop_exit ?_
          refine Ex_block_hit ?_
          refine Nx_then ?_
          refine W_seq ?_
          refine W_region ?_
          refine L_move rfl rfl ?_
          refine L_assign rfl rfl ?_
          refine L_assign rfl rfl ?_
          refine RL_then ?_
          refine W_ret' ?_
          refine Ex_done2 rfl rfl rfl ?_
          obtain ⟨k9, hk9⟩ : ∃ k9 : Bok, k9 = ⟨k.B, k.mb, k.r, u.os, u.ck, u.next, time⟩ := ⟨_, rfl⟩
          have hs9 : HS w0 w (((b152, Row 3 (il u.told)) :: k9.bks) ++ Z4) := by rw [hk9, ek]; exact hs
          have hs8 : HS w0 w (((b52, Row 97 (pqs ps)) :: (Mi ++ Nm)) ++ (k9.bks ++ L ++ [(b152, Row 3 (il u.told))])) := by rw [hZ4] at hs9; exact HS.re hs9 (fun c => by simp only [List.map_append, List.map_cons, List.map_nil, List.sum_append, List.sum_cons, List.sum_nil]; omega)
          have hs7 := HS.dropL hs8 (Own.cons hb52 (hbi.own.app hbm.own))
          refine ⟨_, rfl, .inr ⟨rfl, k9, _, _, u.told, done, ps, ms, hit, rfl, hs7, ?_, hul, by rw [hk9]; exact huk, ?_⟩⟩
          ·
           have := Bl.row (w0 := w0) (E := 3) (sz := 1) (g := b152) (n := n) (cap := n) (xs := il u.told) (sp := []) hb152 (by rw [il_length]; omega) (by rw [List.append_nil, il_length]; omega) (Nat.le_refl _)
           rw [List.append_nil] at this
           exact this
          ·
           refine ⟨by rw [hk9], by rw [hk9], by rw [hk9], by rw [hk9], ?_, hps, ⟨cnt, tt, hans⟩, by omega, hhi, ?_⟩
           ·
            have e : k2.os = k.os.filter aliveB := by rw [hk2]; exact hos1
            rw [← e]; exact hah
           ·
            rw [hn, ← htl, hk9]
            exact hnt
 ·
  refine L_assign rfl rfl ?_
  refine RL_then ?_
  refine W_seq ?_
  refine W_region ?_
  refine L_move rfl rfl ?_
  first | refine L_neq rfl rfl rfl (dtrue (by omega)) ?_ | refine L_neq rfl rfl rfl (dfalse (by omega)) ?_ | refine L_neq rfl rfl rfl rfl ?_
  refine RL_then ?_
  refine W_if_true rfl ?_
  refine W_seq ?_
  refine W_region ?_
  refine L_move rfl rfl ?_
  refine L_assign rfl rfl ?_
  refine L_assign rfl rfl ?_
  refine RL_then ?_
  refine W_ret' ?_
  refine Ex_then_ret ?_
  refine Ex_done2 rfl rfl rfl ?_
  exact ⟨_, rfl, .inl ⟨he, rfl, hs⟩⟩
end Go.Proofs.Ytdllakfojligjaa
