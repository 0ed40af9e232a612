/-
  A part of the proof: what functions that the statement reaches do, or a plain law on what they do. Each theorem holds under its own premises alone.
-/
import Derived.Test.YtdllakfojligjaaTCG4
namespace Go.Proofs.Ytdllakfojligjaa
open Go Go.Lk Go.Pr
structure InR (n : Nat) (l : List Int) : Prop where
 len : l.length = n
 rng : ∀ k, k < n → 0 ≤ gi l k ∧ gi l k < n
theorem InR.nat {n : Nat} {l : List Int} (h : InR n l) {k : Nat} (hk : k < n) : l.getD k 0 = ((toN l k : Nat) : Int) ∧ toN l k < n := by
 have h1 : 0 ≤ l.getD k 0 ∧ l.getD k 0 < n := h.rng k hk
 unfold toN
 exact ⟨by show l.getD k 0 = (((l.getD k 0).toNat : Nat) : Int); omega, by show (l.getD k 0).toNat < n; omega⟩
theorem InR.set {n : Nat} {l : List Int} (h : InR n l) {k x : Nat} (hk : k < n) (hx : x < n) : InR n (l.set k x) ∧ toN (l.set k x) k = x ∧ ∀ c, c ≠ k → toN (l.set k x) c = toN l c := by
 have hl := h.len
 have e : ∀ c, gi (l.set k (x : Int)) c = if c = k then (x : Int) else gi l c := fun c => by rw [gi, gset (by omega)]
 refine ⟨⟨by simp [hl], fun c hc => ?_⟩, ?_, fun c hc => ?_⟩
 ·
  rw [e]; split
  ·
   omega
  ·
   exact h.rng c hc
 ·
  rw [toN, e, if_pos rfl, Int.toNat_natCast]
 ·
  rw [toN, e, if_neg hc]
/-- What 'turned' answers. -/
def Turned (B c u v o h n : Nat) (C U V of has : List Int) (i j : Nat) (w0 : World) (r : Value) (w' : World) : Prop :=
 (r = .bool false ∧ HS w0 w' (GameL B c u v o h n C U V of has) ∧ ∀ M, TB n (cf n C) (gi U) (gi V) M → (∀ q, q < i → M q = toN has q) → M i ≠ j) ∨
 (r = .bool true ∧ ∃ of' has', HS w0 w' (GameL B c u v o h n C U V of' has') ∧ InR n of' ∧ InR n has' ∧ Pf n (cf n C) (gi U) (gi V) (toN of') (toN has') ∧ (∀ q, q < i → toN has' q = toN has q) ∧ toN has' i = j)
set_option maxHeartbeats 4000000 in
theorem turned_ok (B c u v o h n : Nat) (C U V of has : List Int) (i j : Nat) (w0 : World) (hC : CostOk n C) (h1 : 1 ≤ n) (h2 : n ≤ 512) (hUl : U.length = n) (hVl : V.length = n) (hof : InR n of) (hhas : InR n has)
  (hbU : ∀ r, r < n → 0 ≤ gi U r ∧ gi U r ≤ BB) (hbV : ∀ j, j < n → -BB ≤ gi V j ∧ gi V j ≤ 0) (hPf : Pf n (cf n C) (gi U) (gi V) (toN of) (toN has)) (hi : i < n) (hj : j < n) (hji : j < toN has i) (htj : cf n C i j = gi U i + gi V j)
  (hG : HS w0 w0 (GameL B c u v o h n C U V of has)) :
  Ret Try.prog 78 [.pointer (some ⟨B, 0, none⟩), .int .i64 i, .int .i64 j] w0 (Turned B c u v o h n C U V of has i j w0) := by
 have hs := hG
 have hCl := hC.len
 have hol := hof.len
 have hhl := hhas.len
 obtain ⟨hgoe, hgon⟩ := hhas.nat hi
 obtain ⟨goal, hgo⟩ : ∃ goal, goal = toN has i := ⟨_, rfl⟩
 rw [← hgo] at hgoe hgon hji
 refine calls_of_W Try.func78 rfl rfl rfl ?_
 refine W_seq ?_
 refine W_region ?_
 refine L_assign rfl rfl ?_
 refine RL_then ?_
 refine W_scope ?_
 refine W_seq ?_
 refine W_region ?_
 refine L_move rfl rfl ?_
 refine L_nilCheck rfl rfl ?_
 refine L_fieldAddr rfl (off := 0) Try.underlying116 rfl rfl Try.ti3 rfl ?_
 refine L_load rfl Try.one3 rfl (by first | exact hs.cellA (i := 5) rfl rfl | exact hs.cellA (i := 4) rfl (il_get (by omega)) | exact hs.cellA (i := 3) rfl (il_get (by omega)) | exact hs.cellA (i := 1) rfl (il_get (by omega)) | exact hs.cellA (i := 2) rfl (il_get (by omega)) | exact hs.cellA (i := 6) rfl (il_get (by omega))) ?_
 refine L_make1 rfl hs Try.underlying31 Try.ti3 rfl rfl (by with_reducible first | exact natc_k _ | exact natc_a1 _ | exact natc_0 | exact natc_1 | exact natc_2 | exact natc_s1 _ (by omega) | exact natc_a2 _ | exact natc_add _ _ | exact natc_mul _ _ | exact natc (by omega)) (by with_reducible first | exact natc_k _ | exact natc_a1 _ | exact natc_0 | exact natc_1 | exact natc_2 | exact natc_s1 _ (by omega) | exact natc_a2 _ | exact natc_add _ _ | exact natc_mul _ _ | exact natc (by omega)) (by omega) (by omega) (by omega) rfl ?_
 intro b21 w hb21 hnb21 hs
 try dsimp only [List.set_cons_succ, List.set_cons_zero, List.cons_append, List.nil_append] at hs
 refine L_assign rfl rfl ?_
 refine RL_then ?_
 refine W_seq ?_
 refine W_seq ?_
 refine W_region ?_
 refine L_move rfl rfl ?_
 refine L_len rfl Try.underlying31 rfl ?_
 refine L_move rfl rfl ?_
 refine RL_then ?_
 refine W_block ?_
 rw [il_rep] at hs
 obtain ⟨gf, hgf, hgfo⟩ : ∃ gf, gf = b21 ∧ w0.heap.size ≤ gf := ⟨_, rfl, hb21⟩
 rw [← hgf] at hs ⊢
 clear hgf hb21 hnb21
 refine W_loop3 (fun (k : Nat) (frm : List Int) (w : World) => [(0, .pointer (some ⟨B, 0, none⟩)), (1, .int .i64 i), (2, .int .i64 j), (7, SlN gf n), (23, .int .i64 n), (24, .int .i64 k)]) (fun (k : Nat) (frm : List Int) (w : World) => w) (fun (k : Nat) (frm : List Int) (w : World) => (k ≤ n) ∧ (frm.length = n) ∧ (∀ q, q < k → gi frm q = -1) ∧ (HS w0 w (GameL B c u v o h n C U V of has ++ [(gf, Row 3 (il frm))]))) (fun (k : Nat) (frm : List Int) (w : World) => n - k) (0) (List.replicate n 0) (w) (is := [0, 1, 2, 7, 23, 24]) rfl rfl ?_ ?_
 ·
  exact ⟨Nat.zero_le _, by simp, fun _ h => absurd h (Nat.not_lt_zero _), hs⟩
 ·
  clear hs hG
  intro k frm w hI
  show W _ _ _ _ [(0, .pointer (some ⟨B, 0, none⟩)), (1, .int .i64 i), (2, .int .i64 j), (7, SlN gf n), (23, .int .i64 n), (24, .int .i64 k)] w
  obtain ⟨hk, hfl, hf1, hs⟩ := hI
  replace hs : HS w0 w [(c, Row 2 (il C)), (u, Row 2 (il U)), (v, Row 2 (il V)), (o, Row 3 (il of)), (h, Row 3 (il has)), (B, Row 116 (GameR n c u v o h)), (gf, Row 3 (il frm))] := hs
  by_cases hlt : k < n
  ·
   skip
   refine W_seq ?_
   refine W_region ?_
   first | refine L_lss rfl rfl rfl (dtrue (by omega)) ?_ | refine L_lss rfl rfl rfl (dfalse (by omega)) ?_ | refine L_lss rfl rfl rfl rfl ?_
   refine RL_then ?_
   refine W_seq ?_
   refine W_if_true rfl ?_
   refine W_skip' ?_
   refine Nx_then ?_
   refine W_seq ?_
   refine W_block ?_
   refine W_seq ?_
   refine W_region ?_
   refine L_move rfl rfl ?_
   refine L_assign rfl rfl ?_
   refine RL_then ?_
   refine W_region ?_
   refine L_move rfl rfl ?_
   refine L_move rfl rfl ?_
   refine L_idx1 rfl Try.underlying31 Try.ti3 rfl rfl (by with_reducible first | exact natc_k _ | exact natc_a1 _ | exact natc_0 | exact natc_1 | exact natc_2 | exact natc_s1 _ (by omega) | exact natc_a2 _ | exact natc_add _ _ | exact natc_mul _ _ | exact natc (by omega)) (by omega) rfl ?_
   refine L_store hs (i := 6) rfl Try.ti3 rfl rfl (by first | rfl | exact add_lit0 _ _ | exact Addr.add_lit .. | (rw [add_add]; exact add_lit0 _ _)) (by first | omega | (simp; done) | (simp; omega)) rfl ?_
   intro w hs
   try dsimp only [List.set_cons_succ, List.set_cons_zero, List.cons_append, List.nil_append] at hs
   refine RL_nil' ?_
   refine Nx_block ?_
   refine Nx_then ?_
   refine W_region ?_
   first | refine L_add rfl rfl rfl (wrp_i64 (by omega)) ?_ | refine L_add rfl rfl rfl rfl ?_
   refine L_move rfl rfl ?_
   refine RL_nil' ?_
   rw [il_set] at hs
   refine Nx_loopP (k + 1, frm.set k (-1), w) (is := [0, 1, 2, 7, 23, 24]) (I' := (fun (k : Nat) (frm : List Int) (w : World) => (k ≤ n) ∧ (frm.length = n) ∧ (∀ q, q < k → gi frm q = -1) ∧ (HS w0 w (GameL B c u v o h n C U V of has ++ [(gf, Row 3 (il frm))]))) (k + 1) (frm.set k (-1)) (w)) rfl rfl rfl ?_ ?_
   ·
    refine ⟨by omega, by simp [hfl], fun q hq => ?_, hs⟩
    rw [gi, gset (by omega)]
    split
    ·
     rfl
    ·
     exact hf1 q (by omega)
   ·
    omega
  ·
   skip
   obtain rfl : n = k := by omega
   refine W_seq ?_
   refine W_region ?_
   first | refine L_lss rfl rfl rfl (dtrue (by omega)) ?_ | refine L_lss rfl rfl rfl (dfalse (by omega)) ?_ | refine L_lss rfl rfl rfl rfl ?_
   refine RL_then ?_
   refine W_seq ?_
   refine W_if_false rfl ?_
   refine W_exit' ?_
   refine Ex_then_exit ?_
   refine Ex_loop_exit ?_
   refine Ex_block_hit ?_
   refine Nx_then ?_
   refine W_seq ?_
   refine W_region ?_
   refine L_move rfl rfl ?_
   refine L_nilCheck rfl rfl ?_
   refine L_fieldAddr rfl (off := 5) Try.underlying116 rfl rfl Try.ti31 rfl ?_
   refine L_load rfl Try.one31 rfl (by first | exact hs.cellA (i := 5) rfl rfl | exact hs.cellA (i := 4) rfl (il_get (by omega)) | exact hs.cellA (i := 3) rfl (il_get (by omega)) | exact hs.cellA (i := 1) rfl (il_get (by omega)) | exact hs.cellA (i := 2) rfl (il_get (by omega)) | exact hs.cellA (i := 6) rfl (il_get (by omega))) ?_
   refine L_move rfl rfl ?_
   refine L_idx1 rfl Try.underlying31 Try.ti3 rfl rfl (by with_reducible first | exact natc_k _ | exact natc_a1 _ | exact natc_0 | exact natc_1 | exact natc_2 | exact natc_s1 _ (by omega) | exact natc_a2 _ | exact natc_add _ _ | exact natc_mul _ _ | exact natc (by omega)) (by omega) rfl ?_
   refine L_load rfl Try.one3 rfl (hs.cellA (i := 4) rfl (il_get (by omega))) ?_
   rw [hgoe]
   refine L_assign rfl rfl ?_
   refine RL_then ?_
   refine W_seq ?_
   refine W_region ?_
   refine L_move rfl rfl ?_
   refine L_buildSlice rfl hs Try.underlying31 Try.ti3 rfl (by decide) rfl (by simp [Value.cells]) ?_
   intro b39 w hb39 hnb39 hs
   try simp only [List.flatMap_cons, List.flatMap_nil, cells_int, cells_float, cells_complex, cells_bool, cells_string, cells_pointer, cells_slice, cells_map, cells_agg, List.append_nil, List.set_cons_succ, List.set_cons_zero, List.cons_append, List.nil_append] at hs
   refine L_assign rfl rfl ?_
   refine RL_then ?_
   refine W_seq ?_
   refine W_region ?_
   refine L_move rfl rfl ?_
   refine L_move rfl rfl ?_
   refine L_move rfl rfl ?_
   refine L_idx1 rfl Try.underlying31 Try.ti3 rfl rfl (by with_reducible first | exact natc_k _ | exact natc_a1 _ | exact natc_0 | exact natc_1 | exact natc_2 | exact natc_s1 _ (by omega) | exact natc_a2 _ | exact natc_add _ _ | exact natc_mul _ _ | exact natc (by omega)) (by omega) rfl ?_
   refine L_store hs (i := 6) rfl Try.ti3 rfl rfl (by first | rfl | exact add_lit0 _ _ | exact Addr.add_lit .. | (rw [add_add]; exact add_lit0 _ _)) (by first | omega | (simp; done) | (simp; omega)) rfl ?_
   intro w hs
   try dsimp only [List.set_cons_succ, List.set_cons_zero, List.cons_append, List.nil_append] at hs
   refine RL_then ?_
   refine W_seq ?_
   refine W_label' ?_
   refine Nx_then ?_
   refine W_seq ?_
   rw [il_set] at hs
   obtain ⟨gq, hgq, hgqo⟩ : ∃ gq, gq = b39 ∧ w0.heap.size ≤ gq := ⟨_, rfl, hb39⟩
   rw [← hgq] at hs ⊢
   clear hgq hb39 hnb39
   have hBf : Bf n (cf n C) (gi U) (gi V) i j (toN of) (gi (frm.set j j)) (fun _ => 0) 1 := by
    have e : ∀ q, gi (frm.set j (j : Int)) q = if q = j then (j : Int) else gi frm q := fun q => by rw [gi, gset (by omega)]
    refine ⟨by rw [e, if_pos rfl], fun q hq => ?_, fun q hq h0 hqj => ?_, fun q hq h0 => by omega⟩
    ·
     rw [e]; split
     ·
      omega
     ·
      exact .inl (hf1 q hq)
    ·
     rw [e, if_neg hqj, hf1 q hq] at h0; omega
   have hfg0 : gi (frm.set j (j : Int)) goal = -1 := by rw [gi, gset (by omega), if_neg (by omega)]; exact hf1 goal hgon
   have hcl0 : ∀ q, q < n → 0 ≤ gi (frm.set j (j : Int)) q → (q : Int) ∈ [(j : Int)] := fun q hq h0 => by
    rw [gi, gset (by omega)] at h0
    by_cases hqj : q = j
    ·
     simp [hqj]
    ·
     rw [if_neg hqj] at h0; have := hf1 q hq; simp only [gi] at this; omega
   refine W_cut2 (fun (frm : List Int) (w : World) => [(0, .pointer (some ⟨B, 0, none⟩)), (1, .int .i64 i), (2, .int .i64 j), (7, SlN gf n), (9, .int .i64 goal)]) (fun (frm : List Int) (w : World) => w) (fun (frm : List Int) (w : World) => (frm.length = n) ∧ (∃ pos t, Bf n (cf n C) (gi U) (gi V) i j (toN of) (gi frm) pos t) ∧ (gi frm goal = -1 → ∀ q, q < n → 0 ≤ gi frm q → i < toN of q → ∀ m, m < n → cf n C (toN of q) m = gi U (toN of q) + gi V m → 0 ≤ gi frm m) ∧ (HS w0 w [(c, Row 2 (il C)), (u, Row 2 (il U)), (v, Row 2 (il V)), (o, Row 3 (il of)), (h, Row 3 (il has)), (B, Row 116 (GameR n c u v o h)), (gf, Row 3 (il frm))])) ?_ ?_
   ·
    refine W_block ?_
    refine W_loop5 (fun (frm : List Int) (vw : Value) (xs : List Int) (M : List (Nat × Obj)) (w : World) => [(0, .pointer (some ⟨B, 0, none⟩)), (1, .int .i64 i), (2, .int .i64 j), (7, SlN gf n), (9, .int .i64 goal), (10, vw)]) (fun (frm : List Int) (vw : Value) (xs : List Int) (M : List (Nat × Obj)) (w : World) => w) (fun (frm : List Int) (vw : Value) (xs : List Int) (M : List (Nat × Obj)) (w : World) => (frm.length = n) ∧ (∃ pos t, Bf n (cf n C) (gi U) (gi V) i j (toN of) (gi frm) pos t) ∧ (gi frm goal = -1) ∧ (∀ x, x ∈ xs → ∃ q : Nat, x = (q : Int) ∧ q < n ∧ 0 ≤ gi frm q) ∧ (∀ q, q < n → 0 ≤ gi frm q → (q : Int) ∈ xs ∨ (i < toN of q → ∀ m, m < n → cf n C (toN of q) m = gi U (toN of q) + gi V m → 0 ≤ gi frm m)) ∧ (xs.length + frm.count (-1) ≤ n + 1) ∧ (Qu w0 3 vw xs M) ∧ (HS w0 w ([(c, Row 2 (il C)), (u, Row 2 (il U)), (v, Row 2 (il V)), (o, Row 3 (il of)), (h, Row 3 (il has)), (B, Row 116 (GameR n c u v o h)), (gf, Row 3 (il frm))] ++ M))) (fun (frm : List Int) (vw : Value) (xs : List Int) (M : List (Nat × Obj)) (w : World) => xs.length + frm.count (-1)) (frm.set j (j : Int)) (.slice (some ⟨gq, 0, none⟩) 1 1) ([(j : Int)]) ([(gq, Row 3 [.int .i64 j])]) (w) (is := [0, 1, 2, 7, 9, 10]) rfl rfl ?_ ?_
    ·
     refine ⟨by simp [hfl], ⟨_, _, hBf⟩, hfg0, fun x hx => ?_, fun q hq h0 => .inl (hcl0 q hq h0), ?_, ⟨gq, 0, 1, [], [], rfl, rfl, rfl, hgqo, by simp, by simp⟩, hs⟩
     ·
      rw [List.mem_singleton] at hx
      exact ⟨j, hx, hj, by rw [hBf.j0]; omega⟩
     ·
      have := List.count_le_length (a := (-1 : Int)) (l := frm.set j (j : Int))
      simp [hfl] at this ⊢; omega
    ·
     clear hs hBf hfg0 hcl0 hf1 hfl
     intro frm vw xs M w hI
     show W _ _ _ _ [(0, .pointer (some ⟨B, 0, none⟩)), (1, .int .i64 i), (2, .int .i64 j), (7, SlN gf n), (9, .int .i64 goal), (10, vw)] w
     obtain ⟨hfl, ⟨pos, t, hBf⟩, hfg, hxs, hcl, hcnt, hq, hs⟩ := hI
     cases xs
     ·
      obtain ⟨qa, qc, rfl⟩ := Qu.len hq
      refine W_seq ?_
      refine W_seq ?_
      refine W_region ?_
      refine L_move rfl rfl ?_
      refine L_len rfl Try.underlying31 rfl ?_
      first | refine L_gtr rfl rfl rfl (dtrue (by omega)) ?_ | refine L_gtr rfl rfl rfl (dfalse (by omega)) ?_ | refine L_gtr rfl rfl rfl rfl ?_
      refine RL_then ?_
      refine W_if_false rfl ?_
      refine W_exit' ?_
      refine Ex_then_exit ?_
      refine Ex_loop_exit ?_
      refine Ex_block_hit ?_
      refine Nx_cutP (frm, w) (is := [0, 1, 2, 7, 9]) (I' := (fun (frm : List Int) (w : World) => (frm.length = n) ∧ (∃ pos t, Bf n (cf n C) (gi U) (gi V) i j (toN of) (gi frm) pos t) ∧ (gi frm goal = -1 → ∀ q, q < n → 0 ≤ gi frm q → i < toN of q → ∀ m, m < n → cf n C (toN of q) m = gi U (toN of q) + gi V m → 0 ≤ gi frm m) ∧ (HS w0 w [(c, Row 2 (il C)), (u, Row 2 (il U)), (v, Row 2 (il V)), (o, Row 3 (il of)), (h, Row 3 (il has)), (B, Row 116 (GameR n c u v o h)), (gf, Row 3 (il frm))])) (frm) (w)) rfl rfl rfl ?_
      exact ⟨hfl, ⟨_, _, hBf⟩, fun _ q hq' h0 => (hcl q hq' h0).resolve_left (by simp), hs.dropR (Qu.own hq)⟩
     ·
      rename_i x rest
      obtain ⟨g, oo, cap, pre, sp, rfl, rfl, hp, hgo', hlc, hcs⟩ := hq
      obtain ⟨k0, rfl, hk0n, hk0f⟩ := hxs x (by simp)
      have hqn := Qu.pop (E := 3) hp hgo' hlc hcs
      obtain ⟨v1, hv1⟩ : ∃ v1, v1 = Value.slice (slA (some ⟨g, oo, none⟩) 1 cap 1) (((k0 : Int) :: rest).length - 1) (cap - 1) := ⟨_, rfl⟩
      rw [← hv1] at hqn
      have hlen : 0 < ((k0 : Int) :: rest).length := by simp
      obtain ⟨M1, hM1⟩ : ∃ M1, M1 = [(g, Row 3 (pre ++ il ((k0 : Int) :: rest) ++ sp))] := ⟨_, rfl⟩
      have hx0 : w.cell? ((Addr.mk g oo none).add 0) = some (.int .i64 k0) := by
       rw [Addr.add_lit, Nat.add_zero]
       exact hs.cell (i := 7) rfl (by rw [List.append_assoc, List.getElem?_append_right (by omega), hp, Nat.sub_self]; simp [il])
      rw [← hM1] at hs hqn
      obtain ⟨hofe, hofn⟩ := hof.nat hk0n
      refine W_seq ?_
      refine W_seq ?_
      refine W_region ?_
      refine L_move rfl rfl ?_
      refine L_len rfl Try.underlying31 rfl ?_
      first | refine L_gtr rfl rfl rfl (dtrue (by omega)) ?_ | refine L_gtr rfl rfl rfl (dfalse (by omega)) ?_ | refine L_gtr rfl rfl rfl rfl ?_
      refine RL_then ?_
      refine W_if_true rfl ?_
      refine W_skip' ?_
      refine Nx_then ?_
      refine W_block ?_
      refine W_seq ?_
      refine W_region ?_
      refine L_move rfl rfl ?_
      refine L_idx1 rfl Try.underlying31 Try.ti3 rfl rfl (by with_reducible first | exact natc_k _ | exact natc_a1 _ | exact natc_0 | exact natc_1 | exact natc_2 | exact natc_s1 _ (by omega) | exact natc_a2 _ | exact natc_add _ _ | exact natc_mul _ _ | exact natc (by omega)) (by omega) rfl ?_
      refine L_load rfl Try.one3 rfl (by first | exact hx0 | exact hs.cellA (i := 5) rfl rfl | exact hs.cellA (i := 3) rfl (il_get (by omega))) ?_
      refine L_assign rfl rfl ?_
      refine RL_then ?_
      refine W_seq ?_
      refine W_region ?_
      refine L_move rfl rfl ?_
      refine RL_val rfl (R_slice100 Try.underlying31 Try.ti3 rfl rfl (by with_reducible first | exact natc_k _ | exact natc_a1 _ | exact natc_0 | exact natc_1 | exact natc_2 | exact natc_s1 _ (by omega) | exact natc_a2 _ | exact natc_add _ _ | exact natc_mul _ _ | exact natc (by omega)) (by omega)) ?_
      refine L_assign rfl rfl ?_
      refine RL_then ?_
      refine W_seq ?_
      refine W_region ?_
      refine L_move rfl rfl ?_
      rw [← hv1]
      refine L_nilCheck rfl rfl ?_
      refine L_fieldAddr rfl (off := 4) Try.underlying116 rfl rfl Try.ti31 rfl ?_
      refine L_load rfl Try.one31 rfl (by first | exact hx0 | exact hs.cellA (i := 5) rfl rfl | exact hs.cellA (i := 3) rfl (il_get (by omega))) ?_
      refine L_move rfl rfl ?_
      refine L_idx1 rfl Try.underlying31 Try.ti3 rfl rfl (by with_reducible first | exact natc_k _ | exact natc_a1 _ | exact natc_0 | exact natc_1 | exact natc_2 | exact natc_s1 _ (by omega) | exact natc_a2 _ | exact natc_add _ _ | exact natc_mul _ _ | exact natc (by omega)) (by omega) rfl ?_
      refine L_load rfl Try.one3 rfl (by first | exact hx0 | exact hs.cellA (i := 5) rfl rfl | exact hs.cellA (i := 3) rfl (il_get (by omega))) ?_
      refine L_assign rfl rfl ?_
      refine RL_then ?_
      refine W_seq ?_
      refine W_seq ?_
      refine W_region ?_
      rw [hofe]
      have hcl1 : ∀ q, q < n → 0 ≤ gi frm q → (q : Int) ∈ rest ∨ q = k0 ∨ (i < toN of q → ∀ m, m < n → cf n C (toN of q) m = gi U (toN of q) + gi V m → 0 ≤ gi frm m) := fun q hq' h0 => by
       rcases hcl q hq' h0 with h5 | h5
       ·
        rcases List.mem_cons.1 h5 with h6 | h6
        ·
         exact .inr (.inl (by omega))
        ·
         exact .inl h6
       ·
        exact .inr (.inr h5)
      have hxs1 : ∀ x, x ∈ rest → ∃ q : Nat, x = (q : Int) ∧ q < n ∧ 0 ≤ gi frm q := fun x hx => hxs x (List.mem_cons_of_mem _ hx)
      have hcnt1 : rest.length + frm.count (-1) + 1 ≤ n + 1 := by simp only [List.length_cons] at hcnt; omega
      clear hcl hxs hcnt hx0 hv1 hM1 hlc hcs
      by_cases hri : toN of k0 ≤ i
      ·
       refine L_move rfl rfl ?_
       refine L_move rfl rfl ?_
       first | refine L_leq rfl rfl rfl (dtrue (by omega)) ?_ | refine L_leq rfl rfl rfl (dfalse (by omega)) ?_ | refine L_leq rfl rfl rfl rfl ?_
       refine RL_then ?_
       refine W_if_true rfl ?_
       refine W_exit' ?_
       refine Ex_then_exit ?_
       refine Ex_block_hit ?_
       refine Nx_loopP (frm, v1, rest, M1, w) (is := [0, 1, 2, 7, 9, 10]) (I' := (fun (frm : List Int) (vw : Value) (xs : List Int) (M : List (Nat × Obj)) (w : World) => (frm.length = n) ∧ (∃ pos t, Bf n (cf n C) (gi U) (gi V) i j (toN of) (gi frm) pos t) ∧ (gi frm goal = -1) ∧ (∀ x, x ∈ xs → ∃ q : Nat, x = (q : Int) ∧ q < n ∧ 0 ≤ gi frm q) ∧ (∀ q, q < n → 0 ≤ gi frm q → (q : Int) ∈ xs ∨ (i < toN of q → ∀ m, m < n → cf n C (toN of q) m = gi U (toN of q) + gi V m → 0 ≤ gi frm m)) ∧ (xs.length + frm.count (-1) ≤ n + 1) ∧ (Qu w0 3 vw xs M) ∧ (HS w0 w ([(c, Row 2 (il C)), (u, Row 2 (il U)), (v, Row 2 (il V)), (o, Row 3 (il of)), (h, Row 3 (il has)), (B, Row 116 (GameR n c u v o h)), (gf, Row 3 (il frm))] ++ M))) (frm) (v1) (rest) (M1) (w)) rfl rfl rfl ?_ ?_
       ·
        refine ⟨hfl, ⟨_, _, hBf⟩, hfg, hxs1, fun q hq' h0 => ?_, by omega, hqn, hs⟩
        rcases hcl1 q hq' h0 with h5 | h5 | h5
        ·
         exact .inl h5
        ·
         rw [h5]; exact .inr fun h6 => absurd h6 (by omega)
        ·
         exact .inr h5
       ·
        simp only [List.length_cons]; omega
      ·
       obtain ⟨r, hr⟩ : ∃ r, r = toN of k0 := ⟨_, rfl⟩
       rw [← hr] at hofn hri hofe ⊢
       have hBox : w.heap[B]? = some (Row 116 (GameR n c u v o h)) := hs.has (B, _) (by simp)
       refine L_move rfl rfl ?_
       refine L_move rfl rfl ?_
       first | refine L_leq rfl rfl rfl (dtrue (by omega)) ?_ | refine L_leq rfl rfl rfl (dfalse (by omega)) ?_ | refine L_leq rfl rfl rfl rfl ?_
       refine RL_then ?_
       refine W_if_false rfl ?_
       refine W_skip' ?_
       refine Nx_then ?_
       refine W_seq ?_
       refine W_region ?_
       refine L_move rfl rfl ?_
       refine L_move rfl rfl ?_
       refine L_call rfl Try.fun58 rfl (row_ok B c u v o h n r w hBox h1 h2 hofn) ?_
       rintro _ w' ⟨rfl, hs'⟩
       replace hs := hs.nil hs'
       clear hs' hBox
       obtain ⟨cn0, hcn0⟩ : ∃ cn0, cn0 = rest.length + frm.count (-1) := ⟨_, rfl⟩
       rw [← hcn0] at hcnt1
       refine L_len rfl Try.underlying69 rfl ?_
       refine L_move rfl rfl ?_
       refine RL_then ?_
       refine W_block ?_
       refine W_loop6 (fun (m : Nat) (frm' : List Int) (vw : Value) (xs : List Int) (M : List (Nat × Obj)) (w : World) => [(0, .pointer (some ⟨B, 0, none⟩)), (1, .int .i64 i), (2, .int .i64 j), (7, SlN gf n), (9, .int .i64 goal), (10, vw), (11, .int .i64 k0), (12, .int .i64 r), (64, .slice (some ⟨c, r * n, none⟩) n n), (65, .int .i64 n), (66, .int .i64 m)]) (fun (m : Nat) (frm' : List Int) (vw : Value) (xs : List Int) (M : List (Nat × Obj)) (w : World) => w) (fun (m : Nat) (frm' : List Int) (vw : Value) (xs : List Int) (M : List (Nat × Obj)) (w : World) => (m ≤ n) ∧ (frm'.length = n) ∧ (∃ pos t, Bf n (cf n C) (gi U) (gi V) i j (toN of) (gi frm') pos t) ∧ (gi frm' goal = -1) ∧ (∀ x, x ∈ xs → ∃ q : Nat, x = (q : Int) ∧ q < n ∧ 0 ≤ gi frm' q) ∧ (∀ q, q < n → 0 ≤ gi frm' q → (q : Int) ∈ xs ∨ q = k0 ∨ (i < toN of q → ∀ m, m < n → cf n C (toN of q) m = gi U (toN of q) + gi V m → 0 ≤ gi frm' m)) ∧ (∀ q, q < m → cf n C r q = gi U r + gi V q → 0 ≤ gi frm' q) ∧ (0 ≤ gi frm' k0) ∧ (xs.length + frm'.count (-1) ≤ cn0) ∧ (Qu w0 3 vw xs M) ∧ (HS w0 w ([(c, Row 2 (il C)), (u, Row 2 (il U)), (v, Row 2 (il V)), (o, Row 3 (il of)), (h, Row 3 (il has)), (B, Row 116 (GameR n c u v o h)), (gf, Row 3 (il frm'))] ++ M))) (fun (m : Nat) (frm' : List Int) (vw : Value) (xs : List Int) (M : List (Nat × Obj)) (w : World) => n - m) (0) (frm) (v1) (rest) (M1) (w') (is := [0, 1, 2, 7, 9, 10, 11, 12, 64, 65, 66]) rfl rfl ?_ ?_
       ·
        exact ⟨Nat.zero_le _, hfl, ⟨_, _, hBf⟩, hfg, hxs1, hcl1, fun _ h => absurd h (Nat.not_lt_zero _), hk0f, by omega, hqn, hs⟩
       ·
        clear hs hqn hxs1 hcl1 hBf hfg hk0f hfl
        intro m frm' vw xs M w hI
        show W _ _ _ _ [(0, .pointer (some ⟨B, 0, none⟩)), (1, .int .i64 i), (2, .int .i64 j), (7, SlN gf n), (9, .int .i64 goal), (10, vw), (11, .int .i64 k0), (12, .int .i64 r), (64, .slice (some ⟨c, r * n, none⟩) n n), (65, .int .i64 n), (66, .int .i64 m)] w
        obtain ⟨hm, hfl, ⟨pos, t, hBf⟩, hfg, hxs, hcl, hmt, hk0f, hcnt, hqn, hs⟩ := hI
        by_cases hmn : m < n
        ·
         have hjc := idx_lt hofn hmn
         have hcr : 0 ≤ C.getD (r * n + m) 0 ∧ C.getD (r * n + m) 0 ≤ 4503599627370496 := hC.rng r m hofn hmn
         have hUr : 0 ≤ U.getD r 0 ∧ U.getD r 0 ≤ 4503599627370496 := hbU r hofn
         have hVj : -4503599627370496 ≤ V.getD m 0 ∧ V.getD m 0 ≤ 0 := hbV m hmn
         by_cases hfm : 0 ≤ frm'.getD m 0
         ·
          refine W_seq ?_
          refine W_region ?_
          first | refine L_lss rfl rfl rfl (dtrue (by omega)) ?_ | refine L_lss rfl rfl rfl (dfalse (by omega)) ?_ | refine L_lss rfl rfl rfl rfl ?_
          refine RL_then ?_
          refine W_seq ?_
          refine W_if_true rfl ?_
          refine W_skip' ?_
          refine Nx_then ?_
          refine W_seq ?_
          refine W_block ?_
          refine W_seq ?_
          refine W_region ?_
          refine L_move rfl rfl ?_
          refine L_idx1 rfl Try.underlying69 Try.ti2 rfl rfl (by with_reducible first | exact natc_k _ | exact natc_a1 _ | exact natc_0 | exact natc_1 | exact natc_2 | exact natc_s1 _ (by omega) | exact natc_a2 _ | exact natc_add _ _ | exact natc_mul _ _ | exact natc (by omega)) (by omega) rfl ?_
          refine L_load rfl Try.one2 rfl (by first | exact hs.cellA (i := 5) rfl rfl | exact hs.cellA (i := 1) rfl (il_get (by omega)) | exact hs.cellA (i := 2) rfl (il_get (by omega)) | exact hs.cellA (i := 6) rfl (il_get (by omega)) | (rw [Addr.add_lit]; exact hs.cell (i := 0) rfl (il_get (by omega)))) ?_
          refine L_assign rfl rfl ?_
          refine L_assign rfl rfl ?_
          refine RL_then ?_
          refine W_seq ?_
          refine W_seq ?_
          refine W_pht [0, 1, 2] [3, 4, 5, 6, 7, 8, 9, 10, 11, 12, 13, 14, 15, 16, 17, 18, 19, 20, 21, 22, 23] [] (fun _ _ _ => False) Try.mixed (by kernel_rfl) (fun _ _ _ _ _ h => h) hs ?_
          refine PL_val rfl (fun w => R_move rfl) ?_
          refine PL_val rfl (fun w => R_move rfl) ?_
          refine PL_val rfl (fun w => R_idx1 Try.underlying31 Try.ti3 rfl rfl (by with_reducible first | exact natc_k _ | exact natc_a1 _ | exact natc_0 | exact natc_1 | exact natc_2 | exact natc_s1 _ (by omega) | exact natc_a2 _ | exact natc_add _ _ | exact natc_mul _ _ | exact natc (by omega)) (by omega) rfl) ?_
          refine PL_end ?_
          refine HL_val rfl (fun w hs => R_load Try.one3 rfl (by first | exact hs.cellA (i := 5) rfl rfl | exact hs.cellA (i := 1) rfl (il_get (by omega)) | exact hs.cellA (i := 2) rfl (il_get (by omega)) | exact hs.cellA (i := 6) rfl (il_get (by omega)) | (rw [Addr.add_lit]; exact hs.cell (i := 0) rfl (il_get (by omega))))) ?_
          first | refine HL_val rfl (fun w hs => R_geq rfl rfl (dtrue (by omega))) ?_ | refine HL_val rfl (fun w hs => R_geq rfl rfl (dfalse (by omega))) ?_ | refine HL_val rfl (fun w hs => R_geq rfl rfl rfl) ?_
          refine HL_val rfl (fun w hs => R_move rfl) ?_
          first | (refine HL_want rfl rfl ?_; refine HL_val rfl (fun w hs => R_move rfl) ?_) | refine HL_skip rfl rfl rfl rfl ?_ | refine HL_skipU rfl rfl rfl ?_
          first | (refine HL_want rfl rfl ?_; refine HL_val rfl (fun w hs => R_move rfl) ?_) | refine HL_skip rfl rfl rfl rfl ?_ | refine HL_skipU rfl rfl rfl ?_
          first | (refine HL_want rfl rfl ?_; refine HL_val rfl (fun w hs => R_nilCheck rfl) ?_) | refine HL_skip rfl rfl rfl rfl ?_ | refine HL_skipU rfl rfl rfl ?_
          first | (refine HL_want rfl rfl ?_; refine HL_val rfl (fun w hs => R_fieldAddr (off := 2) Try.underlying116 rfl rfl Try.ti69 rfl) ?_) | refine HL_skip rfl rfl rfl rfl ?_ | refine HL_skipU rfl rfl rfl ?_
          first | (refine HL_want rfl rfl ?_; refine HL_val rfl (fun w hs => R_load Try.one69 rfl (by first | exact hs.cellA (i := 5) rfl rfl | exact hs.cellA (i := 1) rfl (il_get (by omega)) | exact hs.cellA (i := 2) rfl (il_get (by omega)) | exact hs.cellA (i := 6) rfl (il_get (by omega)) | (rw [Addr.add_lit]; exact hs.cell (i := 0) rfl (il_get (by omega))))) ?_) | refine HL_skip rfl rfl rfl rfl ?_ | refine HL_skipU rfl rfl rfl ?_
          first | (refine HL_want rfl rfl ?_; refine HL_val rfl (fun w hs => R_move rfl) ?_) | refine HL_skip rfl rfl rfl rfl ?_ | refine HL_skipU rfl rfl rfl ?_
          first | (refine HL_want rfl rfl ?_; refine HL_val rfl (fun w hs => R_idx1 Try.underlying69 Try.ti2 rfl rfl (by with_reducible first | exact natc_k _ | exact natc_a1 _ | exact natc_0 | exact natc_1 | exact natc_2 | exact natc_s1 _ (by omega) | exact natc_a2 _ | exact natc_add _ _ | exact natc_mul _ _ | exact natc (by omega)) (by omega) rfl) ?_) | refine HL_skip rfl rfl rfl rfl ?_ | refine HL_skipU rfl rfl rfl ?_
          first | (refine HL_want rfl rfl ?_; refine HL_val rfl (fun w hs => R_load Try.one2 rfl (by first | exact hs.cellA (i := 5) rfl rfl | exact hs.cellA (i := 1) rfl (il_get (by omega)) | exact hs.cellA (i := 2) rfl (il_get (by omega)) | exact hs.cellA (i := 6) rfl (il_get (by omega)) | (rw [Addr.add_lit]; exact hs.cell (i := 0) rfl (il_get (by omega))))) ?_) | refine HL_skip rfl rfl rfl rfl ?_ | refine HL_skipU rfl rfl rfl ?_
          first | (refine HL_want rfl rfl ?_; refine HL_val rfl (fun w hs => R_move rfl) ?_) | refine HL_skip rfl rfl rfl rfl ?_ | refine HL_skipU rfl rfl rfl ?_
          first | (refine HL_want rfl rfl ?_; refine HL_val rfl (fun w hs => R_nilCheck rfl) ?_) | refine HL_skip rfl rfl rfl rfl ?_ | refine HL_skipU rfl rfl rfl ?_
          first | (refine HL_want rfl rfl ?_; refine HL_val rfl (fun w hs => R_fieldAddr (off := 3) Try.underlying116 rfl rfl Try.ti69 rfl) ?_) | refine HL_skip rfl rfl rfl rfl ?_ | refine HL_skipU rfl rfl rfl ?_
          first | (refine HL_want rfl rfl ?_; refine HL_val rfl (fun w hs => R_load Try.one69 rfl (by first | exact hs.cellA (i := 5) rfl rfl | exact hs.cellA (i := 1) rfl (il_get (by omega)) | exact hs.cellA (i := 2) rfl (il_get (by omega)) | exact hs.cellA (i := 6) rfl (il_get (by omega)) | (rw [Addr.add_lit]; exact hs.cell (i := 0) rfl (il_get (by omega))))) ?_) | refine HL_skip rfl rfl rfl rfl ?_ | refine HL_skipU rfl rfl rfl ?_
          first | (refine HL_want rfl rfl ?_; refine HL_val rfl (fun w hs => R_move rfl) ?_) | refine HL_skip rfl rfl rfl rfl ?_ | refine HL_skipU rfl rfl rfl ?_
          first | (refine HL_want rfl rfl ?_; refine HL_val rfl (fun w hs => R_idx1 Try.underlying69 Try.ti2 rfl rfl (by with_reducible first | exact natc_k _ | exact natc_a1 _ | exact natc_0 | exact natc_1 | exact natc_2 | exact natc_s1 _ (by omega) | exact natc_a2 _ | exact natc_add _ _ | exact natc_mul _ _ | exact natc (by omega)) (by omega) rfl) ?_) | refine HL_skip rfl rfl rfl rfl ?_ | refine HL_skipU rfl rfl rfl ?_
          first | (refine HL_want rfl rfl ?_; refine HL_val rfl (fun w hs => R_load Try.one2 rfl (by first | exact hs.cellA (i := 5) rfl rfl | exact hs.cellA (i := 1) rfl (il_get (by omega)) | exact hs.cellA (i := 2) rfl (il_get (by omega)) | exact hs.cellA (i := 6) rfl (il_get (by omega)) | (rw [Addr.add_lit]; exact hs.cell (i := 0) rfl (il_get (by omega))))) ?_) | refine HL_skip rfl rfl rfl rfl ?_ | refine HL_skipU rfl rfl rfl ?_
          first | (refine HL_want rfl rfl ?_; (first | refine HL_val rfl (fun w hs => R_add rfl rfl (wrp_i64 (by omega))) ?_ | refine HL_val rfl (fun w hs => R_add rfl rfl rfl) ?_)) | refine HL_skip rfl rfl rfl rfl ?_ | refine HL_skipU rfl rfl rfl ?_
          first | (refine HL_want rfl rfl ?_; (first | refine HL_val rfl (fun w hs => R_neq rfl rfl (dtrue (by omega))) ?_ | refine HL_val rfl (fun w hs => R_neq rfl rfl (dfalse (by omega))) ?_ | refine HL_val rfl (fun w hs => R_neq rfl rfl rfl) ?_)) | refine HL_skip rfl rfl rfl rfl ?_ | refine HL_skipU rfl rfl rfl ?_
          first | refine HL_val rfl (fun w hs => R_pick_t rfl rfl) ?_ | refine HL_val rfl (fun w hs => R_pick_f rfl rfl) ?_
          refine HL_tail ?_
          intro w hs
          refine RL_then ?_
          refine W_if_true rfl ?_
          refine W_exit' ?_
          refine Ex_then_exit ?_
          refine Ex_block_hit ?_
          refine Nx_then ?_
          refine W_region ?_
          first | refine L_add rfl rfl rfl (wrp_i64 (by omega)) ?_ | refine L_add rfl rfl rfl rfl ?_
          refine L_move rfl rfl ?_
          refine RL_nil' ?_
          refine Nx_loopP (m + 1, frm', vw, xs, M, _) (is := [0, 1, 2, 7, 9, 10, 11, 12, 64, 65, 66]) (I' := (fun (m : Nat) (frm' : List Int) (vw : Value) (xs : List Int) (M : List (Nat × Obj)) (w : World) => (m ≤ n) ∧ (frm'.length = n) ∧ (∃ pos t, Bf n (cf n C) (gi U) (gi V) i j (toN of) (gi frm') pos t) ∧ (gi frm' goal = -1) ∧ (∀ x, x ∈ xs → ∃ q : Nat, x = (q : Int) ∧ q < n ∧ 0 ≤ gi frm' q) ∧ (∀ q, q < n → 0 ≤ gi frm' q → (q : Int) ∈ xs ∨ q = k0 ∨ (i < toN of q → ∀ m, m < n → cf n C (toN of q) m = gi U (toN of q) + gi V m → 0 ≤ gi frm' m)) ∧ (∀ q, q < m → cf n C r q = gi U r + gi V q → 0 ≤ gi frm' q) ∧ (0 ≤ gi frm' k0) ∧ (xs.length + frm'.count (-1) ≤ cn0) ∧ (Qu w0 3 vw xs M) ∧ (HS w0 w ([(c, Row 2 (il C)), (u, Row 2 (il U)), (v, Row 2 (il V)), (o, Row 3 (il of)), (h, Row 3 (il has)), (B, Row 116 (GameR n c u v o h)), (gf, Row 3 (il frm'))] ++ M))) (m + 1) (frm') (vw) (xs) (M) (_)) rfl rfl rfl ?_ ?_
          ·
           refine ⟨by omega, hfl, ⟨_, _, hBf⟩, hfg, hxs, hcl, fun q hq' h0 => ?_, hk0f, hcnt, hqn, hs⟩
           by_cases hqm : q = m
           ·
            rw [hqm]; exact hfm
           ·
            exact hmt q (by omega) h0
          ·
           omega
         ·
          have hfm1 : gi frm' m = -1 := by
           rcases hBf.rng m hmn with h5 | h5
           ·
            exact h5
           ·
            exact absurd h5.1 hfm
          by_cases htt : C.getD (r * n + m) 0 = U.getD r 0 + V.getD m 0
          ·
           have hset : ∀ q, gi (frm'.set m (k0 : Int)) q = if q = m then (k0 : Int) else gi frm' q := fun q => by rw [gi, gset (by omega)]
           have hBf2 := hBf.add (frm' := gi (frm'.set m (k0 : Int))) hfm1 hmn hk0n hk0f (by omega) (by rw [← hr]; exact htt) (by rw [hset, if_pos rfl]) (fun q hq' => by rw [hset, if_neg hq'])
           have hkeep : ∀ q, 0 ≤ gi frm' q → 0 ≤ gi (frm'.set m (k0 : Int)) q := fun q h0 => by rw [hset]; split <;> omega
           refine W_seq ?_
           refine W_region ?_
           first | refine L_lss rfl rfl rfl (dtrue (by omega)) ?_ | refine L_lss rfl rfl rfl (dfalse (by omega)) ?_ | refine L_lss rfl rfl rfl rfl ?_
           refine RL_then ?_
           refine W_seq ?_
           refine W_if_true rfl ?_
           refine W_skip' ?_
           refine Nx_then ?_
           refine W_seq ?_
           refine W_block ?_
           refine W_seq ?_
           refine W_region ?_
           refine L_move rfl rfl ?_
           refine L_idx1 rfl Try.underlying69 Try.ti2 rfl rfl (by with_reducible first | exact natc_k _ | exact natc_a1 _ | exact natc_0 | exact natc_1 | exact natc_2 | exact natc_s1 _ (by omega) | exact natc_a2 _ | exact natc_add _ _ | exact natc_mul _ _ | exact natc (by omega)) (by omega) rfl ?_
           refine L_load rfl Try.one2 rfl (by first | exact hs.cellA (i := 5) rfl rfl | exact hs.cellA (i := 1) rfl (il_get (by omega)) | exact hs.cellA (i := 2) rfl (il_get (by omega)) | exact hs.cellA (i := 6) rfl (il_get (by omega)) | (rw [Addr.add_lit]; exact hs.cell (i := 0) rfl (il_get (by omega)))) ?_
           refine L_assign rfl rfl ?_
           refine L_assign rfl rfl ?_
           refine RL_then ?_
           refine W_seq ?_
           refine W_seq ?_
           refine W_pht [0, 1, 2] [3, 4, 5, 6, 7, 8, 9, 10, 11, 12, 13, 14, 15, 16, 17, 18, 19, 20, 21, 22, 23] [] (fun _ _ _ => False) Try.mixed (by kernel_rfl) (fun _ _ _ _ _ h => h) hs ?_
           refine PL_val rfl (fun w => R_move rfl) ?_
           refine PL_val rfl (fun w => R_move rfl) ?_
           refine PL_val rfl (fun w => R_idx1 Try.underlying31 Try.ti3 rfl rfl (by with_reducible first | exact natc_k _ | exact natc_a1 _ | exact natc_0 | exact natc_1 | exact natc_2 | exact natc_s1 _ (by omega) | exact natc_a2 _ | exact natc_add _ _ | exact natc_mul _ _ | exact natc (by omega)) (by omega) rfl) ?_
           refine PL_end ?_
           refine HL_val rfl (fun w hs => R_load Try.one3 rfl (by first | exact hs.cellA (i := 5) rfl rfl | exact hs.cellA (i := 1) rfl (il_get (by omega)) | exact hs.cellA (i := 2) rfl (il_get (by omega)) | exact hs.cellA (i := 6) rfl (il_get (by omega)) | (rw [Addr.add_lit]; exact hs.cell (i := 0) rfl (il_get (by omega))))) ?_
           first | refine HL_val rfl (fun w hs => R_geq rfl rfl (dtrue (by omega))) ?_ | refine HL_val rfl (fun w hs => R_geq rfl rfl (dfalse (by omega))) ?_ | refine HL_val rfl (fun w hs => R_geq rfl rfl rfl) ?_
           refine HL_val rfl (fun w hs => R_move rfl) ?_
           first | (refine HL_want rfl rfl ?_; refine HL_val rfl (fun w hs => R_move rfl) ?_) | refine HL_skip rfl rfl rfl rfl ?_ | refine HL_skipU rfl rfl rfl ?_
           first | (refine HL_want rfl rfl ?_; refine HL_val rfl (fun w hs => R_move rfl) ?_) | refine HL_skip rfl rfl rfl rfl ?_ | refine HL_skipU rfl rfl rfl ?_
           first | (refine HL_want rfl rfl ?_; refine HL_val rfl (fun w hs => R_nilCheck rfl) ?_) | refine HL_skip rfl rfl rfl rfl ?_ | refine HL_skipU rfl rfl rfl ?_
           first | (refine HL_want rfl rfl ?_; refine HL_val rfl (fun w hs => R_fieldAddr (off := 2) Try.underlying116 rfl rfl Try.ti69 rfl) ?_) | refine HL_skip rfl rfl rfl rfl ?_ | refine HL_skipU rfl rfl rfl ?_
           first | (refine HL_want rfl rfl ?_; refine HL_val rfl (fun w hs => R_load Try.one69 rfl (by first | exact hs.cellA (i := 5) rfl rfl | exact hs.cellA (i := 1) rfl (il_get (by omega)) | exact hs.cellA (i := 2) rfl (il_get (by omega)) | exact hs.cellA (i := 6) rfl (il_get (by omega)) | (rw [Addr.add_lit]; exact hs.cell (i := 0) rfl (il_get (by omega))))) ?_) | refine HL_skip rfl rfl rfl rfl ?_ | refine HL_skipU rfl rfl rfl ?_
           first | (refine HL_want rfl rfl ?_; refine HL_val rfl (fun w hs => R_move rfl) ?_) | refine HL_skip rfl rfl rfl rfl ?_ | refine HL_skipU rfl rfl rfl ?_
           first | (refine HL_want rfl rfl ?_; refine HL_val rfl (fun w hs => R_idx1 Try.underlying69 Try.ti2 rfl rfl (by with_reducible first | exact natc_k _ | exact natc_a1 _ | exact natc_0 | exact natc_1 | exact natc_2 | exact natc_s1 _ (by omega) | exact natc_a2 _ | exact natc_add _ _ | exact natc_mul _ _ | exact natc (by omega)) (by omega) rfl) ?_) | refine HL_skip rfl rfl rfl rfl ?_ | refine HL_skipU rfl rfl rfl ?_
           first | (refine HL_want rfl rfl ?_; refine HL_val rfl (fun w hs => R_load Try.one2 rfl (by first | exact hs.cellA (i := 5) rfl rfl | exact hs.cellA (i := 1) rfl (il_get (by omega)) | exact hs.cellA (i := 2) rfl (il_get (by omega)) | exact hs.cellA (i := 6) rfl (il_get (by omega)) | (rw [Addr.add_lit]; exact hs.cell (i := 0) rfl (il_get (by omega))))) ?_) | refine HL_skip rfl rfl rfl rfl ?_ | refine HL_skipU rfl rfl rfl ?_
           first | (refine HL_want rfl rfl ?_; refine HL_val rfl (fun w hs => R_move rfl) ?_) | refine HL_skip rfl rfl rfl rfl ?_ | refine HL_skipU rfl rfl rfl ?_
           first | (refine HL_want rfl rfl ?_; refine HL_val rfl (fun w hs => R_nilCheck rfl) ?_) | refine HL_skip rfl rfl rfl rfl ?_ | refine HL_skipU rfl rfl rfl ?_
           first | (refine HL_want rfl rfl ?_; refine HL_val rfl (fun w hs => R_fieldAddr (off := 3) Try.underlying116 rfl rfl Try.ti69 rfl) ?_) | refine HL_skip rfl rfl rfl rfl ?_ | refine HL_skipU rfl rfl rfl ?_
           first | (refine HL_want rfl rfl ?_; refine HL_val rfl (fun w hs => R_load Try.one69 rfl (by first | exact hs.cellA (i := 5) rfl rfl | exact hs.cellA (i := 1) rfl (il_get (by omega)) | exact hs.cellA (i := 2) rfl (il_get (by omega)) | exact hs.cellA (i := 6) rfl (il_get (by omega)) | (rw [Addr.add_lit]; exact hs.cell (i := 0) rfl (il_get (by omega))))) ?_) | refine HL_skip rfl rfl rfl rfl ?_ | refine HL_skipU rfl rfl rfl ?_
           first | (refine HL_want rfl rfl ?_; refine HL_val rfl (fun w hs => R_move rfl) ?_) | refine HL_skip rfl rfl rfl rfl ?_ | refine HL_skipU rfl rfl rfl ?_
           first | (refine HL_want rfl rfl ?_; refine HL_val rfl (fun w hs => R_idx1 Try.underlying69 Try.ti2 rfl rfl (by with_reducible first | exact natc_k _ | exact natc_a1 _ | exact natc_0 | exact natc_1 | exact natc_2 | exact natc_s1 _ (by omega) | exact natc_a2 _ | exact natc_add _ _ | exact natc_mul _ _ | exact natc (by omega)) (by omega) rfl) ?_) | refine HL_skip rfl rfl rfl rfl ?_ | refine HL_skipU rfl rfl rfl ?_
           first | (refine HL_want rfl rfl ?_; refine HL_val rfl (fun w hs => R_load Try.one2 rfl (by first | exact hs.cellA (i := 5) rfl rfl | exact hs.cellA (i := 1) rfl (il_get (by omega)) | exact hs.cellA (i := 2) rfl (il_get (by omega)) | exact hs.cellA (i := 6) rfl (il_get (by omega)) | (rw [Addr.add_lit]; exact hs.cell (i := 0) rfl (il_get (by omega))))) ?_) | refine HL_skip rfl rfl rfl rfl ?_ | refine HL_skipU rfl rfl rfl ?_
           first | (refine HL_want rfl rfl ?_; (first | refine HL_val rfl (fun w hs => R_add rfl rfl (wrp_i64 (by omega))) ?_ | refine HL_val rfl (fun w hs => R_add rfl rfl rfl) ?_)) | refine HL_skip rfl rfl rfl rfl ?_ | refine HL_skipU rfl rfl rfl ?_
           first | (refine HL_want rfl rfl ?_; (first | refine HL_val rfl (fun w hs => R_neq rfl rfl (dtrue (by omega))) ?_ | refine HL_val rfl (fun w hs => R_neq rfl rfl (dfalse (by omega))) ?_ | refine HL_val rfl (fun w hs => R_neq rfl rfl rfl) ?_)) | refine HL_skip rfl rfl rfl rfl ?_ | refine HL_skipU rfl rfl rfl ?_
           first | refine HL_val rfl (fun w hs => R_pick_t rfl rfl) ?_ | refine HL_val rfl (fun w hs => R_pick_f rfl rfl) ?_
           refine HL_tail ?_
           intro w hs
           refine RL_then ?_
           refine W_if_false rfl ?_
           by_cases hmg : m = goal
           ·
            refine W_skip' ?_
            refine Nx_then ?_
            refine W_seq ?_
            refine W_region ?_
            refine L_move rfl rfl ?_
            refine L_move rfl rfl ?_
            refine L_move rfl rfl ?_
            refine L_idx1 rfl Try.underlying31 Try.ti3 rfl rfl (by with_reducible first | exact natc_k _ | exact natc_a1 _ | exact natc_0 | exact natc_1 | exact natc_2 | exact natc_s1 _ (by omega) | exact natc_a2 _ | exact natc_add _ _ | exact natc_mul _ _ | exact natc (by omega)) (by omega) rfl ?_
            refine L_store hs (i := 6) rfl Try.ti3 rfl rfl (by first | rfl | exact add_lit0 _ _ | exact Addr.add_lit .. | (rw [add_add]; exact add_lit0 _ _)) (by first | omega | (simp; done) | (simp; omega)) rfl ?_
            intro w hs
            try dsimp only [List.set_cons_succ, List.set_cons_zero, List.cons_append, List.nil_append] at hs
            refine RL_then ?_
            refine W_seq ?_
            refine W_seq ?_
            refine W_region ?_
            refine L_move rfl rfl ?_
            refine L_move rfl rfl ?_
            first | refine L_eql rfl rfl rfl (dtrue (by omega)) ?_ | refine L_eql rfl rfl rfl (dfalse (by omega)) ?_ | refine L_eql rfl rfl rfl rfl ?_
            refine RL_then ?_
            refine W_if_true rfl ?_
            refine W_exit' ?_
            refine Ex_then_exit ?_
            refine Ex_block_miss rfl ?_
            refine Ex_then_exit ?_
            refine Ex_loop_exit ?_
            refine Ex_block_miss rfl ?_
            refine Ex_block_miss rfl ?_
            refine Ex_loop_exit ?_
            refine Ex_block_hit ?_
            rw [il_set] at hs
            refine Nx_cutP (frm'.set m (k0 : Int), _) (is := [0, 1, 2, 7, 9]) (I' := (fun (frm : List Int) (w : World) => (frm.length = n) ∧ (∃ pos t, Bf n (cf n C) (gi U) (gi V) i j (toN of) (gi frm) pos t) ∧ (gi frm goal = -1 → ∀ q, q < n → 0 ≤ gi frm q → i < toN of q → ∀ m, m < n → cf n C (toN of q) m = gi U (toN of q) + gi V m → 0 ≤ gi frm m) ∧ (HS w0 w [(c, Row 2 (il C)), (u, Row 2 (il U)), (v, Row 2 (il V)), (o, Row 3 (il of)), (h, Row 3 (il has)), (B, Row 116 (GameR n c u v o h)), (gf, Row 3 (il frm))])) (frm'.set m (k0 : Int)) (_)) rfl rfl rfl ?_
            refine ⟨by simp [hfl], ⟨_, _, hBf2⟩, fun h5 => ?_, hs.dropR hqn.own⟩
            rw [hset, if_pos hmg.symm] at h5
            omega
           ·
            obtain ⟨qa, qc, rfl⟩ := Qu.len hqn
            refine W_skip' ?_
            refine Nx_then ?_
            refine W_seq ?_
            refine W_region ?_
            refine L_move rfl rfl ?_
            refine L_move rfl rfl ?_
            refine L_move rfl rfl ?_
            refine L_idx1 rfl Try.underlying31 Try.ti3 rfl rfl (by with_reducible first | exact natc_k _ | exact natc_a1 _ | exact natc_0 | exact natc_1 | exact natc_2 | exact natc_s1 _ (by omega) | exact natc_a2 _ | exact natc_add _ _ | exact natc_mul _ _ | exact natc (by omega)) (by omega) rfl ?_
            refine L_store hs (i := 6) rfl Try.ti3 rfl rfl (by first | rfl | exact add_lit0 _ _ | exact Addr.add_lit .. | (rw [add_add]; exact add_lit0 _ _)) (by first | omega | (simp; done) | (simp; omega)) rfl ?_
            intro w hs
            try dsimp only [List.set_cons_succ, List.set_cons_zero, List.cons_append, List.nil_append] at hs
            refine RL_then ?_
            refine W_seq ?_
            refine W_seq ?_
            refine W_region ?_
            refine L_move rfl rfl ?_
            refine L_move rfl rfl ?_
            first | refine L_eql rfl rfl rfl (dtrue (by omega)) ?_ | refine L_eql rfl rfl rfl (dfalse (by omega)) ?_ | refine L_eql rfl rfl rfl rfl ?_
            refine RL_then ?_
            refine W_if_false rfl ?_
            rw [il_set] at hs
            refine W_skip' ?_
            refine Nx_then ?_
            refine W_region ?_
            refine L_move rfl rfl ?_
            refine L_move rfl rfl ?_
            refine L_buildSlice rfl hs Try.underlying31 Try.ti3 rfl (by decide) rfl (by simp [Value.cells]) ?_
            intro b104 w hb104 hnb104 hs
            try simp only [List.flatMap_cons, List.flatMap_nil, cells_int, cells_float, cells_complex, cells_bool, cells_string, cells_pointer, cells_slice, cells_map, cells_agg, List.append_nil, List.set_cons_succ, List.set_cons_zero, List.cons_append, List.nil_append] at hs
            have hcb : frm'.count (-1) ≤ n := by rw [← hfl]; exact List.count_le_length
            refine L_appendQ rfl Try.underlying31 Try.ti3 rfl (L := [(c, Row 2 (il C)), (u, Row 2 (il U)), (v, Row 2 (il V)), (o, Row 3 (il of)), (h, Row 3 (il has)), (B, Row 116 (GameR n c u v o h)), (gf, Row 3 (il (frm'.set m (k0 : Int))))]) hs hb104 hqn rfl rfl (by omega) (by omega) ?_
            intro v2 w M2 hs hqn2
            refine L_assign rfl rfl ?_
            refine RL_nil' ?_
            refine Nx_block ?_
            refine Nx_then ?_
            refine W_region ?_
            first | refine L_add rfl rfl rfl (wrp_i64 (by omega)) ?_ | refine L_add rfl rfl rfl rfl ?_
            refine L_move rfl rfl ?_
            refine RL_nil' ?_
            refine Nx_loopP (m + 1, frm'.set m (k0 : Int), v2, xs ++ [(m : Int)], M2, _) (is := [0, 1, 2, 7, 9, 10, 11, 12, 64, 65, 66]) (I' := (fun (m : Nat) (frm' : List Int) (vw : Value) (xs : List Int) (M : List (Nat × Obj)) (w : World) => (m ≤ n) ∧ (frm'.length = n) ∧ (∃ pos t, Bf n (cf n C) (gi U) (gi V) i j (toN of) (gi frm') pos t) ∧ (gi frm' goal = -1) ∧ (∀ x, x ∈ xs → ∃ q : Nat, x = (q : Int) ∧ q < n ∧ 0 ≤ gi frm' q) ∧ (∀ q, q < n → 0 ≤ gi frm' q → (q : Int) ∈ xs ∨ q = k0 ∨ (i < toN of q → ∀ m, m < n → cf n C (toN of q) m = gi U (toN of q) + gi V m → 0 ≤ gi frm' m)) ∧ (∀ q, q < m → cf n C r q = gi U r + gi V q → 0 ≤ gi frm' q) ∧ (0 ≤ gi frm' k0) ∧ (xs.length + frm'.count (-1) ≤ cn0) ∧ (Qu w0 3 vw xs M) ∧ (HS w0 w ([(c, Row 2 (il C)), (u, Row 2 (il U)), (v, Row 2 (il V)), (o, Row 3 (il of)), (h, Row 3 (il has)), (B, Row 116 (GameR n c u v o h)), (gf, Row 3 (il frm'))] ++ M))) (m + 1) (frm'.set m (k0 : Int)) (v2) (xs ++ [(m : Int)]) (M2) (_)) rfl rfl rfl ?_ ?_
            ·
             refine ⟨by omega, by simp [hfl], ⟨_, _, hBf2⟩, by rw [hset, if_neg (fun he => hmg he.symm)]; exact hfg, fun x hx => ?_, fun q hq' h0 => ?_, fun q hq' h0 => ?_, hkeep _ hk0f, ?_, hqn2, hs⟩
             ·
              rcases List.mem_append.1 hx with h5 | h5
              ·
               obtain ⟨q, h6, h7, h8⟩ := hxs x h5
               exact ⟨q, h6, h7, hkeep q h8⟩
              ·
               rw [List.mem_singleton] at h5
               exact ⟨m, h5, hmn, by rw [hset, if_pos rfl]; omega⟩
             ·
              by_cases hqm : q = m
              ·
               rw [hqm]; exact .inl (by simp)
              ·
               rw [hset, if_neg hqm] at h0
               rcases hcl q hq' h0 with h5 | h5 | h5
               ·
                exact .inl (List.mem_append_left _ h5)
               ·
                exact .inr (.inl h5)
               ·
                exact .inr (.inr fun h6 q2 hq2 ht2 => hkeep q2 (h5 h6 q2 hq2 ht2))
             ·
              by_cases hqm : q = m
              ·
               rw [hqm, hset, if_pos rfl]; omega
              ·
               exact hkeep q (hmt q (by omega) h0)
             ·
              have h5 : frm'[m]'(by omega) = -1 := by
               have := hfm1
               simp only [gi, List.getD, List.getElem?_eq_getElem (show m < frm'.length by omega), Option.getD_some] at this
               exact this
              have h6 : 0 < frm'.count (-1) := List.count_pos_iff.2 (by rw [← h5]; exact List.getElem_mem _)
              have h7 : ((k0 : Int) == -1) = false := by simp
              rw [List.count_set (by omega), h5, h7]
              simp
              omega
            ·
             omega
          ·
           refine W_seq ?_
           refine W_region ?_
           first | refine L_lss rfl rfl rfl (dtrue (by omega)) ?_ | refine L_lss rfl rfl rfl (dfalse (by omega)) ?_ | refine L_lss rfl rfl rfl rfl ?_
           refine RL_then ?_
           refine W_seq ?_
           refine W_if_true rfl ?_
           refine W_skip' ?_
           refine Nx_then ?_
           refine W_seq ?_
           refine W_block ?_
           refine W_seq ?_
           refine W_region ?_
           refine L_move rfl rfl ?_
           refine L_idx1 rfl Try.underlying69 Try.ti2 rfl rfl (by with_reducible first | exact natc_k _ | exact natc_a1 _ | exact natc_0 | exact natc_1 | exact natc_2 | exact natc_s1 _ (by omega) | exact natc_a2 _ | exact natc_add _ _ | exact natc_mul _ _ | exact natc (by omega)) (by omega) rfl ?_
           refine L_load rfl Try.one2 rfl (by first | exact hs.cellA (i := 5) rfl rfl | exact hs.cellA (i := 1) rfl (il_get (by omega)) | exact hs.cellA (i := 2) rfl (il_get (by omega)) | exact hs.cellA (i := 6) rfl (il_get (by omega)) | (rw [Addr.add_lit]; exact hs.cell (i := 0) rfl (il_get (by omega)))) ?_
           refine L_assign rfl rfl ?_
           refine L_assign rfl rfl ?_
           refine RL_then ?_
           refine W_seq ?_
           refine W_seq ?_
           refine W_pht [0, 1, 2] [3, 4, 5, 6, 7, 8, 9, 10, 11, 12, 13, 14, 15, 16, 17, 18, 19, 20, 21, 22, 23] [] (fun _ _ _ => False) Try.mixed (by kernel_rfl) (fun _ _ _ _ _ h => h) hs ?_
           refine PL_val rfl (fun w => R_move rfl) ?_
           refine PL_val rfl (fun w => R_move rfl) ?_
           refine PL_val rfl (fun w => R_idx1 Try.underlying31 Try.ti3 rfl rfl (by with_reducible first | exact natc_k _ | exact natc_a1 _ | exact natc_0 | exact natc_1 | exact natc_2 | exact natc_s1 _ (by omega) | exact natc_a2 _ | exact natc_add _ _ | exact natc_mul _ _ | exact natc (by omega)) (by omega) rfl) ?_
           refine PL_end ?_
           refine HL_val rfl (fun w hs => R_load Try.one3 rfl (by first | exact hs.cellA (i := 5) rfl rfl | exact hs.cellA (i := 1) rfl (il_get (by omega)) | exact hs.cellA (i := 2) rfl (il_get (by omega)) | exact hs.cellA (i := 6) rfl (il_get (by omega)) | (rw [Addr.add_lit]; exact hs.cell (i := 0) rfl (il_get (by omega))))) ?_
           first | refine HL_val rfl (fun w hs => R_geq rfl rfl (dtrue (by omega))) ?_ | refine HL_val rfl (fun w hs => R_geq rfl rfl (dfalse (by omega))) ?_ | refine HL_val rfl (fun w hs => R_geq rfl rfl rfl) ?_
           refine HL_val rfl (fun w hs => R_move rfl) ?_
           first | (refine HL_want rfl rfl ?_; refine HL_val rfl (fun w hs => R_move rfl) ?_) | refine HL_skip rfl rfl rfl rfl ?_ | refine HL_skipU rfl rfl rfl ?_
           first | (refine HL_want rfl rfl ?_; refine HL_val rfl (fun w hs => R_move rfl) ?_) | refine HL_skip rfl rfl rfl rfl ?_ | refine HL_skipU rfl rfl rfl ?_
           first | (refine HL_want rfl rfl ?_; refine HL_val rfl (fun w hs => R_nilCheck rfl) ?_) | refine HL_skip rfl rfl rfl rfl ?_ | refine HL_skipU rfl rfl rfl ?_
           first | (refine HL_want rfl rfl ?_; refine HL_val rfl (fun w hs => R_fieldAddr (off := 2) Try.underlying116 rfl rfl Try.ti69 rfl) ?_) | refine HL_skip rfl rfl rfl rfl ?_ | refine HL_skipU rfl rfl rfl ?_
           first | (refine HL_want rfl rfl ?_; refine HL_val rfl (fun w hs => R_load Try.one69 rfl (by first | exact hs.cellA (i := 5) rfl rfl | exact hs.cellA (i := 1) rfl (il_get (by omega)) | exact hs.cellA (i := 2) rfl (il_get (by omega)) | exact hs.cellA (i := 6) rfl (il_get (by omega)) | (rw [Addr.add_lit]; exact hs.cell (i := 0) rfl (il_get (by omega))))) ?_) | refine HL_skip rfl rfl rfl rfl ?_ | refine HL_skipU rfl rfl rfl ?_
           first | (refine HL_want rfl rfl ?_; refine HL_val rfl (fun w hs => R_move rfl) ?_) | refine HL_skip rfl rfl rfl rfl ?_ | refine HL_skipU rfl rfl rfl ?_
           first | (refine HL_want rfl rfl ?_; refine HL_val rfl (fun w hs => R_idx1 Try.underlying69 Try.ti2 rfl rfl (by with_reducible first | exact natc_k _ | exact natc_a1 _ | exact natc_0 | exact natc_1 | exact natc_2 | exact natc_s1 _ (by omega) | exact natc_a2 _ | exact natc_add _ _ | exact natc_mul _ _ | exact natc (by omega)) (by omega) rfl) ?_) | refine HL_skip rfl rfl rfl rfl ?_ | refine HL_skipU rfl rfl rfl ?_
           first | (refine HL_want rfl rfl ?_; refine HL_val rfl (fun w hs => R_load Try.one2 rfl (by first | exact hs.cellA (i := 5) rfl rfl | exact hs.cellA (i := 1) rfl (il_get (by omega)) | exact hs.cellA (i := 2) rfl (il_get (by omega)) | exact hs.cellA (i := 6) rfl (il_get (by omega)) | (rw [Addr.add_lit]; exact hs.cell (i := 0) rfl (il_get (by omega))))) ?_) | refine HL_skip rfl rfl rfl rfl ?_ | refine HL_skipU rfl rfl rfl ?_
           first | (refine HL_want rfl rfl ?_; refine HL_val rfl (fun w hs => R_move rfl) ?_) | refine HL_skip rfl rfl rfl rfl ?_ | refine HL_skipU rfl rfl rfl ?_
           first | (refine HL_want rfl rfl ?_; refine HL_val rfl (fun w hs => R_nilCheck rfl) ?_) | refine HL_skip rfl rfl rfl rfl ?_ | refine HL_skipU rfl rfl rfl ?_
           first | (refine HL_want rfl rfl ?_; refine HL_val rfl (fun w hs => R_fieldAddr (off := 3) Try.underlying116 rfl rfl Try.ti69 rfl) ?_) | refine HL_skip rfl rfl rfl rfl ?_ | refine HL_skipU rfl rfl rfl ?_
           first | (refine HL_want rfl rfl ?_; refine HL_val rfl (fun w hs => R_load Try.one69 rfl (by first | exact hs.cellA (i := 5) rfl rfl | exact hs.cellA (i := 1) rfl (il_get (by omega)) | exact hs.cellA (i := 2) rfl (il_get (by omega)) | exact hs.cellA (i := 6) rfl (il_get (by omega)) | (rw [Addr.add_lit]; exact hs.cell (i := 0) rfl (il_get (by omega))))) ?_) | refine HL_skip rfl rfl rfl rfl ?_ | refine HL_skipU rfl rfl rfl ?_
           first | (refine HL_want rfl rfl ?_; refine HL_val rfl (fun w hs => R_move rfl) ?_) | refine HL_skip rfl rfl rfl rfl ?_ | refine HL_skipU rfl rfl rfl ?_
           first | (refine HL_want rfl rfl ?_; refine HL_val rfl (fun w hs => R_idx1 Try.underlying69 Try.ti2 rfl rfl (by with_reducible first | exact natc_k _ | exact natc_a1 _ | exact natc_0 | exact natc_1 | exact natc_2 | exact natc_s1 _ (by omega) | exact natc_a2 _ | exact natc_add _ _ | exact natc_mul _ _ | exact natc (by omega)) (by omega) rfl) ?_) | refine HL_skip rfl rfl rfl rfl ?_ | refine HL_skipU rfl rfl rfl ?_
           first | (refine HL_want rfl rfl ?_; refine HL_val rfl (fun w hs => R_load Try.one2 rfl (by first | exact hs.cellA (i := 5) rfl rfl | exact hs.cellA (i := 1) rfl (il_get (by omega)) | exact hs.cellA (i := 2) rfl (il_get (by omega)) | exact hs.cellA (i := 6) rfl (il_get (by omega)) | (rw [Addr.add_lit]; exact hs.cell (i := 0) rfl (il_get (by omega))))) ?_) | refine HL_skip rfl rfl rfl rfl ?_ | refine HL_skipU rfl rfl rfl ?_
           first | (refine HL_want rfl rfl ?_; (first | refine HL_val rfl (fun w hs => R_add rfl rfl (wrp_i64 (by omega))) ?_ | refine HL_val rfl (fun w hs => R_add rfl rfl rfl) ?_)) | refine HL_skip rfl rfl rfl rfl ?_ | refine HL_skipU rfl rfl rfl ?_
           first | (refine HL_want rfl rfl ?_; (first | refine HL_val rfl (fun w hs => R_neq rfl rfl (dtrue (by omega))) ?_ | refine HL_val rfl (fun w hs => R_neq rfl rfl (dfalse (by omega))) ?_ | refine HL_val rfl (fun w hs => R_neq rfl rfl rfl) ?_)) | refine HL_skip rfl rfl rfl rfl ?_ | refine HL_skipU rfl rfl rfl ?_
           first | refine HL_val rfl (fun w hs => R_pick_t rfl rfl) ?_ | refine HL_val rfl (fun w hs => R_pick_f rfl rfl) ?_
           refine HL_tail ?_
           intro w hs
           refine RL_then ?_
           refine W_if_true rfl ?_
           refine W_exit' ?_
           refine Ex_then_exit ?_
           refine Ex_block_hit ?_
           refine Nx_then ?_
           refine W_region ?_
           first | refine L_add rfl rfl rfl (wrp_i64 (by omega)) ?_ | refine L_add rfl rfl rfl rfl ?_
           refine L_move rfl rfl ?_
           refine RL_nil' ?_
           refine Nx_loopP (m + 1, frm', vw, xs, M, _) (is := [0, 1, 2, 7, 9, 10, 11, 12, 64, 65, 66]) (I' := (fun (m : Nat) (frm' : List Int) (vw : Value) (xs : List Int) (M : List (Nat × Obj)) (w : World) => (m ≤ n) ∧ (frm'.length = n) ∧ (∃ pos t, Bf n (cf n C) (gi U) (gi V) i j (toN of) (gi frm') pos t) ∧ (gi frm' goal = -1) ∧ (∀ x, x ∈ xs → ∃ q : Nat, x = (q : Int) ∧ q < n ∧ 0 ≤ gi frm' q) ∧ (∀ q, q < n → 0 ≤ gi frm' q → (q : Int) ∈ xs ∨ q = k0 ∨ (i < toN of q → ∀ m, m < n → cf n C (toN of q) m = gi U (toN of q) + gi V m → 0 ≤ gi frm' m)) ∧ (∀ q, q < m → cf n C r q = gi U r + gi V q → 0 ≤ gi frm' q) ∧ (0 ≤ gi frm' k0) ∧ (xs.length + frm'.count (-1) ≤ cn0) ∧ (Qu w0 3 vw xs M) ∧ (HS w0 w ([(c, Row 2 (il C)), (u, Row 2 (il U)), (v, Row 2 (il V)), (o, Row 3 (il of)), (h, Row 3 (il has)), (B, Row 116 (GameR n c u v o h)), (gf, Row 3 (il frm'))] ++ M))) (m + 1) (frm') (vw) (xs) (M) (_)) rfl rfl rfl ?_ ?_
           ·
            refine ⟨by omega, hfl, ⟨_, _, hBf⟩, hfg, hxs, hcl, fun q hq' h0 => ?_, hk0f, hcnt, hqn, hs⟩
            by_cases hqm : q = m
            ·
             rw [hqm] at h0; exact absurd h0 htt
            ·
             exact hmt q (by omega) h0
           ·
            omega
        ·
         refine W_seq ?_
         refine W_region ?_
         first | refine L_lss rfl rfl rfl (dtrue (by omega)) ?_ | refine L_lss rfl rfl rfl (dfalse (by omega)) ?_ | refine L_lss rfl rfl rfl rfl ?_
         refine RL_then ?_
         refine W_seq ?_
         refine W_if_false rfl ?_
         refine W_exit' ?_
         refine Ex_then_exit ?_
         refine Ex_loop_exit ?_
         refine Ex_block_hit ?_
         refine Nx_block ?_
         refine Nx_loopP (frm', vw, xs, M, w) (is := [0, 1, 2, 7, 9, 10]) (I' := (fun (frm : List Int) (vw : Value) (xs : List Int) (M : List (Nat × Obj)) (w : World) => (frm.length = n) ∧ (∃ pos t, Bf n (cf n C) (gi U) (gi V) i j (toN of) (gi frm) pos t) ∧ (gi frm goal = -1) ∧ (∀ x, x ∈ xs → ∃ q : Nat, x = (q : Int) ∧ q < n ∧ 0 ≤ gi frm q) ∧ (∀ q, q < n → 0 ≤ gi frm q → (q : Int) ∈ xs ∨ (i < toN of q → ∀ m, m < n → cf n C (toN of q) m = gi U (toN of q) + gi V m → 0 ≤ gi frm m)) ∧ (xs.length + frm.count (-1) ≤ n + 1) ∧ (Qu w0 3 vw xs M) ∧ (HS w0 w ([(c, Row 2 (il C)), (u, Row 2 (il U)), (v, Row 2 (il V)), (o, Row 3 (il of)), (h, Row 3 (il has)), (B, Row 116 (GameR n c u v o h)), (gf, Row 3 (il frm))] ++ M))) (frm') (vw) (xs) (M) (w)) rfl rfl rfl ?_ ?_
         ·
          refine ⟨hfl, ⟨_, _, hBf⟩, hfg, hxs, fun q hq' h0 => ?_, by omega, hqn, hs⟩
          rcases hcl q hq' h0 with h5 | h5 | h5
          ·
           exact .inl h5
          ·
           rw [h5, ← hr]; exact .inr fun _ q2 hq2 ht2 => hmt q2 (by omega) ht2
          ·
           exact .inr h5
         ·
          simp only [List.length_cons]; omega
   ·
    clear hs hBf hfg0 hcl0 hf1 hfl
    intro frm w hI
    show W _ _ _ _ [(0, .pointer (some ⟨B, 0, none⟩)), (1, .int .i64 i), (2, .int .i64 j), (7, SlN gf n), (9, .int .i64 goal)] w
    obtain ⟨hfl, ⟨pos, t, hBf⟩, hcl, hs⟩ := hI
    have hOf : Own w0 [(gf, Row 3 (il frm))] := Own.cons hgfo Own.nil
    by_cases hgf : frm.getD goal 0 < 0
    ·
     have hg1 : gi frm goal = -1 := by
      rcases hBf.rng goal hgon with h5 | h5
      ·
       exact h5
      ·
       have h6 : 0 ≤ frm.getD goal 0 := h5.1
       omega
     have hno : ∀ M, TB n (cf n C) (gi U) (gi V) M → (∀ q, q < i → M q = toN has q) → M i ≠ j := fun M hM hlow =>
      hPf.no_turn hi hj (fun q => 0 ≤ gi frm q) (by show 0 ≤ gi frm j; rw [hBf.j0]; omega) (by show ¬0 ≤ gi frm (toN has i); rw [← hgo, hg1]; omega) (fun q hq' h0 hiq m hm ht => hcl hg1 q hq' h0 hiq m hm ht) hM hlow
     refine W_seq ?_
     refine W_seq ?_
     refine W_region ?_
     refine L_move rfl rfl ?_
     refine L_move rfl rfl ?_
     refine L_idx1 rfl Try.underlying31 Try.ti3 rfl rfl (by with_reducible first | exact natc_k _ | exact natc_a1 _ | exact natc_0 | exact natc_1 | exact natc_2 | exact natc_s1 _ (by omega) | exact natc_a2 _ | exact natc_add _ _ | exact natc_mul _ _ | exact natc (by omega)) (by omega) rfl ?_
     refine L_load rfl Try.one3 rfl (by first | exact hs.cellA (i := 5) rfl rfl | exact hs.cellA (i := 3) rfl (il_get (by omega)) | exact hs.cellA (i := 6) rfl (il_get (by omega))) ?_
     first | refine L_lss rfl rfl rfl (dtrue (by omega)) ?_ | refine L_lss rfl rfl rfl (dfalse (by omega)) ?_ | refine L_lss rfl rfl rfl rfl ?_
     refine RL_then ?_
     refine W_if_true rfl ?_
     refine W_seq ?_
     refine W_region ?_
     refine L_assign rfl rfl ?_
     refine RL_then ?_
     refine W_ret' ?_
     refine Ex_then_ret ?_
     refine Ex_scope_ret ?_
     refine Ex_done1 rfl rfl ?_
     exact ⟨_, rfl, .inl ⟨rfl, hs.dropR (L := GameL B c u v o h n C U V of has) hOf, hno⟩⟩
    ·
     have hgf0 : 0 ≤ gi frm goal := by simp only [gi]; omega
     refine W_seq ?_
     refine W_seq ?_
     refine W_region ?_
     refine L_move rfl rfl ?_
     refine L_move rfl rfl ?_
     refine L_idx1 rfl Try.underlying31 Try.ti3 rfl rfl (by with_reducible first | exact natc_k _ | exact natc_a1 _ | exact natc_0 | exact natc_1 | exact natc_2 | exact natc_s1 _ (by omega) | exact natc_a2 _ | exact natc_add _ _ | exact natc_mul _ _ | exact natc (by omega)) (by omega) rfl ?_
     refine L_load rfl Try.one3 rfl (by first | exact hs.cellA (i := 5) rfl rfl | exact hs.cellA (i := 3) rfl (il_get (by omega)) | exact hs.cellA (i := 6) rfl (il_get (by omega))) ?_
     first | refine L_lss rfl rfl rfl (dtrue (by omega)) ?_ | refine L_lss rfl rfl rfl (dfalse (by omega)) ?_ | refine L_lss rfl rfl rfl rfl ?_
     refine RL_then ?_
     refine W_if_false rfl ?_
     refine W_skip' ?_
     refine Nx_then ?_
     refine W_seq ?_
     refine W_seq ?_
     refine W_region ?_
     refine L_move rfl rfl ?_
     refine L_assign rfl rfl ?_
     refine RL_then ?_
     refine W_block ?_
     refine W_loop4 (fun (m : Nat) (of' : List Int) (has' : List Int) (w : World) => [(0, .pointer (some ⟨B, 0, none⟩)), (1, .int .i64 i), (2, .int .i64 j), (7, SlN gf n), (15, .int .i64 m)]) (fun (m : Nat) (of' : List Int) (has' : List Int) (w : World) => w) (fun (m : Nat) (of' : List Int) (has' : List Int) (w : World) => (m < n) ∧ (0 ≤ gi frm m) ∧ (InR n of') ∧ (InR n has') ∧ (Rot n (cf n C) (gi U) (gi V) i (toN of) (toN has) (fun q => 0 ≤ gi frm q) pos (toN of') (toN has') m) ∧ (HS w0 w [(c, Row 2 (il C)), (u, Row 2 (il U)), (v, Row 2 (il V)), (o, Row 3 (il of')), (h, Row 3 (il has')), (B, Row 116 (GameR n c u v o h)), (gf, Row 3 (il frm))])) (fun (m : Nat) (of' : List Int) (has' : List Int) (w : World) => pos m) (goal) (of) (has) (_) (is := [0, 1, 2, 7, 15]) rfl rfl ?_ ?_
     ·
      exact ⟨hgon, hgf0, hof, hhas, by rw [hgo]; exact hPf.rot hi, hs⟩
     ·
      clear hs hgf hgf0
      intro m of' has' w hI
      show W _ _ _ _ [(0, .pointer (some ⟨B, 0, none⟩)), (1, .int .i64 i), (2, .int .i64 j), (7, SlN gf n), (15, .int .i64 m)] w
      obtain ⟨hmn, hmf, hof', hhas', hRot, hs⟩ := hI
      have hol' := hof'.len
      have hhl' := hhas'.len
      by_cases hmj : m = j
      ·
       obtain ⟨o1, o2, o3⟩ := hof'.set hj hi
       obtain ⟨q1, q2, q3⟩ := hhas'.set hi hj
       rw [hmj] at hRot
       have hfin := hRot.fin hPf.feas hi hj htj o2 o3 q2 q3
       refine W_seq ?_
       refine W_seq ?_
       refine W_region ?_
       refine L_move rfl rfl ?_
       refine L_move rfl rfl ?_
       first | refine L_neq rfl rfl rfl (dtrue (by omega)) ?_ | refine L_neq rfl rfl rfl (dfalse (by omega)) ?_ | refine L_neq rfl rfl rfl rfl ?_
       refine RL_then ?_
       refine W_if_false rfl ?_
       refine W_exit' ?_
       refine Ex_then_exit ?_
       refine Ex_loop_exit ?_
       refine Ex_block_hit ?_
       refine Nx_then ?_
       refine W_seq ?_
       refine W_pht [0, 1, 2, 4, 5, 6, 7, 9, 10, 11] [3, 8, 12] [13, 14, 15] (fun _ _ _ => False) Try.mixed (by kernel_rfl) (fun _ _ _ _ _ h => h) hs ?_
       refine PL_val rfl (fun w => R_move rfl) ?_
       refine PL_val rfl (fun w => R_nilCheck rfl) ?_
       refine PL_val rfl (fun w => R_fieldAddr (off := 4) Try.underlying116 rfl rfl Try.ti31 rfl) ?_
       refine PL_val rfl (fun w => R_move rfl) ?_
       refine PL_val rfl (fun w => R_move rfl) ?_
       refine PL_val rfl (fun w => R_nilCheck rfl) ?_
       refine PL_val rfl (fun w => R_fieldAddr (off := 5) Try.underlying116 rfl rfl Try.ti31 rfl) ?_
       refine PL_val rfl (fun w => R_move rfl) ?_
       refine PL_val rfl (fun w => R_move rfl) ?_
       refine PL_val rfl (fun w => R_move rfl) ?_
       refine PL_end ?_
       refine HL_val rfl (fun w hs => R_load Try.one31 rfl (by first | exact hs.cellA (i := 5) rfl rfl | exact hs.cellA (i := 3) rfl (il_get (by omega)) | exact hs.cellA (i := 6) rfl (il_get (by omega)))) ?_
       refine HL_val rfl (fun w hs => R_load Try.one31 rfl (by first | exact hs.cellA (i := 5) rfl rfl | exact hs.cellA (i := 3) rfl (il_get (by omega)) | exact hs.cellA (i := 6) rfl (il_get (by omega)))) ?_
       refine HL_val rfl (fun w hs => R_idx1 Try.underlying31 Try.ti3 rfl rfl (by with_reducible first | exact natc_k _ | exact natc_a1 _ | exact natc_0 | exact natc_1 | exact natc_2 | exact natc_s1 _ (by omega) | exact natc_a2 _ | exact natc_add _ _ | exact natc_mul _ _ | exact natc (by omega)) (by omega) rfl) ?_
       refine HL_tail ?_
       intro w hs
       refine L_store hs (i := 3) rfl Try.ti3 rfl rfl (by first | rfl | exact add_lit0 _ _ | exact Addr.add_lit .. | (rw [add_add]; exact add_lit0 _ _)) (by first | omega | (simp; done) | (simp; omega)) rfl ?_
       intro w hs
       try dsimp only [List.set_cons_succ, List.set_cons_zero, List.cons_append, List.nil_append] at hs
       refine L_idx1 rfl Try.underlying31 Try.ti3 rfl rfl (by with_reducible first | exact natc_k _ | exact natc_a1 _ | exact natc_0 | exact natc_1 | exact natc_2 | exact natc_s1 _ (by omega) | exact natc_a2 _ | exact natc_add _ _ | exact natc_mul _ _ | exact natc (by omega)) (by omega) rfl ?_
       refine L_store hs (i := 4) rfl Try.ti3 rfl rfl (by first | rfl | exact add_lit0 _ _ | exact Addr.add_lit .. | (rw [add_add]; exact add_lit0 _ _)) (by first | omega | (simp; done) | (simp; omega)) rfl ?_
       intro w hs
       try dsimp only [List.set_cons_succ, List.set_cons_zero, List.cons_append, List.nil_append] at hs
       refine RL_then ?_
       refine W_seq ?_
       refine W_region ?_
       refine L_assign rfl rfl ?_
       refine RL_then ?_
       refine W_ret' ?_
       refine Ex_scope_ret ?_
       refine Ex_done1 rfl rfl ?_
       rw [il_set, il_set] at hs
       exact ⟨_, rfl, .inr ⟨rfl, _, _, hs.dropR (L := GameL B c u v o h n C U V (of'.set j i) (has'.set i j)) hOf, o1, q1, hfin, fun q hq' => by rw [q3 q (by omega)]; exact hRot.low q hq', q2⟩⟩
      ·
       obtain ⟨p1, p2, p3, p4⟩ := hBf.par m hmn hmf hmj
       have hkk : (gi frm m).toNat < n := by
        rcases hBf.rng m hmn with h5 | h5 <;> omega
       obtain ⟨k, hk⟩ : ∃ k, k = (gi frm m).toNat := ⟨_, rfl⟩
       have hke : frm.getD m 0 = (k : Int) := by rw [hk]; show frm.getD m 0 = (((frm.getD m 0).toNat : Nat) : Int); have : 0 ≤ frm.getD m 0 := hmf; omega
       rw [← hk] at p1 p2 p3 p4 hkk
       obtain ⟨hoe, hon⟩ := hof'.nat hkk
       obtain ⟨r, hr⟩ : ∃ r, r = toN of' k := ⟨_, rfl⟩
       rw [← hr] at hoe hon
       obtain ⟨o1, o2, o3⟩ := hof'.set hmn hon
       obtain ⟨q1, q2, q3⟩ := hhas'.set hon hmn
       have hst := hRot.step hmn hkk p1 p2 p3 p4 (by rw [o2, hr]) o3 (by rw [← hr]; exact q2) (fun c hc => q3 c (by rw [hr]; exact hc))
       refine W_seq ?_
       refine W_seq ?_
       refine W_region ?_
       refine L_move rfl rfl ?_
       refine L_move rfl rfl ?_
       first | refine L_neq rfl rfl rfl (dtrue (by omega)) ?_ | refine L_neq rfl rfl rfl (dfalse (by omega)) ?_ | refine L_neq rfl rfl rfl rfl ?_
       refine RL_then ?_
       refine W_if_true rfl ?_
       refine W_skip' ?_
       refine Nx_then ?_
       refine W_seq ?_
       refine W_block ?_
       refine W_seq ?_
       refine W_pht [0, 1, 2, 4, 5, 6] [3, 7, 8, 9, 10] [] (fun _ _ _ => False) Try.mixed (by kernel_rfl) (fun _ _ _ _ _ h => h) hs ?_
       refine PL_val rfl (fun w => R_move rfl) ?_
       refine PL_val rfl (fun w => R_nilCheck rfl) ?_
       refine PL_val rfl (fun w => R_fieldAddr (off := 4) Try.underlying116 rfl rfl Try.ti31 rfl) ?_
       refine PL_val rfl (fun w => R_move rfl) ?_
       refine PL_val rfl (fun w => R_move rfl) ?_
       refine PL_val rfl (fun w => R_idx1 Try.underlying31 Try.ti3 rfl rfl (by with_reducible first | exact natc_k _ | exact natc_a1 _ | exact natc_0 | exact natc_1 | exact natc_2 | exact natc_s1 _ (by omega) | exact natc_a2 _ | exact natc_add _ _ | exact natc_mul _ _ | exact natc (by omega)) (by omega) rfl) ?_
       refine PL_end ?_
       refine HL_val rfl (fun w hs => R_load Try.one31 rfl (by first | exact hs.cellA (i := 5) rfl rfl | exact hs.cellA (i := 3) rfl (il_get (by omega)) | exact hs.cellA (i := 6) rfl (il_get (by omega)))) ?_
       refine HL_val rfl (fun w hs => R_load Try.one3 rfl (by first | exact hs.cellA (i := 5) rfl rfl | exact hs.cellA (i := 3) rfl (il_get (by omega)) | exact hs.cellA (i := 6) rfl (il_get (by omega)))) ?_
       rw [hke]
       refine HL_val rfl (fun w hs => R_idx1 Try.underlying31 Try.ti3 rfl rfl (by with_reducible first | exact natc_k _ | exact natc_a1 _ | exact natc_0 | exact natc_1 | exact natc_2 | exact natc_s1 _ (by omega) | exact natc_a2 _ | exact natc_add _ _ | exact natc_mul _ _ | exact natc (by omega)) (by omega) rfl) ?_
       refine HL_val rfl (fun w hs => R_load Try.one3 rfl (by first | exact hs.cellA (i := 5) rfl rfl | exact hs.cellA (i := 3) rfl (il_get (by omega)) | exact hs.cellA (i := 6) rfl (il_get (by omega)))) ?_
       refine HL_val rfl (fun w hs => R_assign rfl) ?_
       refine HL_tail ?_
       intro w hs
       refine RL_then ?_
       refine W_pht [0, 1, 2, 4, 5, 6, 7, 9, 10, 11] [3, 8, 12] [13, 14, 15] (fun _ _ _ => False) Try.mixed (by kernel_rfl) (fun _ _ _ _ _ h => h) hs ?_
       rw [hoe]
       refine PL_val rfl (fun w => R_move rfl) ?_
       refine PL_val rfl (fun w => R_nilCheck rfl) ?_
       refine PL_val rfl (fun w => R_fieldAddr (off := 4) Try.underlying116 rfl rfl Try.ti31 rfl) ?_
       refine PL_val rfl (fun w => R_move rfl) ?_
       refine PL_val rfl (fun w => R_move rfl) ?_
       refine PL_val rfl (fun w => R_nilCheck rfl) ?_
       refine PL_val rfl (fun w => R_fieldAddr (off := 5) Try.underlying116 rfl rfl Try.ti31 rfl) ?_
       refine PL_val rfl (fun w => R_move rfl) ?_
       refine PL_val rfl (fun w => R_move rfl) ?_
       refine PL_val rfl (fun w => R_move rfl) ?_
       refine PL_end ?_
       refine HL_val rfl (fun w hs => R_load Try.one31 rfl (by first | exact hs.cellA (i := 5) rfl rfl | exact hs.cellA (i := 3) rfl (il_get (by omega)) | exact hs.cellA (i := 6) rfl (il_get (by omega)))) ?_
       refine HL_val rfl (fun w hs => R_load Try.one31 rfl (by first | exact hs.cellA (i := 5) rfl rfl | exact hs.cellA (i := 3) rfl (il_get (by omega)) | exact hs.cellA (i := 6) rfl (il_get (by omega)))) ?_
       refine HL_val rfl (fun w hs => R_idx1 Try.underlying31 Try.ti3 rfl rfl (by with_reducible first | exact natc_k _ | exact natc_a1 _ | exact natc_0 | exact natc_1 | exact natc_2 | exact natc_s1 _ (by omega) | exact natc_a2 _ | exact natc_add _ _ | exact natc_mul _ _ | exact natc (by omega)) (by omega) rfl) ?_
       refine HL_tail ?_
       intro w hs
       refine L_store hs (i := 3) rfl Try.ti3 rfl rfl (by first | rfl | exact add_lit0 _ _ | exact Addr.add_lit .. | (rw [add_add]; exact add_lit0 _ _)) (by first | omega | (simp; done) | (simp; omega)) rfl ?_
       intro w hs
       try dsimp only [List.set_cons_succ, List.set_cons_zero, List.cons_append, List.nil_append] at hs
       refine L_idx1 rfl Try.underlying31 Try.ti3 rfl rfl (by with_reducible first | exact natc_k _ | exact natc_a1 _ | exact natc_0 | exact natc_1 | exact natc_2 | exact natc_s1 _ (by omega) | exact natc_a2 _ | exact natc_add _ _ | exact natc_mul _ _ | exact natc (by omega)) (by omega) rfl ?_
       refine L_store hs (i := 4) rfl Try.ti3 rfl rfl (by first | rfl | exact add_lit0 _ _ | exact Addr.add_lit .. | (rw [add_add]; exact add_lit0 _ _)) (by first | omega | (simp; done) | (simp; omega)) rfl ?_
       intro w hs
       try dsimp only [List.set_cons_succ, List.set_cons_zero, List.cons_append, List.nil_append] at hs
       refine RL_nil' ?_
       refine Nx_block ?_
       refine Nx_then ?_
       refine W_region ?_
       refine L_move rfl rfl ?_
       refine L_move rfl rfl ?_
       refine L_idx1 rfl Try.underlying31 Try.ti3 rfl rfl (by with_reducible first | exact natc_k _ | exact natc_a1 _ | exact natc_0 | exact natc_1 | exact natc_2 | exact natc_s1 _ (by omega) | exact natc_a2 _ | exact natc_add _ _ | exact natc_mul _ _ | exact natc (by omega)) (by omega) rfl ?_
       refine L_load rfl Try.one3 rfl (by first | exact hs.cellA (i := 5) rfl rfl | exact hs.cellA (i := 3) rfl (il_get (by omega)) | exact hs.cellA (i := 6) rfl (il_get (by omega))) ?_
       rw [hke]
       refine L_assign rfl rfl ?_
       refine RL_nil' ?_
       rw [il_set, il_set] at hs
       refine Nx_loopP (k, of'.set m r, has'.set r m, _) (is := [0, 1, 2, 7, 15]) (I' := (fun (m : Nat) (of' : List Int) (has' : List Int) (w : World) => (m < n) ∧ (0 ≤ gi frm m) ∧ (InR n of') ∧ (InR n has') ∧ (Rot n (cf n C) (gi U) (gi V) i (toN of) (toN has) (fun q => 0 ≤ gi frm q) pos (toN of') (toN has') m) ∧ (HS w0 w [(c, Row 2 (il C)), (u, Row 2 (il U)), (v, Row 2 (il V)), (o, Row 3 (il of')), (h, Row 3 (il has')), (B, Row 116 (GameR n c u v o h)), (gf, Row 3 (il frm))])) (k) (of'.set m r) (has'.set r m) (_)) rfl rfl rfl ?_ ?_
       ·
        exact ⟨hkk, p1, o1, q1, hst, hs⟩
       ·
        exact p2
end Go.Proofs.Ytdllakfojligjaa
