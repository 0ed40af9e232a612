/-
  A part of the proof: laws for walks, and plain laws, over any program of the model. Each theorem holds under its own premises alone.
-/
import Derived.Test.YtffobakdngbadaaGreatKit
import Derived.Test.YtffobakdngbadaaGreatP3
namespace Go.Proofs.YtffobakdngbadaaGreat
open Go Go.Lk Go.Pr
structure InR (n : Nat) (l : List Int) : Prop where
 len : l.length = n
 rng : ∀ k, k < n -> 0 <= gi l k /\ gi l k < n
theorem InR.nat {n : Nat} {l : List Int} (h : InR n l) {k : Nat} (hk : k < n) : l.getD k 0 = ((toN l k : Nat) : Int) /\ toN l k < n := by
 have h1 : 0 <= l.getD k 0 /\ l.getD k 0 < n := h.rng k hk
 unfold toN
 exact ⟨by show l.getD k 0 = (((l.getD k 0).toNat : Nat) : Int); omega, by show (l.getD k 0).toNat < n; omega⟩
theorem InR.set {n : Nat} {l : List Int} (h : InR n l) {k x : Nat} (hk : k < n) (hx : x < n) : InR n (l.set k x) /\ toN (l.set k x) k = x /\ ∀ c, c ≠ k -> toN (l.set k x) c = toN l c := by
 have hl := h.len
 have e : ∀ c, gi (l.set k (x : Int)) c = if c = k then (x : Int) else gi l c := fun c => by rw [gi, jfW (by omega)]
 refine ⟨⟨by simp [hl], fun c hc => ?_⟩, ?_, fun c hc => ?_⟩
 ·
  rw [e]; split
  ·
   omega
  exact h.rng c hc
 ·
  rw [toN, e, if_pos rfl, Int.toNat_natCast]
 rw [toN, e, if_neg hc]
def Turned (B c u v o h n : Nat) (C U V of has : List Int) (i j : Nat) (w0 : World) (r : Value) (w' : World) : Prop :=
 (r = .bool false /\ HS w0 w' (jd9 B c u v o h n C U V of has) /\ ∀ M, TB n (cf n C) (gi U) (gi V) M -> (∀ q, q < i -> M q = toN has q) -> M i ≠ j) ∨
 (r = .bool true /\ ∃ of' has', HS w0 w' (jd9 B c u v o h n C U V of' has') /\ InR n of' /\ InR n has' /\ Pf n (cf n C) (gi U) (gi V) (toN of') (toN has') /\ (∀ q, q < i -> toN has' q = toN has q) /\ toN has' i = j)
set_option maxHeartbeats 4000000 in
theorem turned_ok (B c u v o h n : Nat) (C U V of has : List Int) (i j : Nat) (w0 : World) (hC : CostOk n C) (h1 : 1 <= n) (h2 : n <= 512) (hUl : U.length = n) (hVl : V.length = n) (hof : InR n of) (hhas : InR n has)
  (hbU : ∀ r, r < n -> 0 <= gi U r /\ gi U r <= BB) (hbV : ∀ j, j < n -> -BB <= gi V j /\ gi V j <= 0) (hPf : Pf n (cf n C) (gi U) (gi V) (toN of) (toN has)) (hi : i < n) (hj : j < n) (hji : j < toN has i) (htj : cf n C i j = gi U i + gi V j)
  (hG : HS w0 w0 (jd9 B c u v o h n C U V of has)) :
  Ret Tryz.prog 91 [.pointer (some ⟨B, 0, none⟩), .int .i64 i, .int .i64 j] w0 (Turned B c u v o h n C U V of has i j w0) := by
 have hs := hG
 have hCl := hC.len
 have hol := hof.len
 have hhl := hhas.len
 obtain ⟨hgoe, hgon⟩ := hhas.nat hi
 obtain ⟨goal, hgo⟩ : ∃ goal, goal = toN has i := ⟨_, rfl⟩
 rw [<- hgo] at hgoe hgon hji
 refine ja7 Tryz.func91 rfl rfl rfl (Wq (La rfl (Rt (W_scope (Wq (Lm rfl (Ln rfl (Lf 0 jcW rfl i_3 (Ll o_3 rfl (by exact hs.cellA (i := 5) rfl rfl) ?_)))))))))
 refine jdM rfl hs jbW i_3 rfl rfl (ja6 _) (ja6 _) (by omega) (by omega) (by omega) rfl ?_
 intro b21 w hb21 hnb21 hs
 dsimp only [sS, sZ, sA, sN] at hs
 refine La rfl (Rqq (Lm rfl (Le jbW rfl (Lm rfl (Rt (ja4 ?_))))))
 rw [jgV] at hs
 obtain ⟨gf, hgf, hgfo⟩ : ∃ gf, gf = b21 /\ w0.heap.size <= gf := ⟨_, rfl, hb21⟩
 rw [<- hgf] at hs ⊢
 clear hgf hb21 hnb21
 refine jcT (fun (k : Nat) (frm : List Int) (w : World) => [(0, .pointer (some ⟨B, 0, none⟩)), (1, .int .i64 i), (2, .int .i64 j), (7, SlN gf n), (23, .int .i64 n), (24, .int .i64 k)]) (fun k frm w => w) (fun k frm w => (k <= n) /\ (frm.length = n) /\ (∀ q, q < k -> gi frm q = -1) /\ (HS w0 w (jd9 B c u v o h n C U V of has ++ [(gf, Row 3 (il frm))]))) (fun k frm w => n - k) (0) (List.replicate n 0) (w) (is := [0, 1, 2, 7, 23, 24]) rfl rfl ?_ ?_
 ·
  exact ⟨Nat.zero_le _, by simp, fun _ h => absurd h (Nat.not_lt_zero _), hs⟩
 clear hs hG
 intro k frm w hI
 show W _ _ _ _ [(0, .pointer (some ⟨B, 0, none⟩)), (1, .int .i64 i), (2, .int .i64 j), (7, SlN gf n), (23, .int .i64 n), (24, .int .i64 k)] w
 obtain ⟨hk, hfl, hf1, hs⟩ := hI
 replace hs : HS w0 w [(c, Row 2 (il C)), (u, Row 2 (il U)), (v, Row 2 (il V)), (o, Row 3 (il of)), (h, Row 3 (il has)), (B, Row 123 (jgL n c u v o h)), (gf, Row 3 (il frm))] := hs
 by_cases hlt : k < n
 ·
  refine Wq (jaZ rfl (jaF (by omega)) ?_)
  refine Rt (Wsq (Wt rfl (Ws (Wsq (ja4 (Wq (Lm rfl (La rfl (Rr (Lmm rfl rfl (Li jbW i_3 rfl (ja6 _) (by omega) rfl ?_)))))))))))
  refine jaH hs (i := 6) rfl i_3 rfl rfl (by exact jaM _ _) (by simp; omega) rfl ?_
  intro w hs
  dsimp only [sS, sZ, sA, sN] at hs
  refine Rnl (jaB (Nt (Wr (jbG rfl (ja3 (by omega)) ?_))))
  refine Lm rfl (Rnl ?_)
  rw [jc3] at hs
  refine Nq (k + 1, frm.set k (-1), w) [0, 1, 2, 7, 23, 24] rfl ?_ ?_
  ·
   dsimp only
   refine ⟨by omega, by simp [hfl], fun q hq => ?_, hs⟩
   rw [gi, jfW (by omega)]
   split
   ·
    rfl
   exact hf1 q (by omega)
  omega
 obtain rfl : n = k := by omega
 refine Wq (jaZ rfl (jaA (by omega)) ?_)
 refine Rt (Wsq (Wf rfl (jaK (ja0 (ja8 (ja1 (Nt (Wq (Lm rfl (Ln rfl (Lf 5 jcW rfl jg2 (Ll jgQ rfl (by exact hs.cellA (i := 5) rfl rfl) ?_))))))))))))
 refine Lm rfl (Li jbW i_3 rfl (ja6 _) (by omega) rfl ?_)
 refine Ll o_3 rfl (hs.cellA (i := 4) rfl (jaV (by omega))) ?_
 rw [hgoe]
 refine La rfl (Rq (Lm rfl (jb4 rfl hs jbW i_3 rfl (by decide) rfl (by simp [Value.cells]) ?_)))
 intro b39 w hb39 hnb39 hs
 simp only [List.flatMap_cons, List.flatMap_nil, jeT, jdL, jcS, je1, jd2, jcR, jdK, jeS, jeU, List.append_nil, List.set_cons_succ, List.set_cons_zero, List.cons_append, List.nil_append] at hs
 refine La rfl (Rq (Lmm rfl rfl (Lm rfl (Li jbW i_3 rfl (ja6 _) (by omega) rfl ?_))))
 refine jaH hs (i := 6) rfl i_3 rfl rfl (by exact jaM _ _) (by simp; omega) rfl ?_
 intro w hs
 dsimp only [sS, sZ, sA, sN] at hs
 refine Rt (Wsq (W_label' (Nt (Wsq ?_))))
 rw [jc3] at hs
 obtain ⟨gq, hgq, hgqo⟩ : ∃ gq, gq = b39 /\ w0.heap.size <= gq := ⟨_, rfl, hb39⟩
 rw [<- hgq] at hs ⊢
 clear hgq hb39 hnb39
 have hBf : Bf n (cf n C) (gi U) (gi V) i j (toN of) (gi (frm.set j j)) (fun _ => 0) 1 := by
  have e : ∀ q, gi (frm.set j (j : Int)) q = if q = j then (j : Int) else gi frm q := fun q => by rw [gi, jfW (by omega)]
  refine ⟨by rw [e, if_pos rfl], fun q hq => ?_, fun q hq h0 hqj => ?_, fun q hq h0 => by omega⟩
  ·
   rw [e]; split
   ·
    omega
   exact .inl (hf1 q hq)
  rw [e, if_neg hqj, hf1 q hq] at h0; omega
 have hfg0 : gi (frm.set j (j : Int)) goal = -1 := by rw [gi, jfW (by omega), if_neg (by omega)]; exact hf1 goal hgon
 have hcl0 : ∀ q, q < n -> 0 <= gi (frm.set j (j : Int)) q -> (q : Int) ∈ [(j : Int)] := fun q hq h0 => by
  rw [gi, jfW (by omega)] at h0
  by_cases hqj : q = j
  ·
   simp [hqj]
  rw [if_neg hqj] at h0; have := hf1 q hq; simp only [gi] at this; omega
 refine jmM (fun (frm : List Int) (w : World) => [(0, .pointer (some ⟨B, 0, none⟩)), (1, .int .i64 i), (2, .int .i64 j), (7, SlN gf n), (9, .int .i64 goal)]) (fun frm w => w) (fun frm w => (frm.length = n) /\ (∃ pos t, Bf n (cf n C) (gi U) (gi V) i j (toN of) (gi frm) pos t) /\ (gi frm goal = -1 -> ∀ q, q < n -> 0 <= gi frm q -> i < toN of q -> ∀ m, m < n -> cf n C (toN of q) m = gi U (toN of q) + gi V m -> 0 <= gi frm m) /\ (HS w0 w [(c, Row 2 (il C)), (u, Row 2 (il U)), (v, Row 2 (il V)), (o, Row 3 (il of)), (h, Row 3 (il has)), (B, Row 123 (jgL n c u v o h)), (gf, Row 3 (il frm))])) ?_ ?_
 ·
  refine ja4 ?_
  refine jrK (fun (frm : List Int) (vw : Value) (xs : List Int) (M : List (Nat × Obj)) (w : World) => [(0, .pointer (some ⟨B, 0, none⟩)), (1, .int .i64 i), (2, .int .i64 j), (7, SlN gf n), (9, .int .i64 goal), (10, vw)]) (fun frm vw xs M w => w) (fun frm vw xs M w => (frm.length = n) /\ (∃ pos t, Bf n (cf n C) (gi U) (gi V) i j (toN of) (gi frm) pos t) /\ (gi frm goal = -1) /\ (∀ x, x ∈ xs -> ∃ q : Nat, x = (q : Int) /\ q < n /\ 0 <= gi frm q) /\ (∀ q, q < n -> 0 <= gi frm q -> (q : Int) ∈ xs ∨ (i < toN of q -> ∀ m, m < n -> cf n C (toN of q) m = gi U (toN of q) + gi V m -> 0 <= gi frm m)) /\ (xs.length + frm.count (-1) <= n + 1) /\ (Qu w0 3 vw xs M) /\ (HS w0 w ([(c, Row 2 (il C)), (u, Row 2 (il U)), (v, Row 2 (il V)), (o, Row 3 (il of)), (h, Row 3 (il has)), (B, Row 123 (jgL n c u v o h)), (gf, Row 3 (il frm))] ++ M))) (fun frm vw xs M w => xs.length + frm.count (-1)) (frm.set j (j : Int)) (.slice (some ⟨gq, 0, none⟩) 1 1) ([(j : Int)]) ([(gq, Row 3 [.int .i64 j])]) (w) (is := [0, 1, 2, 7, 9, 10]) rfl rfl ?_ ?_
  ·
   refine ⟨by simp [hfl], ⟨_, _, hBf⟩, hfg0, fun x hx => ?_, fun q hq h0 => .inl (hcl0 q hq h0), ?_, ⟨gq, 0, 1, [], [], rfl, rfl, rfl, hgqo, by simp, by simp⟩, hs⟩
   ·
    rw [List.mem_singleton] at hx
    exact ⟨j, hx, hj, by rw [hBf.j0]; omega⟩
   have := List.count_le_length (a := (-1 : Int)) (l := frm.set j (j : Int))
   simp [hfl] at this ⊢; omega
  clear hs hBf hfg0 hcl0 hf1 hfl
  intro frm vw xs M w hI
  show W _ _ _ _ [(0, .pointer (some ⟨B, 0, none⟩)), (1, .int .i64 i), (2, .int .i64 j), (7, SlN gf n), (9, .int .i64 goal), (10, vw)] w
  obtain ⟨hfl, ⟨pos, t, hBf⟩, hfg, hxs, hcl, hcnt, hq, hs⟩ := hI
  cases xs
  ·
   obtain ⟨qa, qc, rfl⟩ := Qu.len hq
   refine Wqq (Lm rfl (Le jbW rfl (jgY rfl rfl (Rt (Wf rfl (jaK (ja0 (ja8 (ja1 (jbD (frm, w) (is := [0, 1, 2, 7, 9]) (I' := (fun (frm : List Int) (w : World) => (frm.length = n) /\ (∃ pos t, Bf n (cf n C) (gi U) (gi V) i j (toN of) (gi frm) pos t) /\ (gi frm goal = -1 -> ∀ q, q < n -> 0 <= gi frm q -> i < toN of q -> ∀ m, m < n -> cf n C (toN of q) m = gi U (toN of q) + gi V m -> 0 <= gi frm m) /\ (HS w0 w [(c, Row 2 (il C)), (u, Row 2 (il U)), (v, Row 2 (il V)), (o, Row 3 (il of)), (h, Row 3 (il has)), (B, Row 123 (jgL n c u v o h)), (gf, Row 3 (il frm))])) (frm) (w)) rfl rfl rfl ?_))))))))))
   exact ⟨hfl, ⟨_, _, hBf⟩, fun _ q hq' h0 => (hcl q hq' h0).resolve_left (by simp), hs.dropR (Qu.own hq)⟩
  rename_i x rest
  obtain ⟨g, oo, cap, pre, sp, rfl, rfl, hp, hgo', hlc, hcs⟩ := hq
  obtain ⟨k0, rfl, hk0n, hk0f⟩ := hxs x (by simp)
  have hqn := Qu.pop (E := 3) hp hgo' hlc hcs
  obtain ⟨v1, hv1⟩ : ∃ v1, v1 = Value.slice (slA (some ⟨g, oo, none⟩) 1 cap 1) (((k0 : Int) :: rest).length - 1) (cap - 1) := ⟨_, rfl⟩
  rw [<- hv1] at hqn
  have hlen : 0 < ((k0 : Int) :: rest).length := by simp
  obtain ⟨M1, hM1⟩ : ∃ M1, M1 = [(g, Row 3 (pre ++ il ((k0 : Int) :: rest) ++ sp))] := ⟨_, rfl⟩
  have hx0 : w.cell? ((Addr.mk g oo none).add 0) = some (.int .i64 k0) := by
   rw [Addr.add_lit, Nat.add_zero]
   exact hs.cell (i := 7) rfl (by rw [List.append_assoc, List.getElem?_append_right (by omega), hp, Nat.sub_self]; simp [il])
  rw [<- hM1] at hs hqn
  obtain ⟨hofe, hofn⟩ := hof.nat hk0n
  refine Wqq (Lm rfl (Le jbW rfl (jgY rfl (jaF (by omega)) ?_)))
  refine Rt (Wt rfl (Ws (ja4 (Wq (Lm rfl (Li jbW i_3 rfl jfV (by omega) rfl ?_))))))
  refine Ll o_3 rfl (by exact hx0) ?_
  refine La rfl (Rq (Lm rfl (jaT rfl (jgG jbW i_3 rfl rfl natc_1 (by omega)) ?_)))
  refine La rfl (Rq (Lm rfl ?_))
  rw [<- hv1]
  refine Ln rfl (Lf 4 jcW rfl jg2 (Ll jgQ rfl (by exact hs.cellA (i := 5) rfl rfl) ?_))
  refine Lm rfl (Li jbW i_3 rfl (ja6 _) (by omega) rfl ?_)
  refine Ll o_3 rfl (by exact hs.cellA (i := 3) rfl (jaV (by omega))) ?_
  refine La rfl (Rqq ?_)
  rw [hofe]
  have hcl1 : ∀ q, q < n -> 0 <= gi frm q -> (q : Int) ∈ rest ∨ q = k0 ∨ (i < toN of q -> ∀ m, m < n -> cf n C (toN of q) m = gi U (toN of q) + gi V m -> 0 <= gi frm m) := fun q hq' h0 => by
   rcases hcl q hq' h0 with h5 | h5
   ·
    rcases List.mem_cons.1 h5 with h6 | h6
    ·
     exact .inr (.inl (by omega))
    exact .inl h6
   exact .inr (.inr h5)
  have hxs1 : ∀ x, x ∈ rest -> ∃ q : Nat, x = (q : Int) /\ q < n /\ 0 <= gi frm q := fun x hx => hxs x (List.mem_cons_of_mem _ hx)
  have hcnt1 : rest.length + frm.count (-1) + 1 <= n + 1 := by simp only [List.length_cons] at hcnt; omega
  clear hcl hxs hcnt hx0 hv1 hM1 hlc hcs
  by_cases hri : toN of k0 <= i
  ·
   refine Lmm rfl rfl (Cleq rfl (jaF (by omega)) ?_)
   refine Rt (Wt rfl (jaK (ja0 (ja1 (Nq (frm, v1, rest, M1, w) [0, 1, 2, 7, 9, 10] rfl ?_ ?_)))))
   ·
    dsimp only
    refine ⟨hfl, ⟨_, _, hBf⟩, hfg, hxs1, fun q hq' h0 => ?_, by omega, hqn, hs⟩
    rcases hcl1 q hq' h0 with h5 | h5 | h5
    ·
     exact .inl h5
    ·
     rw [h5]; exact .inr fun h6 => absurd h6 (by omega)
    exact .inr h5
   simp only [List.length_cons]; omega
  obtain ⟨r, hr⟩ : ∃ r, r = toN of k0 := ⟨_, rfl⟩
  rw [<- hr] at hofn hri hofe ⊢
  have hBox : w.heap[B]? = some (Row 123 (jgL n c u v o h)) := hs.has (B, _) (by simp)
  refine Lmm rfl rfl (Cleq rfl (jaA (by omega)) ?_)
  refine Rt (Wf rfl (Ws (Wq (Lmm rfl rfl (Lc f_68 rfl (row_ok B c u v o h n r w hBox h1 h2 hofn) ?_)))))
  rintro _ w' ⟨rfl, hs'⟩
  replace hs := hs.nil hs'
  clear hs' hBox
  obtain ⟨cn0, hcn0⟩ : ∃ cn0, cn0 = rest.length + frm.count (-1) := ⟨_, rfl⟩
  rw [<- hcn0] at hcnt1
  refine Le jbK rfl (Lm rfl (Rt (ja4 ?_)))
  refine W_loop6 (fun (m : Nat) (frm' : List Int) (vw : Value) (xs : List Int) (M : List (Nat × Obj)) (w : World) => [(0, .pointer (some ⟨B, 0, none⟩)), (1, .int .i64 i), (2, .int .i64 j), (7, SlN gf n), (9, .int .i64 goal), (10, vw), (11, .int .i64 k0), (12, .int .i64 r), (64, .slice (some ⟨c, r * n, none⟩) n n), (65, .int .i64 n), (66, .int .i64 m)]) (fun m frm' vw xs M w => w) (fun m frm' vw xs M w => (m <= n) /\ (frm'.length = n) /\ (∃ pos t, Bf n (cf n C) (gi U) (gi V) i j (toN of) (gi frm') pos t) /\ (gi frm' goal = -1) /\ (∀ x, x ∈ xs -> ∃ q : Nat, x = (q : Int) /\ q < n /\ 0 <= gi frm' q) /\ (∀ q, q < n -> 0 <= gi frm' q -> (q : Int) ∈ xs ∨ q = k0 ∨ (i < toN of q -> ∀ m, m < n -> cf n C (toN of q) m = gi U (toN of q) + gi V m -> 0 <= gi frm' m)) /\ (∀ q, q < m -> cf n C r q = gi U r + gi V q -> 0 <= gi frm' q) /\ (0 <= gi frm' k0) /\ (xs.length + frm'.count (-1) <= cn0) /\ (Qu w0 3 vw xs M) /\ (HS w0 w ([(c, Row 2 (il C)), (u, Row 2 (il U)), (v, Row 2 (il V)), (o, Row 3 (il of)), (h, Row 3 (il has)), (B, Row 123 (jgL n c u v o h)), (gf, Row 3 (il frm'))] ++ M))) (fun m frm' vw xs M w => n - m) (0) (frm) (v1) (rest) (M1) (w') (is := [0, 1, 2, 7, 9, 10, 11, 12, 64, 65, 66]) rfl rfl ?_ ?_
  ·
   exact ⟨Nat.zero_le _, hfl, ⟨_, _, hBf⟩, hfg, hxs1, hcl1, fun _ h => absurd h (Nat.not_lt_zero _), hk0f, by omega, hqn, hs⟩
  clear hs hqn hxs1 hcl1 hBf hfg hk0f hfl
  intro m frm' vw xs M w hI
  show W _ _ _ _ [(0, .pointer (some ⟨B, 0, none⟩)), (1, .int .i64 i), (2, .int .i64 j), (7, SlN gf n), (9, .int .i64 goal), (10, vw), (11, .int .i64 k0), (12, .int .i64 r), (64, .slice (some ⟨c, r * n, none⟩) n n), (65, .int .i64 n), (66, .int .i64 m)] w
  obtain ⟨hm, hfl, ⟨pos, t, hBf⟩, hfg, hxs, hcl, hmt, hk0f, hcnt, hqn, hs⟩ := hI
  by_cases hmn : m < n
  ·
   have hjc := idx_lt hofn hmn
   have hcr : 0 <= C.getD (r * n + m) 0 /\ C.getD (r * n + m) 0 <= 4503599627370496 := hC.rng r m hofn hmn
   have hUr : 0 <= U.getD r 0 /\ U.getD r 0 <= 4503599627370496 := hbU r hofn
   have hVj : -4503599627370496 <= V.getD m 0 /\ V.getD m 0 <= 0 := hbV m hmn
   by_cases hfm : 0 <= frm'.getD m 0
   ·
    refine Wq (jaZ rfl (jaF (by omega)) ?_)
    refine Rt (Wsq (Wt rfl (Ws (Wsq (ja4 (Wq (Lm rfl (Li jbK i_2 rfl (ja6 _) (by omega) rfl ?_))))))))
    refine Ll o_2 rfl (by rw [Addr.add_lit]; exact hs.cell (i := 0) rfl (jaV (by omega))) ?_
    refine La rfl (La rfl (Rt (Wsq (Wsq (jcH [0, 1, 2] [3, 4, 5, 6, 7, 8, 9, 10, 11, 12, 13, 14, 15, 16, 17, 18, 19, 20, 21, 22, 23] [] (fun _ _ _ => False) Tryz.mixed (by kernel_rfl) (fun _ _ _ _ _ h => h) hs ?_)))))
    refine Pm rfl (Pm rfl (Pv rfl (fun w => jdC jbW i_3 rfl rfl (ja6 _) (by omega) rfl) ?_))
    refine jbH (Hv rfl (fun w hs => jaN o_3 rfl (by exact hs.cellA (i := 6) rfl (jaV (by omega)))) ?_)
    refine Hv rfl (fun w hs => jpU rfl rfl (jaF (by omega))) ?_
    refine Hm rfl (jaU rfl rfl rfl rfl (jaU rfl rfl rfl rfl (jaU rfl rfl rfl rfl (jaU rfl rfl rfl rfl (jaU rfl rfl rfl rfl (jaU rfl rfl rfl rfl (jaU rfl rfl rfl rfl (jaU rfl rfl rfl rfl (jaU rfl rfl rfl rfl (jaU rfl rfl rfl rfl (jaU rfl rfl rfl rfl (jaU rfl rfl rfl rfl (jaU rfl rfl rfl rfl (jaU rfl rfl rfl rfl (jaU rfl rfl rfl rfl (jaU rfl rfl rfl rfl (jaU rfl rfl rfl rfl (Hv rfl (fun w hs => jf7 rfl rfl) ?_))))))))))))))))))
    refine jb2 ?_
    intro w hs
    refine Rt (Wt rfl (jaK (ja0 (ja1 (Nt (Wr (jbG rfl (ja3 (by omega)) ?_)))))))
    refine Lm rfl (Rnl (Nq (m + 1, frm', vw, xs, M, _) [0, 1, 2, 7, 9, 10, 11, 12, 64, 65, 66] rfl ?_ ?_))
    ·
     dsimp only
     refine ⟨by omega, hfl, ⟨_, _, hBf⟩, hfg, hxs, hcl, fun q hq' h0 => ?_, hk0f, hcnt, hqn, hs⟩
     by_cases hqm : q = m
     ·
      rw [hqm]; exact hfm
     exact hmt q (by omega) h0
    omega
   have hfm1 : gi frm' m = -1 := by
    rcases hBf.rng m hmn with h5 | h5
    ·
     exact h5
    exact absurd h5.1 hfm
   by_cases htt : C.getD (r * n + m) 0 = U.getD r 0 + V.getD m 0
   ·
    have hset : ∀ q, gi (frm'.set m (k0 : Int)) q = if q = m then (k0 : Int) else gi frm' q := fun q => by rw [gi, jfW (by omega)]
    have hBf2 := hBf.add (frm' := gi (frm'.set m (k0 : Int))) hfm1 hmn hk0n hk0f (by omega) (by rw [<- hr]; exact htt) (by rw [hset, if_pos rfl]) (fun q hq' => by rw [hset, if_neg hq'])
    have hkeep : ∀ q, 0 <= gi frm' q -> 0 <= gi (frm'.set m (k0 : Int)) q := fun q h0 => by rw [hset]; split <;> omega
    refine Wq (jaZ rfl (jaF (by omega)) ?_)
    refine Rt (Wsq (Wt rfl (Ws (Wsq (ja4 (Wq (Lm rfl (Li jbK i_2 rfl (ja6 _) (by omega) rfl ?_))))))))
    refine Ll o_2 rfl (by rw [Addr.add_lit]; exact hs.cell (i := 0) rfl (jaV (by omega))) ?_
    refine La rfl (La rfl (Rt (Wsq (Wsq (jcH [0, 1, 2] [3, 4, 5, 6, 7, 8, 9, 10, 11, 12, 13, 14, 15, 16, 17, 18, 19, 20, 21, 22, 23] [] (fun _ _ _ => False) Tryz.mixed (by kernel_rfl) (fun _ _ _ _ _ h => h) hs ?_)))))
    refine Pm rfl (Pm rfl (Pv rfl (fun w => jdC jbW i_3 rfl rfl (ja6 _) (by omega) rfl) ?_))
    refine jbH (Hv rfl (fun w hs => jaN o_3 rfl (by exact hs.cellA (i := 6) rfl (jaV (by omega)))) ?_)
    refine Hv rfl (fun w hs => jpU rfl rfl (jaA (by omega))) ?_
    refine Hm rfl (Hw rfl rfl (Hm rfl (Hw rfl rfl (Hm rfl (Hw rfl rfl (Hv rfl (fun w hs => jcN rfl) ?_))))))
    refine Hw rfl rfl (Hf 2 jcW rfl jd1 (Hw rfl rfl (Hv rfl (fun w hs => jaN jdR rfl (by exact hs.cellA (i := 5) rfl rfl)) ?_)))
    refine Hw rfl rfl (Hm rfl (Hw rfl rfl (Hx jbK i_2 rfl (ja6 _) (by omega) rfl ?_)))
    refine Hw rfl rfl (Hv rfl (fun w hs => jaN o_2 rfl (by exact hs.cellA (i := 1) rfl (jaV (by omega)))) ?_)
    refine Hw rfl rfl (Hm rfl (Hw rfl rfl (Hv rfl (fun w hs => jcN rfl) ?_)))
    refine Hw rfl rfl (Hf 3 jcW rfl jd1 (Hw rfl rfl (Hv rfl (fun w hs => jaN jdR rfl (by exact hs.cellA (i := 5) rfl rfl)) ?_)))
    refine Hw rfl rfl (Hm rfl (Hw rfl rfl (Hx jbK i_2 rfl (ja6 _) (by omega) rfl ?_)))
    refine Hw rfl rfl (Hv rfl (fun w hs => jaN o_2 rfl (by exact hs.cellA (i := 2) rfl (jaV (by omega)))) ?_)
    refine Hw rfl rfl (Hv rfl (fun w hs => jk6 rfl rfl (ja3 (by omega))) ?_)
    refine Hw rfl rfl (Hv rfl (fun w hs => R_neq rfl rfl (jaA (by omega))) ?_)
    refine Hv rfl (fun w hs => jf8 rfl rfl) ?_
    refine jb2 ?_
    intro w hs
    refine Rt (Wf rfl ?_)
    by_cases hmg : m = goal
    ·
     refine Ws (Wq (Lmm rfl rfl (Lm rfl (Li jbW i_3 rfl (ja6 _) (by omega) rfl ?_))))
     refine jaH hs (i := 6) rfl i_3 rfl rfl (by exact jaM _ _) (by simp; omega) rfl ?_
     intro w hs
     dsimp only [sS, sZ, sA, sN] at hs
     refine Rqq (Lmm rfl rfl (jdS rfl (jaF (by omega)) ?_))
     refine Rt (Wt rfl (jaK (ja0 (je5 rfl (ja0 (ja8 (je5 rfl (je5 rfl (ja8 (ja1 ?_))))))))))
     rw [jc3] at hs
     refine jbD (frm'.set m (k0 : Int), _) (is := [0, 1, 2, 7, 9]) (I' := (fun (frm : List Int) (w : World) => (frm.length = n) /\ (∃ pos t, Bf n (cf n C) (gi U) (gi V) i j (toN of) (gi frm) pos t) /\ (gi frm goal = -1 -> ∀ q, q < n -> 0 <= gi frm q -> i < toN of q -> ∀ m, m < n -> cf n C (toN of q) m = gi U (toN of q) + gi V m -> 0 <= gi frm m) /\ (HS w0 w [(c, Row 2 (il C)), (u, Row 2 (il U)), (v, Row 2 (il V)), (o, Row 3 (il of)), (h, Row 3 (il has)), (B, Row 123 (jgL n c u v o h)), (gf, Row 3 (il frm))])) (frm'.set m (k0 : Int)) (_)) rfl rfl rfl ?_
     refine ⟨by simp [hfl], ⟨_, _, hBf2⟩, fun h5 => ?_, hs.dropR hqn.own⟩
     rw [hset, if_pos hmg.symm] at h5
     omega
    obtain ⟨qa, qc, rfl⟩ := Qu.len hqn
    refine Ws (Wq (Lmm rfl rfl (Lm rfl (Li jbW i_3 rfl (ja6 _) (by omega) rfl ?_))))
    refine jaH hs (i := 6) rfl i_3 rfl rfl (by exact jaM _ _) (by simp; omega) rfl ?_
    intro w hs
    dsimp only [sS, sZ, sA, sN] at hs
    refine Rqq (Lmm rfl rfl (jdS rfl (jaA (by omega)) ?_))
    refine Rt (Wf rfl ?_)
    rw [jc3] at hs
    refine Ws (Wr (Lmm rfl rfl (jb4 rfl hs jbW i_3 rfl (by decide) rfl (by simp [Value.cells]) ?_)))
    intro b104 w hb104 hnb104 hs
    simp only [List.flatMap_cons, List.flatMap_nil, jeT, jdL, jcS, je1, jd2, jcR, jdK, jeS, jeU, List.append_nil, List.set_cons_succ, List.set_cons_zero, List.cons_append, List.nil_append] at hs
    have hcb : frm'.count (-1) <= n := by rw [<- hfl]; exact List.count_le_length
    refine L_appendQ rfl jbW i_3 rfl (L := [(c, Row 2 (il C)), (u, Row 2 (il U)), (v, Row 2 (il V)), (o, Row 3 (il of)), (h, Row 3 (il has)), (B, Row 123 (jgL n c u v o h)), (gf, Row 3 (il (frm'.set m (k0 : Int))))]) hs hb104 hqn rfl rfl (by omega) (by omega) ?_
    intro v2 w M2 hs hqn2
    refine La rfl (Rnl (jaB (Nt (Wr (jbG rfl (ja3 (by omega)) ?_)))))
    refine Lm rfl (Rnl (Nq (m + 1, frm'.set m (k0 : Int), v2, xs ++ [(m : Int)], M2, _) [0, 1, 2, 7, 9, 10, 11, 12, 64, 65, 66] rfl ?_ ?_))
    ·
     dsimp only
     refine ⟨by omega, by simp [hfl], ⟨_, _, hBf2⟩, by rw [hset, if_neg (fun he => hmg he.symm)]; exact hfg, fun x hx => ?_, fun q hq' h0 => ?_, fun q hq' h0 => ?_, hkeep _ hk0f, ?_, hqn2, hs⟩
     ·
      rcases List.mem_append.1 hx with h5 | h5
      ·
       obtain ⟨q, h6, h7, h8⟩ := hxs x h5
       exact ⟨q, h6, h7, hkeep q h8⟩
      rw [List.mem_singleton] at h5
      exact ⟨m, h5, hmn, by rw [hset, if_pos rfl]; omega⟩
     ·
      by_cases hqm : q = m
      ·
       rw [hqm]; exact .inl (by simp)
      rw [hset, if_neg hqm] at h0
      rcases hcl q hq' h0 with h5 | h5 | h5
      ·
       exact .inl (List.mem_append_left _ h5)
      ·
       exact .inr (.inl h5)
      exact .inr (.inr fun h6 q2 hq2 ht2 => hkeep q2 (h5 h6 q2 hq2 ht2))
     ·
      by_cases hqm : q = m
      ·
       rw [hqm, hset, if_pos rfl]; omega
      exact hkeep q (hmt q (by omega) h0)
     have h5 : frm'[m]'(by omega) = -1 := by
      have := hfm1
      simp only [gi, List.getD, List.getElem?_eq_getElem (show m < frm'.length by omega), Option.getD_some] at this
      exact this
     have h6 : 0 < frm'.count (-1) := List.count_pos_iff.2 (by rw [<- h5]; exact List.getElem_mem _)
     have h7 : ((k0 : Int) == -1) = false := by simp
     rw [List.count_set (by omega), h5, h7]
     simp
     omega
    omega
   refine Wq (jaZ rfl (jaF (by omega)) ?_)
   refine Rt (Wsq (Wt rfl (Ws (Wsq (ja4 (Wq (Lm rfl (Li jbK i_2 rfl (ja6 _) (by omega) rfl ?_))))))))
   refine Ll o_2 rfl (by rw [Addr.add_lit]; exact hs.cell (i := 0) rfl (jaV (by omega))) ?_
   refine La rfl (La rfl (Rt (Wsq (Wsq (jcH [0, 1, 2] [3, 4, 5, 6, 7, 8, 9, 10, 11, 12, 13, 14, 15, 16, 17, 18, 19, 20, 21, 22, 23] [] (fun _ _ _ => False) Tryz.mixed (by kernel_rfl) (fun _ _ _ _ _ h => h) hs ?_)))))
   refine Pm rfl (Pm rfl (Pv rfl (fun w => jdC jbW i_3 rfl rfl (ja6 _) (by omega) rfl) ?_))
   refine jbH (Hv rfl (fun w hs => jaN o_3 rfl (by exact hs.cellA (i := 6) rfl (jaV (by omega)))) ?_)
   refine Hv rfl (fun w hs => jpU rfl rfl (jaA (by omega))) ?_
   refine Hm rfl (Hw rfl rfl (Hm rfl (Hw rfl rfl (Hm rfl (Hw rfl rfl (Hv rfl (fun w hs => jcN rfl) ?_))))))
   refine Hw rfl rfl (Hf 2 jcW rfl jd1 (Hw rfl rfl (Hv rfl (fun w hs => jaN jdR rfl (by exact hs.cellA (i := 5) rfl rfl)) ?_)))
   refine Hw rfl rfl (Hm rfl (Hw rfl rfl (Hx jbK i_2 rfl (ja6 _) (by omega) rfl ?_)))
   refine Hw rfl rfl (Hv rfl (fun w hs => jaN o_2 rfl (by exact hs.cellA (i := 1) rfl (jaV (by omega)))) ?_)
   refine Hw rfl rfl (Hm rfl (Hw rfl rfl (Hv rfl (fun w hs => jcN rfl) ?_)))
   refine Hw rfl rfl (Hf 3 jcW rfl jd1 (Hw rfl rfl (Hv rfl (fun w hs => jaN jdR rfl (by exact hs.cellA (i := 5) rfl rfl)) ?_)))
   refine Hw rfl rfl (Hm rfl (Hw rfl rfl (Hx jbK i_2 rfl (ja6 _) (by omega) rfl ?_)))
   refine Hw rfl rfl (Hv rfl (fun w hs => jaN o_2 rfl (by exact hs.cellA (i := 2) rfl (jaV (by omega)))) ?_)
   refine Hw rfl rfl (Hv rfl (fun w hs => jk6 rfl rfl (ja3 (by omega))) ?_)
   refine Hw rfl rfl (Hv rfl (fun w hs => R_neq rfl rfl (jaF (by omega))) ?_)
   refine Hv rfl (fun w hs => jf8 rfl rfl) ?_
   refine jb2 ?_
   intro w hs
   refine Rt (Wt rfl (jaK (ja0 (ja1 (Nt (Wr (jbG rfl (ja3 (by omega)) ?_)))))))
   refine Lm rfl (Rnl (Nq (m + 1, frm', vw, xs, M, _) [0, 1, 2, 7, 9, 10, 11, 12, 64, 65, 66] rfl ?_ ?_))
   ·
    dsimp only
    refine ⟨by omega, hfl, ⟨_, _, hBf⟩, hfg, hxs, hcl, fun q hq' h0 => ?_, hk0f, hcnt, hqn, hs⟩
    by_cases hqm : q = m
    ·
     rw [hqm] at h0; exact absurd h0 htt
    exact hmt q (by omega) h0
   omega
  refine Wq (jaZ rfl (jaA (by omega)) ?_)
  refine Rt (Wsq (Wf rfl (jaK (ja0 (ja8 (ja1 (jaB (Nq (frm', vw, xs, M, w) [0, 1, 2, 7, 9, 10] rfl ?_ ?_))))))))
  ·
   dsimp only
   refine ⟨hfl, ⟨_, _, hBf⟩, hfg, hxs, fun q hq' h0 => ?_, by omega, hqn, hs⟩
   rcases hcl q hq' h0 with h5 | h5 | h5
   ·
    exact .inl h5
   ·
    rw [h5, <- hr]; exact .inr fun _ q2 hq2 ht2 => hmt q2 (by omega) ht2
   exact .inr h5
  simp only [List.length_cons]; omega
 clear hs hBf hfg0 hcl0 hf1 hfl
 intro frm w hI
 show W _ _ _ _ [(0, .pointer (some ⟨B, 0, none⟩)), (1, .int .i64 i), (2, .int .i64 j), (7, SlN gf n), (9, .int .i64 goal)] w
 obtain ⟨hfl, ⟨pos, t, hBf⟩, hcl, hs⟩ := hI
 have hOf : Own w0 [(gf, Row 3 (il frm))] := Own.cons hgfo Own.nil
 by_cases hgf : frm.getD goal 0 < 0
 ·
  have hg1 : gi frm goal = -1 := by
   rcases hBf.rng goal hgon with h5 | h5
   ·
    exact h5
   have h6 : 0 <= frm.getD goal 0 := h5.1
   omega
  have hno : ∀ M, TB n (cf n C) (gi U) (gi V) M -> (∀ q, q < i -> M q = toN has q) -> M i ≠ j := fun M hM hlow =>
   hPf.no_turn hi hj (fun q => 0 <= gi frm q) (by show 0 <= gi frm j; rw [hBf.j0]; omega) (by show ¬0 <= gi frm (toN has i); rw [<- hgo, hg1]; omega) (fun q hq' h0 hiq m hm ht => hcl hg1 q hq' h0 hiq m hm ht) hM hlow
  refine Wqq (Lmm rfl rfl (Li jbW i_3 rfl (ja6 _) (by omega) rfl ?_))
  refine Ll o_3 rfl (by exact hs.cellA (i := 6) rfl (jaV (by omega))) ?_
  refine jaZ rfl (jaF (by omega)) ?_
  refine Rt (Wt rfl (Wq (La rfl (Rt (jaW (ja2 (jmN (ja9 rfl rfl ?_))))))))
  exact ⟨_, rfl, .inl ⟨rfl, hs.dropR (L := jd9 B c u v o h n C U V of has) hOf, hno⟩⟩
 have hgf0 : 0 <= gi frm goal := by simp only [gi]; omega
 refine Wqq (Lmm rfl rfl (Li jbW i_3 rfl (ja6 _) (by omega) rfl ?_))
 refine Ll o_3 rfl (by exact hs.cellA (i := 6) rfl (jaV (by omega))) ?_
 refine jaZ rfl (jaA (by omega)) ?_
 refine Rt (Wf rfl (Ws (Wqq (Lm rfl (La rfl (Rt (ja4 ?_)))))))
 refine jcK (fun (m : Nat) (of' : List Int) (has' : List Int) (w : World) => [(0, .pointer (some ⟨B, 0, none⟩)), (1, .int .i64 i), (2, .int .i64 j), (7, SlN gf n), (15, .int .i64 m)]) (fun m of' has' w => w) (fun m of' has' w => (m < n) /\ (0 <= gi frm m) /\ (InR n of') /\ (InR n has') /\ (Rot n (cf n C) (gi U) (gi V) i (toN of) (toN has) (fun q => 0 <= gi frm q) pos (toN of') (toN has') m) /\ (HS w0 w [(c, Row 2 (il C)), (u, Row 2 (il U)), (v, Row 2 (il V)), (o, Row 3 (il of')), (h, Row 3 (il has')), (B, Row 123 (jgL n c u v o h)), (gf, Row 3 (il frm))])) (fun m of' has' w => pos m) (goal) (of) (has) (_) (is := [0, 1, 2, 7, 15]) rfl rfl ?_ ?_
 ·
  exact ⟨hgon, hgf0, hof, hhas, by rw [hgo]; exact hPf.rot hi, hs⟩
 clear hs hgf hgf0
 intro m of' has' w hI
 show W _ _ _ _ [(0, .pointer (some ⟨B, 0, none⟩)), (1, .int .i64 i), (2, .int .i64 j), (7, SlN gf n), (15, .int .i64 m)] w
 obtain ⟨hmn, hmf, hof', hhas', hRot, hs⟩ := hI
 have hol' := hof'.len
 have hhl' := hhas'.len
 by_cases hmj : m = j
 ·
  obtain ⟨o1, o2, o3⟩ := hof'.set hj hi
  obtain ⟨q1, q2, q3⟩ := hhas'.set hi hj
  rw [hmj] at hRot
  have hfin := hRot.fin hPf.feas hi hj htj o2 o3 q2 q3
  refine Wqq (Lmm rfl rfl (jk7 rfl (jaA (by omega)) ?_))
  refine Rt (Wf rfl (jaK (ja0 (ja8 (ja1 (Nt (Wsq (jcH [0, 1, 2, 4, 5, 6, 7, 9, 10, 11] [3, 8, 12] [13, 14, 15] (fun _ _ _ => False) Tryz.mixed (by kernel_rfl) (fun _ _ _ _ _ h => h) hs ?_))))))))
  refine Pm rfl (Pn rfl (Pfa 4 jcW rfl jg2 (Pm rfl (Pm rfl (Pn rfl (Pfa 5 jcW rfl jg2 (Pm rfl (Pm rfl (Pm rfl (jbH (Hv rfl (fun w hs => jaN jgQ rfl (by exact hs.cellA (i := 5) rfl rfl)) ?_)))))))))))
  refine Hl jgQ rfl (fun w hs => (by exact hs.cellA (i := 5) rfl rfl)) ?_
  refine Hx jbW i_3 rfl (ja6 _) (by omega) rfl ?_
  refine jb2 ?_
  intro w hs
  refine jaH hs (i := 3) rfl i_3 rfl rfl (by exact jaM _ _) (by simp; omega) rfl ?_
  intro w hs
  dsimp only [sS, sZ, sA, sN] at hs
  refine Li jbW i_3 rfl (ja6 _) (by omega) rfl ?_
  refine jaH hs (i := 4) rfl i_3 rfl rfl (by exact jaM _ _) (by simp; omega) rfl ?_
  intro w hs
  dsimp only [sS, sZ, sA, sN] at hs
  refine Rq (La rfl (Rt (jaW (jmN (ja9 rfl rfl ?_)))))
  rw [jc3, jc3] at hs
  exact ⟨_, rfl, .inr ⟨rfl, _, _, hs.dropR (L := jd9 B c u v o h n C U V (of'.set j i) (has'.set i j)) hOf, o1, q1, hfin, fun q hq' => by rw [q3 q (by omega)]; exact hRot.low q hq', q2⟩⟩
 obtain ⟨p1, p2, p3, p4⟩ := hBf.par m hmn hmf hmj
 have hkk : (gi frm m).toNat < n := by
  rcases hBf.rng m hmn with h5 | h5 <;> omega
 obtain ⟨k, hk⟩ : ∃ k, k = (gi frm m).toNat := ⟨_, rfl⟩
 have hke : frm.getD m 0 = (k : Int) := by rw [hk]; show frm.getD m 0 = (((frm.getD m 0).toNat : Nat) : Int); have : 0 <= frm.getD m 0 := hmf; omega
 rw [<- hk] at p1 p2 p3 p4 hkk
 obtain ⟨hoe, hon⟩ := hof'.nat hkk
 obtain ⟨r, hr⟩ : ∃ r, r = toN of' k := ⟨_, rfl⟩
 rw [<- hr] at hoe hon
 obtain ⟨o1, o2, o3⟩ := hof'.set hmn hon
 obtain ⟨q1, q2, q3⟩ := hhas'.set hon hmn
 have hst := hRot.step hmn hkk p1 p2 p3 p4 (by rw [o2, hr]) o3 (by rw [<- hr]; exact q2) (fun c hc => q3 c (by rw [hr]; exact hc))
 refine Wqq (Lmm rfl rfl (jk7 rfl (jaF (by omega)) ?_))
 refine Rt (Wt rfl (Ws (Wsq (ja4 (Wsq (jcH [0, 1, 2, 4, 5, 6] [3, 7, 8, 9, 10] [] (fun _ _ _ => False) Tryz.mixed (by kernel_rfl) (fun _ _ _ _ _ h => h) hs ?_))))))
 refine Pm rfl (Pn rfl (Pfa 4 jcW rfl jg2 (Pm rfl (Pm rfl (Pv rfl (fun w => jdC jbW i_3 rfl rfl (ja6 _) (by omega) rfl) ?_)))))
 refine jbH (Hv rfl (fun w hs => jaN jgQ rfl (by exact hs.cellA (i := 5) rfl rfl)) ?_)
 refine Hl o_3 rfl (fun w hs => (by exact hs.cellA (i := 6) rfl (jaV (by omega)))) ?_
 rw [hke]
 refine Hx jbW i_3 rfl (ja6 _) (by omega) rfl ?_
 refine Hl o_3 rfl (fun w hs => (by exact hs.cellA (i := 3) rfl (jaV (by omega)))) ?_
 refine Hv rfl (fun w hs => jbS rfl) ?_
 refine jb2 ?_
 intro w hs
 refine Rt (jcH [0, 1, 2, 4, 5, 6, 7, 9, 10, 11] [3, 8, 12] [13, 14, 15] (fun _ _ _ => False) Tryz.mixed (by kernel_rfl) (fun _ _ _ _ _ h => h) hs ?_)
 rw [hoe]
 refine Pm rfl (Pn rfl (Pfa 4 jcW rfl jg2 (Pm rfl (Pm rfl (Pn rfl (Pfa 5 jcW rfl jg2 (Pm rfl (Pm rfl (Pm rfl (jbH (Hv rfl (fun w hs => jaN jgQ rfl (by exact hs.cellA (i := 5) rfl rfl)) ?_)))))))))))
 refine Hl jgQ rfl (fun w hs => (by exact hs.cellA (i := 5) rfl rfl)) ?_
 refine Hx jbW i_3 rfl (ja6 _) (by omega) rfl ?_
 refine jb2 ?_
 intro w hs
 refine jaH hs (i := 3) rfl i_3 rfl rfl (by exact jaM _ _) (by simp; omega) rfl ?_
 intro w hs
 dsimp only [sS, sZ, sA, sN] at hs
 refine Li jbW i_3 rfl (ja6 _) (by omega) rfl ?_
 refine jaH hs (i := 4) rfl i_3 rfl rfl (by exact jaM _ _) (by simp; omega) rfl ?_
 intro w hs
 dsimp only [sS, sZ, sA, sN] at hs
 refine Rnl (jaB (Nt (Wr (Lmm rfl rfl (Li jbW i_3 rfl (ja6 _) (by omega) rfl ?_)))))
 refine Ll o_3 rfl (by exact hs.cellA (i := 6) rfl (jaV (by omega))) ?_
 rw [hke]
 refine La rfl (Rnl ?_)
 rw [jc3, jc3] at hs
 refine Nq (k, of'.set m r, has'.set r m, _) [0, 1, 2, 7, 15] rfl ?_ ?_
 ·
  dsimp only
  exact ⟨hkk, p1, o1, q1, hst, hs⟩
 exact p2
theorem first_ok (B c u v o h n : Nat) (C U V of has : List Int) (rows : Nat) (w0 : World) (hC : CostOk n C) (h1 : 1 <= n) (h2 : n <= 512) (hr : rows <= n) (hUl : U.length = n) (hVl : V.length = n) (hof : InR n of) (hhas : InR n has)
  (hbU : ∀ r, r < n -> 0 <= gi U r /\ gi U r <= BB) (hbV : ∀ j, j < n -> -BB <= gi V j /\ gi V j <= 0) (hPf : Pf n (cf n C) (gi U) (gi V) (toN of) (toN has))
  (hG : HS w0 w0 (jd9 B c u v o h n C U V of has)) :
  Ret Tryz.prog 70 [.pointer (some ⟨B, 0, none⟩), .int .i64 rows] w0 fun _ w' => ∃ of' has', HS w0 w' (jd9 B c u v o h n C U V of' has') /\ InR n of' /\ InR n has' /\ Pf n (cf n C) (gi U) (gi V) (toN of') (toN has') /\ LM n (cf n C) (gi U) (gi V) rows (toN has') := by
 have hs := hG
 have hCl := hC.len
 refine ja7 Tryz.func70 rfl rfl rfl (Wq (Lmm rfl rfl (Rt (ja4 ?_))))
 refine jcK (fun (i : Nat) (of : List Int) (has : List Int) (w : World) => [(0, .pointer (some ⟨B, 0, none⟩)), (7, .int .i64 rows), (8, .int .i64 i)]) (fun i of has w => w) (fun i of has w => (i <= rows) /\ (InR n of) /\ (InR n has) /\ (Pf n (cf n C) (gi U) (gi V) (toN of) (toN has)) /\ (LM n (cf n C) (gi U) (gi V) i (toN has)) /\ (HS w0 w (jd9 B c u v o h n C U V of has))) (fun i of has w => rows - i) (0) (of) (has) (_) (is := [0, 7, 8]) rfl rfl ?_ ?_
 ·
  exact ⟨Nat.zero_le _, hof, hhas, hPf, LM.zero, hs⟩
 clear hs hG hof hhas hPf
 intro i of has w hI
 show W _ _ _ _ [(0, .pointer (some ⟨B, 0, none⟩)), (7, .int .i64 rows), (8, .int .i64 i)] w
 obtain ⟨hi, hof, hhas, hPf, hLM, hs⟩ := hI
 by_cases hlt : i < rows
 ·
  have hin : i < n := by omega
  have hhl := hhas.len
  have hBox : w.heap[B]? = some (Row 123 (jgL n c u v o h)) := hs.has (B, _) (by simp)
  obtain ⟨hgoe, hgon⟩ := hhas.nat hin
  refine Wq (jaZ rfl (jaF (by omega)) ?_)
  refine Rt (Wsq (Wt rfl (Ws (Wsq (jpF (fun (of : List Int) (has : List Int) (w : World) => [(0, .pointer (some ⟨B, 0, none⟩)), (7, .int .i64 rows), (8, .int .i64 i)]) (fun of has w => w) (fun of has w => (InR n of) /\ (InR n has) /\ (Pf n (cf n C) (gi U) (gi V) (toN of) (toN has)) /\ (LM n (cf n C) (gi U) (gi V) (i + 1) (toN has)) /\ (HS w0 w (jd9 B c u v o h n C U V of has))) ?_ ?_)))))
  ·
   refine ja4 (Wq (Lm rfl (La rfl (Rq (Lmm rfl rfl (Lc f_68 rfl (row_ok B c u v o h n i w hBox h1 h2 hin) ?_))))))
   rintro _ w' ⟨rfl, hs'⟩
   replace hs := hs.nil hs'
   clear hs' hBox
   refine La rfl (Rq (Lm rfl (Ln rfl (Lf 5 jcW rfl jg2 (Ll jgQ rfl (by exact hs.cellA (i := 5) rfl rfl) ?_)))))
   refine Lm rfl (Li jbW i_3 rfl (ja6 _) (by omega) rfl ?_)
   refine Ll o_3 rfl (by exact hs.cellA (i := 4) rfl (jaV (by omega))) ?_
   refine Lm rfl (Rt (ja4 ?_))
   rw [hgoe]
   refine jd8 (fun (j : Nat) (w : World) => [(0, .pointer (some ⟨B, 0, none⟩)), (4, .int .i64 i), (5, .slice (some ⟨c, i * n, none⟩) n n), (7, .int .i64 rows), (8, .int .i64 i), (20, .int .i64 (toN has i)), (21, .int .i64 j)]) (fun j w => w) (fun j w => (j <= toN has i) /\ (Nb n (cf n C) (gi U) (gi V) i j (toN has)) /\ (HS w0 w (jd9 B c u v o h n C U V of has))) (fun j w => toN has i - j) (0) (w') (is := [0, 4, 5, 7, 8, 20, 21]) rfl rfl ?_ ?_
   ·
    exact ⟨Nat.zero_le _, Nb.zero, hs⟩
   clear hs
   intro j w hI
   show W _ _ _ _ [(0, .pointer (some ⟨B, 0, none⟩)), (4, .int .i64 i), (5, .slice (some ⟨c, i * n, none⟩) n n), (7, .int .i64 rows), (8, .int .i64 i), (20, .int .i64 (toN has i)), (21, .int .i64 j)] w
   obtain ⟨hj, hNb, hs⟩ := hI
   by_cases hlt2 : j < toN has i
   ·
    have hjn : j < n := by omega
    have hjc := idx_lt hin hjn
    have hcr : 0 <= C.getD (i * n + j) 0 /\ C.getD (i * n + j) 0 <= 4503599627370496 := hC.rng i j hin hjn
    have hUr : 0 <= U.getD i 0 /\ U.getD i 0 <= 4503599627370496 := hbU i hin
    have hVj : -4503599627370496 <= V.getD j 0 /\ V.getD j 0 <= 0 := hbV j hjn
    by_cases htt : C.getD (i * n + j) 0 = U.getD i 0 + V.getD j 0
    ·
     refine Wq (jaZ rfl (jaF (by omega)) ?_)
     refine Rt (Wsq (Wt rfl (Ws (Wsq (ja4 (Wq (Lm rfl (La rfl (Rt (Wsq (jcH [0, 1, 2, 4, 5, 6, 8, 11, 12, 13, 15] [3, 7, 9, 10, 14, 16, 17, 18, 19, 20, 21, 22, 23] [24, 25] (fun _ _ _ => False) Tryz.mixed (by kernel_rfl) (fun _ _ _ _ _ h => h) hs ?_)))))))))))
     refine Pm rfl (Pm rfl (Pv rfl (fun w => jdC jbK i_2 rfl rfl (ja6 _) (by omega) rfl) ?_))
     refine Pm rfl (Pn rfl (Pfa 2 jcW rfl jd1 (Pm rfl (Pm rfl (Pn rfl (Pfa 3 jcW rfl jd1 (Pm rfl (jbH ?_))))))))
     refine Hl o_2 rfl (fun w hs => (by rw [Addr.add_lit]; exact hs.cell (i := 0) rfl (jaV (by omega)))) ?_
     refine Hl jdR rfl (fun w hs => (by exact hs.cellA (i := 5) rfl rfl)) ?_
     refine Hx jbK i_2 rfl (ja6 _) (by omega) rfl ?_
     refine Hl o_2 rfl (fun w hs => (by exact hs.cellA (i := 1) rfl (jaV (by omega)))) ?_
     refine Hl jdR rfl (fun w hs => (by exact hs.cellA (i := 5) rfl rfl)) ?_
     refine Hx jbK i_2 rfl (ja6 _) (by omega) rfl ?_
     refine Hl o_2 rfl (fun w hs => (by exact hs.cellA (i := 2) rfl (jaV (by omega)))) ?_
     refine Hv rfl (fun w hs => jk6 rfl rfl (ja3 (by omega))) ?_
     refine Hv rfl (fun w hs => R_eql rfl rfl (jaF (by omega))) ?_
     refine Hm rfl (Hw rfl rfl (Hm rfl (Hw rfl rfl (Hm rfl (Hw rfl rfl (Hm rfl (jb2 ?_)))))))
     intro w hs
     refine Rw rfl (Lc f_91 rfl (turned_ok B c u v o h n C U V of has i j _ hC h1 h2 hUl hVl hof hhas hbU hbV hPf hin hjn hlt2 htt (HS.named (fun p hp => hs.has p hp) hs.nodup)) ?_)
     rintro _ w2 (⟨rfl, hs2, hno⟩ | ⟨rfl, of', has', hs2, o1, o2, o3, o4, o5⟩)
     ·
      replace hs := hs.callU (A := jd9 B c u v o h n C U V of has) (U := jd9 B c u v o h n C U V of has) (L2 := []) (N := []) rfl (by simpa using hs2) Own.nil
      rw [List.append_nil, List.append_nil] at hs
      refine Lpt rfl (Rt (Wf rfl (jaY (jaB (Nt (Wr (jbG rfl (ja3 (by omega)) ?_)))))))
      refine Lm rfl (Rnl (Nq (j + 1, _) [0, 4, 5, 7, 8, 20, 21] rfl ?_ ?_))
      ·
       dsimp only
       exact ⟨by omega, hNb.next hno, hs⟩
      omega
     replace hs := hs.callU (A := jd9 B c u v o h n C U V of has) (U := jd9 B c u v o h n C U V of' has') (L2 := []) (N := []) rfl (by simpa using hs2) Own.nil
     rw [List.append_nil, List.append_nil] at hs
     refine Lpt rfl (Rt (Wt rfl (jaK (je5 rfl (ja0 (ja8 (ja1 (jaB (jbD (of', has', _) (is := [0, 7, 8]) (I' := (fun (of : List Int) (has : List Int) (w : World) => (InR n of) /\ (InR n has) /\ (Pf n (cf n C) (gi U) (gi V) (toN of) (toN has)) /\ (LM n (cf n C) (gi U) (gi V) (i + 1) (toN has)) /\ (HS w0 w (jd9 B c u v o h n C U V of has))) (of') (has') (_)) rfl rfl rfl ?_)))))))))
     exact ⟨o1, o2, o3, (hLM.congr o4).next (by rw [o5]; exact hNb.congr o4), hs⟩
    refine Wq (jaZ rfl (jaF (by omega)) ?_)
    refine Rt (Wsq (Wt rfl (Ws (Wsq (ja4 (Wq (Lm rfl (La rfl (Rt (Wsq (jcH [0, 1, 2, 4, 5, 6, 8, 11, 12, 13, 15] [3, 7, 9, 10, 14, 16, 17, 18, 19, 20, 21, 22, 23] [24, 25] (fun _ _ _ => False) Tryz.mixed (by kernel_rfl) (fun _ _ _ _ _ h => h) hs ?_)))))))))))
    refine Pm rfl (Pm rfl (Pv rfl (fun w => jdC jbK i_2 rfl rfl (ja6 _) (by omega) rfl) ?_))
    refine Pm rfl (Pn rfl (Pfa 2 jcW rfl jd1 (Pm rfl (Pm rfl (Pn rfl (Pfa 3 jcW rfl jd1 (Pm rfl (jbH ?_))))))))
    refine Hl o_2 rfl (fun w hs => (by rw [Addr.add_lit]; exact hs.cell (i := 0) rfl (jaV (by omega)))) ?_
    refine Hl jdR rfl (fun w hs => (by exact hs.cellA (i := 5) rfl rfl)) ?_
    refine Hx jbK i_2 rfl (ja6 _) (by omega) rfl ?_
    refine Hl o_2 rfl (fun w hs => (by exact hs.cellA (i := 1) rfl (jaV (by omega)))) ?_
    refine Hl jdR rfl (fun w hs => (by exact hs.cellA (i := 5) rfl rfl)) ?_
    refine Hx jbK i_2 rfl (ja6 _) (by omega) rfl ?_
    refine Hl o_2 rfl (fun w hs => (by exact hs.cellA (i := 2) rfl (jaV (by omega)))) ?_
    refine Hv rfl (fun w hs => jk6 rfl rfl (ja3 (by omega))) ?_
    refine Hv rfl (fun w hs => R_eql rfl rfl (jaA (by omega))) ?_
    refine Hm rfl (jaU rfl rfl rfl rfl (jaU rfl rfl rfl rfl (jaU rfl rfl rfl rfl (jb2 ?_))))
    intro w hs
    refine Rs rfl (Lpf rfl (Rt (Wf rfl (jaY (jaB (Nt (Wr (jbG rfl (ja3 (by omega)) ?_))))))))
    refine Lm rfl (Rnl (Nq (j + 1, _) [0, 4, 5, 7, 8, 20, 21] rfl ?_ ?_))
    ·
     dsimp only
     exact ⟨by omega, hNb.next (fun M hM _ he => htt (by have := hM.2 i hin; rw [he] at this; exact this)), hs⟩
    omega
   obtain hje : j = toN has i := by omega
   rw [hje] at hNb
   refine Wq (jaZ rfl (jaA (by omega)) ?_)
   refine Rt (Wsq (Wf rfl (jaK (ja0 (ja8 (ja1 (jaB (jbD (of, has, w) (is := [0, 7, 8]) (I' := (fun (of : List Int) (has : List Int) (w : World) => (InR n of) /\ (InR n has) /\ (Pf n (cf n C) (gi U) (gi V) (toN of) (toN has)) /\ (LM n (cf n C) (gi U) (gi V) (i + 1) (toN has)) /\ (HS w0 w (jd9 B c u v o h n C U V of has))) (of) (has) (w)) rfl rfl rfl ?_))))))))
   exact ⟨hof, hhas, hPf, hLM.next hNb, hs⟩
  clear hs hof hhas hPf hLM
  intro of has w hI
  show W _ _ _ _ [(0, .pointer (some ⟨B, 0, none⟩)), (7, .int .i64 rows), (8, .int .i64 i)] w
  obtain ⟨hof, hhas, hPf, hLM, hs⟩ := hI
  refine Wr (jbG rfl (ja3 (by omega)) ?_)
  refine Lm rfl (Rnl (Nq (i + 1, of, has, w) [0, 7, 8] rfl ?_ ?_))
  ·
   dsimp only
   exact ⟨by omega, hof, hhas, hPf, hLM, hs⟩
  omega
 obtain rfl : rows = i := by omega
 refine Wq (jaZ rfl (jaA (by omega)) ?_)
 refine Rt (Wsq (Wf rfl (jaK (ja0 (ja8 (ja1 (jg0 rfl ?_)))))))
 exact ⟨_, rfl, of, has, hs, hof, hhas, hPf, hLM⟩
structure RowsI (w : World) (a : Option Addr) (rows : List (List Int)) (rvs : List Value) : Prop where
 sl : SlC w a rvs
 len : rvs.length = rows.length
 row : ∀ i, i < rows.length -> ∃ ai ci, rvs[i]? = some (.slice ai (rows.getD i []).length ci) /\ (rows.getD i []).length <= ci /\ (rows.getD i []).length <= 17592186043904 /\ SlC w ai (il (rows.getD i []))
theorem RowsI.old {w0 w : World} {L : List (Nat × Obj)} {a : Option Addr} {rows : List (List Int)} {rvs : List Value} (h : RowsI w0 a rows rvs) (hs : HS w0 w L) (ho : Own w0 L) : RowsI w a rows rvs :=
 ⟨h.sl.old hs ho, h.len, fun i hi => let ⟨ai, ci, h1, h3, h4, h2⟩ := h.row i hi; ⟨ai, ci, h1, h3, h4, h2.old hs ho⟩⟩
abbrev el (rows : List (List Int)) (i j : Nat) : Int := (rows.getD i []).getD j 0
abbrev wid (rows : List (List Int)) (i : Nat) : Nat := (rows.getD i []).length
def chk (rows : List (List Int)) : Int :=
 if decide (256 < rows.length) || rows.any (fun r => decide (256 < r.length)) then 3
 else if rows.any (fun r => decide (r.length ≠ wid rows 0)) then 5
 else if rows.any (fun r => r.any fun c => decide (1099511627776 < c)) then 2 else 0
theorem any_idx {rows : List (List Int)} {p : List Int -> Bool} : rows.any p = true ↔ ∃ i, i < rows.length /\ p (rows.getD i []) = true := by
 rw [List.any_eq_true]
 constructor
 ·
  rintro ⟨x, hx, hp⟩
  obtain ⟨i, hi, he⟩ := List.getElem_of_mem hx
  exact ⟨i, hi, by simp only [List.getD, List.getElem?_eq_getElem hi, Option.getD_some, he]; exact hp⟩
 rintro ⟨i, hi, hp⟩
 refine ⟨rows[i], List.getElem_mem _, ?_⟩
 simpa only [List.getD, List.getElem?_eq_getElem hi, Option.getD_some] using hp
theorem jqC {rows : List (List Int)} {p : List Int -> Bool} (h : ∀ i, i < rows.length -> p (rows.getD i []) = false) : rows.any p = false := by
 cases hh : rows.any p with
 | false => rfl
 | true =>
  obtain ⟨i, hi, hp⟩ := any_idx.1 hh
  rw [h i hi] at hp; cases hp
theorem anyI {l : List Int} {p : Int -> Bool} : l.any p = true ↔ ∃ i, i < l.length /\ p (l.getD i 0) = true := by
 rw [List.any_eq_true]
 constructor
 ·
  rintro ⟨x, hx, hp⟩
  obtain ⟨i, hi, he⟩ := List.getElem_of_mem hx
  exact ⟨i, hi, by simp only [List.getD, List.getElem?_eq_getElem hi, Option.getD_some, he]; exact hp⟩
 rintro ⟨i, hi, hp⟩
 refine ⟨l[i], List.getElem_mem _, ?_⟩
 simpa only [List.getD, List.getElem?_eq_getElem hi, Option.getD_some] using hp
theorem anyI_no {l : List Int} {p : Int -> Bool} (h : ∀ i, i < l.length -> p (l.getD i 0) = false) : l.any p = false := by
 cases hh : l.any p with
 | false => rfl
 | true =>
  obtain ⟨i, hi, hp⟩ := anyI.1 hh
  rw [h i hi] at hp; cases hp
structure Fine (rows : List (List Int)) : Prop where
 len : rows.length <= 256
 wid : ∀ i, i < rows.length -> wid rows i <= 256
 same : ∀ i, i < rows.length -> YtffobakdngbadaaGreat.wid rows i = YtffobakdngbadaaGreat.wid rows 0
 cost : ∀ i j, i < rows.length -> j < YtffobakdngbadaaGreat.wid rows i -> el rows i j <= 1099511627776
theorem jp6 {rows : List (List Int)} (h : chk rows = 0) : Fine rows := by
 unfold chk at h
 split at h
 ·
  cases h
 rename_i h1
 split at h
 ·
  cases h
 rename_i h2
 split at h
 ·
  cases h
 rename_i h3
 simp only [Bool.not_eq_true, Bool.or_eq_false_iff, decide_eq_false_iff_not] at h1 h2 h3
 have a1 : ∀ i, i < rows.length -> wid rows i <= 256 := fun i hi => Classical.byContradiction fun hn => by
  have := any_idx (p := fun r : List Int => decide (256 < r.length)).2 ⟨i, hi, show (fun r : List Int => decide (256 < r.length)) (rows.getD i []) = true from decide_eq_true (by simp only [wid] at hn; omega)⟩
  rw [h1.2] at this; cases this
 have a2 : ∀ i, i < rows.length -> wid rows i = wid rows 0 := fun i hi => Classical.byContradiction fun hn => by
  have := any_idx (p := fun r : List Int => decide (r.length ≠ wid rows 0)).2 ⟨i, hi, show (fun r : List Int => decide (r.length ≠ wid rows 0)) (rows.getD i []) = true from decide_eq_true hn⟩
  rw [h2] at this; cases this
 refine ⟨by omega, a1, a2, fun i j hi hj => Classical.byContradiction fun hn => ?_⟩
 have := any_idx (p := fun r : List Int => r.any fun c => decide (1099511627776 < c)).2 ⟨i, hi, show (fun r : List Int => r.any fun c => decide (1099511627776 < c)) (rows.getD i []) = true from anyI.2 ⟨j, hj, decide_eq_true (by simp only [el] at hn; omega)⟩⟩
 rw [h3] at this; cases this
theorem checked_ok (a : Option Addr) (k c : Nat) (rows : List (List Int)) (rvs : List Value) (w0 : World) (hr : RowsI w0 a rows rvs) (hk : rows.length = k) (hk63 : k <= 17592186043904) :
  Ret Tryz.prog 66 [.slice a k c] w0 fun v w' => v = .int .i64 (chk rows) /\ HS w0 w' [] := by
 refine Ret.start fun w hs => ?_
 have hrl := hr.len
 refine ja7 Tryz.func66 rfl rfl rfl ?_
 by_cases hbig : 256 < k
 ·
  have he : chk rows = 3 := by unfold chk; rw [decide_eq_true (by omega), Bool.true_or, if_pos rfl]
  refine Wq (La rfl (Rqq (Lm rfl (Le jd4 rfl (jgY rfl (jaF (by omega)) ?_)))))
  refine Rt (Wt rfl (Wq (La rfl (Rt (jaW (ja2 (ja9 rfl rfl ?_)))))))
  exact ⟨_, rfl, by rw [he], hs⟩
 refine Wq (La rfl (Rqq (Lm rfl (Le jd4 rfl (jgY rfl (jaA (by omega)) ?_)))))
 refine Rt (Wf rfl (Ws (Wqq (Lm rfl (Le jd4 rfl (Lm rfl (Rt (ja4 (jd8 (fun (i : Nat) (w : World) => [(0, .slice a k c), (14, .slice a k c), (15, .int .i64 k), (16, .int .i64 i)]) (fun i w => w) (fun i w => (i <= k) /\ (∀ q, q < i -> wid rows q <= 256) /\ (HS w0 w [])) (fun i w => k - i) (0) (w) (is := [0, 14, 15, 16]) rfl rfl ?_ ?_)))))))))
 ·
  exact ⟨Nat.zero_le _, fun _ h => absurd h (Nat.not_lt_zero _), hs⟩
 clear hs
 intro i w hI
 show W _ _ _ _ [(0, .slice a k c), (14, .slice a k c), (15, .int .i64 k), (16, .int .i64 i)] w
 obtain ⟨hi, hA, hs⟩ := hI
 by_cases hlt : i < k
 ·
  obtain ⟨ai, ci, g1, g2, g3, g4⟩ := hr.row i (by omega)
  by_cases hw : 256 < (rows.getD i []).length
  ·
   have he : chk rows = 3 := by
    unfold chk
    rw [any_idx (p := fun r : List Int => decide (256 < r.length)).2 ⟨i, by omega, show (fun r : List Int => decide (256 < r.length)) (rows.getD i []) = true from decide_eq_true hw⟩, Bool.or_true, if_pos rfl]
   refine Wq (jaZ rfl (jaF (by omega)) ?_)
   refine Rt (Wsq (Wt rfl (Ws (Wsq (ja4 (Wq (Li jd4 jd1 rfl (ja6 _) (by omega) (hr.sl.ao (by omega)) ?_)))))))
   refine Ll jdR rfl (by exact (hr.sl.old hs Own.nil).get g1) ?_
   refine La rfl (Rq (Lm rfl (Le jbK rfl (jgY rfl (jaF (by omega)) ?_))))
   refine Rt (Wt rfl (Wq (La rfl (Rt (jaW (jaG (ja2 (jc0 (jaG (ja2 (ja9 rfl rfl ?_)))))))))))
   exact ⟨_, rfl, by rw [he], hs⟩
  refine Wq (jaZ rfl (jaF (by omega)) ?_)
  refine Rt (Wsq (Wt rfl (Ws (Wsq (ja4 (Wq (Li jd4 jd1 rfl (ja6 _) (by omega) (hr.sl.ao (by omega)) ?_)))))))
  refine Ll jdR rfl (by exact (hr.sl.old hs Own.nil).get g1) ?_
  refine La rfl (Rq (Lm rfl (Le jbK rfl (jgY rfl (jaA (by omega)) ?_))))
  refine Rt (Wf rfl (jaY (jaB (Nt (Wr (jbG rfl (ja3 (by omega)) ?_))))))
  refine Lm rfl (Rnl (Nq (i + 1, w) [0, 14, 15, 16] rfl ?_ ?_))
  ·
   dsimp only
   refine ⟨by omega, fun q hq => ?_, hs⟩
   by_cases hqi : q = i
   ·
    rw [hqi]; simp only [wid]; omega
   exact hA q (by omega)
  omega
 obtain rfl : k = i := by omega
 have h1 : (decide (256 < rows.length) || rows.any (fun r => decide (256 < r.length))) = false := by
  rw [decide_eq_false (by omega), Bool.false_or]
  exact jqC fun q hq => decide_eq_false (by have := hA q (by omega); simp only [wid] at this; omega)
 refine Wq (jaZ rfl (jaA (by omega)) ?_)
 refine Rt (Wsq (Wf rfl (jaK (ja0 (ja8 (ja1 (Nt (Wqq (Lm rfl (Le jd4 rfl (Lm rfl (Rt (ja4 (jd8 (fun (i : Nat) (w : World) => [(0, .slice a k c), (24, .slice a k c), (25, .int .i64 k), (26, .int .i64 i)]) (fun i w => w) (fun i w => (i <= k) /\ (∀ q, q < i -> wid rows q = wid rows 0) /\ (HS w0 w [])) (fun i w => k - i) (0) (w) (is := [0, 24, 25, 26]) rfl rfl ?_ ?_))))))))))))))
 ·
  exact ⟨Nat.zero_le _, fun _ h => absurd h (Nat.not_lt_zero _), hs⟩
 clear hs hi
 intro i w hI
 show W _ _ _ _ [(0, .slice a k c), (24, .slice a k c), (25, .int .i64 k), (26, .int .i64 i)] w
 obtain ⟨hi, hB, hs⟩ := hI
 by_cases hlt : i < k
 ·
  obtain ⟨ai, ci, g1, g2, g3, g4⟩ := hr.row i (by omega)
  obtain ⟨a0, c0, k1, k2, k3, k4⟩ := hr.row 0 (by omega)
  by_cases hw : (rows.getD i []).length ≠ (rows.getD 0 []).length
  ·
   have he : chk rows = 5 := by
    unfold chk
    rw [h1, any_idx (p := fun r : List Int => decide (r.length ≠ wid rows 0)).2 ⟨i, by omega, show (fun r : List Int => decide (r.length ≠ wid rows 0)) (rows.getD i []) = true from decide_eq_true hw⟩]
    rfl
   refine Wq (jaZ rfl (jaF (by omega)) ?_)
   refine Rt (Wsq (Wt rfl (Ws (Wsq (ja4 (Wq (Li jd4 jd1 rfl (ja6 _) (by omega) (hr.sl.ao (by omega)) ?_)))))))
   refine Ll jdR rfl (by exact (hr.sl.old hs Own.nil).get g1) ?_
   refine La rfl (Rq (Lm rfl (Le jbK rfl (Lm rfl (Li jd4 jd1 rfl jfV (by omega) (hr.sl.ao (by omega)) ?_)))))
   refine Ll jdR rfl ((hr.sl.old hs Own.nil).get k1) (Le jbK rfl (jk7 rfl (jaF (by omega)) ?_))
   refine Rt (Wt rfl (Wq (La rfl (Rt (jaW (jaG (ja2 (jc0 (jaG (ja2 (ja9 rfl rfl ?_)))))))))))
   exact ⟨_, rfl, by rw [he], hs⟩
  rw [Classical.not_not] at hw
  refine Wq (jaZ rfl (jaF (by omega)) ?_)
  refine Rt (Wsq (Wt rfl (Ws (Wsq (ja4 (Wq (Li jd4 jd1 rfl (ja6 _) (by omega) (hr.sl.ao (by omega)) ?_)))))))
  refine Ll jdR rfl (by exact (hr.sl.old hs Own.nil).get g1) ?_
  refine La rfl (Rq (Lm rfl (Le jbK rfl (Lm rfl (Li jd4 jd1 rfl jfV (by omega) (hr.sl.ao (by omega)) ?_)))))
  refine Ll jdR rfl ((hr.sl.old hs Own.nil).get k1) (Le jbK rfl (jk7 rfl (jaA (by omega)) ?_))
  refine Rt (Wf rfl (jaY (jaB (Nt (Wr (jbG rfl (ja3 (by omega)) ?_))))))
  refine Lm rfl (Rnl (Nq (i + 1, w) [0, 24, 25, 26] rfl ?_ ?_))
  ·
   dsimp only
   refine ⟨by omega, fun q hq => ?_, hs⟩
   by_cases hqi : q = i
   ·
    rw [hqi]; exact hw
   exact hB q (by omega)
  omega
 obtain rfl : k = i := by omega
 have h2 : rows.any (fun r => decide (r.length ≠ wid rows 0)) = false := jqC fun q hq => decide_eq_false fun hn => hn (hB q (by omega))
 refine Wq (jaZ rfl (jaA (by omega)) ?_)
 refine Rt (Wsq (Wf rfl (jaK (ja0 (ja8 (ja1 (Nt (Wqq (Lm rfl (Le jd4 rfl (Lm rfl (Rt (ja4 (jd8 (fun (i : Nat) (w : World) => [(0, .slice a k c), (38, .slice a k c), (39, .int .i64 k), (40, .int .i64 i)]) (fun i w => w) (fun i w => (i <= k) /\ (∀ q j, q < i -> j < wid rows q -> el rows q j <= 1099511627776) /\ (HS w0 w [])) (fun i w => k - i) (0) (w) (is := [0, 38, 39, 40]) rfl rfl ?_ ?_))))))))))))))
 ·
  exact ⟨Nat.zero_le _, fun _ _ h => absurd h (Nat.not_lt_zero _), hs⟩
 clear hs hi
 intro i w hI
 show W _ _ _ _ [(0, .slice a k c), (38, .slice a k c), (39, .int .i64 k), (40, .int .i64 i)] w
 obtain ⟨hi, hD, hs⟩ := hI
 by_cases hlt : i < k
 ·
  obtain ⟨ai, ci, g1, g2, g3, g4⟩ := hr.row i (by omega)
  obtain ⟨m, hm⟩ : ∃ m, m = (rows.getD i []).length := ⟨_, rfl⟩
  rw [<- hm] at g1 g2 g3
  refine Wq (jaZ rfl (jaF (by omega)) ?_)
  refine Rt (Wsq (Wt rfl (Ws (Wsq (ja4 (Wq (Li jd4 jd1 rfl (ja6 _) (by omega) (hr.sl.ao (by omega)) ?_)))))))
  refine Ll jdR rfl (by exact (hr.sl.old hs Own.nil).get g1) ?_
  refine La rfl (Rq (Lm rfl (Le jbK rfl (Lm rfl (Rt (ja4 (jd8 (fun (j : Nat) (w : World) => [(0, .slice a k c), (38, .slice a k c), (39, .int .i64 k), (40, .int .i64 i), (44, .slice ai m ci), (45, .int .i64 m), (46, .int .i64 j)]) (fun j w => w) (fun j w => (j <= m) /\ (∀ q, q < j -> el rows i q <= 1099511627776) /\ (HS w0 w [])) (fun j w => m - j) (0) (w) (is := [0, 38, 39, 40, 44, 45, 46]) rfl rfl ?_ ?_)))))))
  ·
   exact ⟨Nat.zero_le _, fun _ h => absurd h (Nat.not_lt_zero _), hs⟩
  clear hs
  intro j w hI
  show W _ _ _ _ [(0, .slice a k c), (38, .slice a k c), (39, .int .i64 k), (40, .int .i64 i), (44, .slice ai m ci), (45, .int .i64 m), (46, .int .i64 j)] w
  obtain ⟨hj, hE, hs⟩ := hI
  by_cases hlt2 : j < m
  ·
   by_cases hw : 1099511627776 < (rows.getD i []).getD j 0
   ·
    have he : chk rows = 2 := by
     unfold chk
     rw [h1, h2, any_idx (p := fun r : List Int => r.any fun c => decide (1099511627776 < c)).2 ⟨i, by omega, show (fun r : List Int => r.any fun c => decide (1099511627776 < c)) (rows.getD i []) = true from anyI.2 ⟨j, by omega, decide_eq_true hw⟩⟩]
     rfl
    refine Wq (jaZ rfl (jaF (by omega)) ?_)
    refine Rt (Wsq (Wt rfl (Ws (Wsq (ja4 (Wq ?_))))))
    refine Li jbK i_2 rfl (ja6 _) (by omega) (g4.ao (by rw [il_length]; omega)) ?_
    refine Ll o_2 rfl (by exact (g4.old hs Own.nil).get (jaV (by omega))) ?_
    refine La rfl (Rq (Lm rfl (jgY rfl (jaF (by omega)) ?_)))
    refine Rt (Wt rfl (Wq (La rfl (Rt (jaW (jaG (ja2 (jc0 (jaG (jaG (ja2 (jc0 (jaG (ja2 (ja9 rfl rfl ?_)))))))))))))))
    exact ⟨_, rfl, by rw [he], hs⟩
   refine Wq (jaZ rfl (jaF (by omega)) ?_)
   refine Rt (Wsq (Wt rfl (Ws (Wsq (ja4 (Wq ?_))))))
   refine Li jbK i_2 rfl (ja6 _) (by omega) (g4.ao (by rw [il_length]; omega)) ?_
   refine Ll o_2 rfl (by exact (g4.old hs Own.nil).get (jaV (by omega))) ?_
   refine La rfl (Rq (Lm rfl (jgY rfl (jaA (by omega)) ?_)))
   refine Rt (Wf rfl (jaY (jaB (Nt (Wr (jbG rfl (ja3 (by omega)) ?_))))))
   refine Lm rfl (Rnl (Nq (j + 1, w) [0, 38, 39, 40, 44, 45, 46] rfl ?_ ?_))
   ·
    dsimp only
    refine ⟨by omega, fun q hq => ?_, hs⟩
    by_cases hqj : q = j
    ·
     rw [hqj]; simp only [el]; omega
    exact hE q (by omega)
   omega
  refine Wq (jaZ rfl (jaA (by omega)) ?_)
  refine Rt (Wsq (Wf rfl (jaK (ja0 (ja8 (ja1 (jaB (Nt (Wr (jbG rfl (ja3 (by omega)) ?_))))))))))
  refine Lm rfl (Rnl (Nq (i + 1, w) [0, 38, 39, 40] rfl ?_ ?_))
  ·
   dsimp only
   refine ⟨by omega, fun q j2 hq hj2 => ?_, hs⟩
   by_cases hqi : q = i
   ·
    rw [hqi] at hj2 ⊢; exact hE j2 (by simp only [wid] at hj2; omega)
   exact hD q j2 (by omega) hj2
  omega
 obtain rfl : k = i := by omega
 have he : chk rows = 0 := by
  unfold chk
  rw [h1, h2, jqC fun q hq => anyI_no fun j hj => decide_eq_false (by have := hD q j (by omega) hj; simp only [el] at this; omega)]
  rfl
 refine Wq (jaZ rfl (jaA (by omega)) ?_)
 refine Rt (Wsq (Wf rfl (jaK (ja0 (ja8 (ja1 (Nt (Wq (La rfl (Rt (jaW (ja9 rfl rfl ?_))))))))))))
 exact ⟨_, rfl, by rw [he], hs⟩
theorem idx_inj {n r q i j : Nat} (hq : q < n) (hj : j < n) (h : r * n + q = i * n + j) : r = i /\ q = j := by
 have h1 : (r * n + q) / n = r := by
  rw [Nat.mul_comm, Nat.mul_add_div (by omega), Nat.div_eq_of_lt hq, Nat.add_zero]
 have h2 : (i * n + j) / n = i := by
  rw [Nat.mul_comm, Nat.mul_add_div (by omega), Nat.div_eq_of_lt hj, Nat.add_zero]
 have h3 : r = i := by rw [<- h1, h, h2]
 subst h3
 exact ⟨rfl, by omega⟩
theorem cf_set {n : Nat} {C : List Int} (hC : C.length = n * n) {i j : Nat} (hi : i < n) (hj : j < n) (x : Int) {r q : Nat} (hq : q < n) : cf n (C.set (i * n + j) x) r q = if r = i /\ q = j then x else cf n C r q := by
 have h1 := idx_lt hi hj
 unfold cf
 rw [jfW (by omega)]
 by_cases h : r = i /\ q = j
 ·
  rw [if_pos h, if_pos (by rw [h.1, h.2])]
 rw [if_neg h, if_neg fun he => h (idx_inj hq hj he)]
theorem Best.congr {n rows : Nat} {C C' : Nat -> Nat -> Int} {f : Nat -> Nat} (h : Best n rows C f) (he : ∀ r j, r < n -> j < n -> C r j = C' r j) : Best n rows C' f := by
 have e : ∀ g, Bij n g -> cst n C g = cst n C' g := fun g hg => jfD fun r hr => he r _ hr (hg.lt r hr)
 exact ⟨h.bij, fun g hg => by rw [<- e f h.bij, <- e g hg]; exact h.least g hg, fun g hg hc => h.first g hg (by rw [e f h.bij, e g hg]; exact hc)⟩
end Go.Proofs.YtffobakdngbadaaGreat