/-
  A part of the proof: laws for walks, and plain laws, over any program of the model. Each theorem holds under its own premises alone.
-/
import Derived.Test.YtffobakdngbadaaGreatKit
import Derived.Test.YtffobakdngbadaaGreatP13
import Derived.Test.YtffobakdngbadaaGreatP11
import Derived.Test.YtffobakdngbadaaGreatP9
namespace Go.Proofs.YtffobakdngbadaaGreat
open Go Go.Lk Go.Pr
set_option maxHeartbeats 16000000 in
theorem rmost_ok (a : Option Addr) (k cp : Nat) (rows : List (List Int)) (rvs : List Value) (w0 : World) (hr : RowsI w0 a rows rvs) (hk : rows.length = k) (hk63 : k <= 17592186043904) :
  Ret Tryz.prog 53 [.slice a k cp] w0 fun v w' => ∃ v1 N ms cnt t e, v = .tuple #[v1, .int .i64 cnt, .int .i64 t, .int .i64 e] /\ HS w0 w' N /\ Bl w0 3 1 v1 ms.length (il ms) N /\ MostAns rows ms cnt t e := by
 refine Ret.start fun w hs => ?_
 have hrl := hr.len
 refine ja7 Tryz.func53 rfl rfl rfl (Wq (La rfl (La rfl (La rfl (La rfl (Rq (Lm rfl (Lc f_80 rfl (rcheck_ok a k cp rows rvs w (hr.old hs Own.nil) hk hk63) ?_))))))))
 rintro _ w1 ⟨rfl, hs'⟩
 replace hs := hs.nil hs'
 clear hs'
 by_cases he0 : chk rows ≠ 0
 ·
  refine La rfl (Rqq (Lm rfl (jk7 rfl (jaF (by omega)) ?_)))
  refine Rt (Wt rfl (Wq (Lm rfl (La rfl (La rfl (La rfl (La rfl (Rt (jaW (ja2 (jhQ rfl rfl rfl rfl rfl ?_)))))))))))
  exact ⟨_, rfl, _, [], [], _, _, _, rfl, hs, Bl.nil, .inl ⟨.inl he0, rfl, rfl, rfl, rfl⟩⟩
 rw [Classical.not_not] at he0
 rw [he0]
 by_cases hk0 : k = 0
 ·
  refine La rfl (Rqq (Lm rfl (jk7 rfl (jaA (by omega)) ?_)))
  refine Rt (Wf rfl (Ws (Wqq (Lm rfl (Le jd4 rfl (jdS rfl (jaF (by omega)) ?_))))))
  refine Rt (Wt rfl (Wq (La rfl (La rfl (La rfl (La rfl (Rt (jaW (ja2 (jhQ rfl rfl rfl rfl rfl ?_))))))))))
  exact ⟨_, rfl, _, [], [], _, _, _, rfl, hs, Bl.nil, .inl ⟨.inr (by omega), rfl, rfl, rfl, he0.symm⟩⟩
 have hF := jp6 he0
 obtain ⟨a0, c0, k1, k2, k3, k4⟩ := hr.row 0 (by omega)
 obtain ⟨m, hm⟩ : ∃ m, m = (rows.getD 0 []).length := ⟨_, rfl⟩
 have hm256 : m <= 256 := by rw [hm]; exact hF.wid 0 (by omega)
 have hk256 := hF.len
 rw [<- hm] at k1 k2 k3
 obtain ⟨n, hn⟩ : ∃ n, n = m + k := ⟨_, rfl⟩
 have hcel : ∀ r j, r < rows.length -> j < m -> el rows r j <= 1099511627776 := fun r j hr hj => hF.cost r j hr (by rw [hF.same r hr]; show j < (rows.getD 0 []).length; omega)
 refine La rfl (Rqq (Lm rfl (jk7 rfl (jaA (by omega)) ?_)))
 refine Rt (Wf rfl (Ws (Wqq (Lm rfl (Le jd4 rfl (jdS rfl (jaA (by omega)) ?_))))))
 refine Rt (Wf rfl (Ws (Wq (Lm rfl (Li jd4 jd1 rfl jfV (by omega) (hr.sl.ao (by omega)) ?_)))))
 refine Ll jdR rfl ((hr.sl.old hs Own.nil).get k1) (Le jbK rfl (La rfl (Rq (La rfl (Rqq (La rfl (Rt (ja4 ?_))))))))
 refine jpE (fun (i : Nat) (v8 : Value) (vs : List Value) (rs : List (List Int)) (Mo : List (Nat × Obj)) (Ms : List (Nat × Obj)) (w : World) => [(0, .slice a k cp), (7, .int .i64 m), (8, v8), (9, .int .i64 i)]) (fun i v8 vs rs Mo Ms w => w) (fun i v8 vs rs Mo Ms w => (i <= k) /\ (HS w0 w (Mo ++ Ms)) /\ (Bl w0 88 1 v8 i vs Mo) /\ (RB (npB w0) vs rs Ms) /\ (rs.length = i) /\ (∀ r, r < i -> (rs.getD r []).length = n /\ ∀ j, j < n -> el rs r j = msC rows m r j)) (fun i v8 vs rs Mo Ms w => k - i) (0) (.slice none 0 0) ([]) ([]) ([]) ([]) (w1) (is := [0, 7, 8, 9]) rfl rfl ?_ ?_
 ·
  exact ⟨Nat.zero_le _, hs, Bl.nil, .nil, rfl, fun _ h => absurd h (Nat.not_lt_zero _)⟩
 clear hs
 intro i v8 vs rs Mo Ms w hI
 show W _ _ _ _ [(0, .slice a k cp), (7, .int .i64 m), (8, v8), (9, .int .i64 i)] w
 obtain ⟨hi, hs, hbo, hrb, hrl2, hrs⟩ := hI
 have hOos : Own w0 (Mo ++ Ms) := hbo.own.app hrb.own
 by_cases hlt : i < k
 ·
  obtain ⟨ai, ci, g1, g2, g3, g4⟩ := hr.row i (by omega)
  have hwi : (rows.getD i []).length = m := by rw [hm]; exact hF.same i (by omega)
  rw [hwi] at g1 g2 g3
  refine Wqq (Lmm rfl rfl (Le jd4 rfl (jaZ rfl (jaF (by omega)) ?_)))
  refine Rt (Wt rfl (Ws (Wsq (ja4 (Wq (La rfl (Rqq (La rfl (Rt (ja4 ?_))))))))))
  refine jrK (fun (j : Nat) (v9 : Value) (T : List Int) (M9 : List (Nat × Obj)) (w : World) => [(0, .slice a k cp), (7, .int .i64 m), (8, v8), (9, .int .i64 i), (10, v9), (11, .int .i64 j)]) (fun j v9 T M9 w => w) (fun j v9 T M9 w => (j <= n) /\ (T.length = j) /\ (∀ z, z < j -> gi T z = msC rows m i z) /\ (Bl w0 2 1 v9 j (il T) M9) /\ (HS w0 w ((Mo ++ Ms) ++ M9))) (fun j v9 T M9 w => n - j) (0) (.slice none 0 0) ([]) ([]) (w) (is := [0, 7, 8, 9, 10, 11]) rfl rfl ?_ ?_
  ·
   exact ⟨Nat.zero_le _, rfl, fun _ h => absurd h (Nat.not_lt_zero _), Bl.nil, by simpa using hs⟩
  clear hs
  intro j v9 T M9 w hI
  show W _ _ _ _ [(0, .slice a k cp), (7, .int .i64 m), (8, v8), (9, .int .i64 i), (10, v9), (11, .int .i64 j)] w
  obtain ⟨hj, hTl, hT, hb9, hs⟩ := hI
  by_cases hlt2 : j < n
  ·
   have hls : msC rows m i j = if j = m + i then 562949953421312 else if m <= j ∨ el rows i j < 0 then 4503599627370496 else el rows i j := by unfold msC; rw [if_pos (by omega)]
   have hT' : ∀ x, x = msC rows m i j -> ∀ z, z < j + 1 -> gi (T ++ [x]) z = msC rows m i z := fun x hx z hz => by
    show (T ++ [x]).getD z 0 = _
    simp only [List.getD]
    by_cases hzj : z < j
    ·
     rw [List.getElem?_append_left (by omega)]; exact hT z hzj
    obtain rfl : z = j := by omega
    rw [List.getElem?_append_right (by omega), hTl, Nat.sub_self, <- hx]; rfl
   by_cases hja : j = m + i
   ·
    refine Wqq (Lmm rfl rfl (Lm rfl (Le jd4 rfl (jbG rfl (ja3 (by omega)) ?_))))
    refine jaZ rfl (jaF (by omega)) ?_
    refine Rt (Wt rfl (Ws (Wsq (ja4 (Wq (La rfl (Rqq (Lmm rfl rfl (jaZ rfl (jaA (by omega)) ?_)))))))))
    refine Lm rfl (Rs rfl (Rs rfl (Rs rfl (Rs rfl (Rs rfl (Rs rfl (Rs rfl (Rs rfl (Lpf rfl (Rt (Wf rfl (jaY (Nt (Wqq (Lmm rfl rfl (Lm rfl (jbG rfl (ja3 (by omega)) ?_)))))))))))))))))
    refine jdS rfl (jaF (by omega)) ?_
    refine Rt (Wt rfl (Wr (La rfl (Rr (Lmm rfl rfl (jb0 rfl hs jbK i_2 rfl (by decide) rfl rfl ?_))))))
    intro b72 w hb72 hnb72 hs
    simp only [List.map_cons, List.map_nil] at hs
    refine jb8 (L := Mo ++ Ms) (M := M9) rfl jbK i_2 rfl hs (by assumption) hb9 rfl rfl rfl (by simp [Value.oneCell']) (by omega) (by omega) ?_
    intro v9' w M9' hs hb9'
    rw [jeD] at hb9'
    refine La rfl (Rnl (jaB (Nt (Wr (Lm rfl (jbG rfl (ja3 (by omega)) ?_))))))
    refine La rfl (Rnl (Nq (j + 1, v9', T ++ [562949953421312], M9', w) [0, 7, 8, 9, 10, 11] rfl ?_ ?_))
    ·
     dsimp only
     exact ⟨by omega, by simp [hTl], hT' _ (by rw [hls, if_pos hja]), hb9', hs⟩
    omega
   by_cases hjm : m <= j
   ·
    refine Wqq (Lmm rfl rfl (Lm rfl (Le jd4 rfl (jbG rfl (ja3 (by omega)) ?_))))
    refine jaZ rfl (jaF (by omega)) ?_
    refine Rt (Wt rfl (Ws (Wsq (ja4 (Wq (La rfl (Rqq (Lmm rfl rfl (jaZ rfl (jaA (by omega)) ?_)))))))))
    refine Lm rfl (Rs rfl (Rs rfl (Rs rfl (Rs rfl (Rs rfl (Rs rfl (Rs rfl (Rs rfl (Lpf rfl (Rt (Wf rfl (jaY (Nt (Wqq (Lmm rfl rfl (Lm rfl (jbG rfl (ja3 (by omega)) ?_)))))))))))))))))
    refine jdS rfl (jaA (by omega)) ?_
    refine Rt (Wf rfl (Ws (Wr (Lmm rfl rfl (jb0 rfl hs jbK i_2 rfl (by decide) rfl rfl ?_)))))
    intro b72 w hb72 hnb72 hs
    simp only [List.map_cons, List.map_nil] at hs
    refine jb8 (L := Mo ++ Ms) (M := M9) rfl jbK i_2 rfl hs (by assumption) hb9 rfl rfl rfl (by simp [Value.oneCell']) (by omega) (by omega) ?_
    intro v9' w M9' hs hb9'
    rw [jeD] at hb9'
    refine La rfl (Rnl (jaB (Nt (Wr (Lm rfl (jbG rfl (ja3 (by omega)) ?_))))))
    refine La rfl (Rnl (Nq (j + 1, v9', T ++ [4503599627370496], M9', w) [0, 7, 8, 9, 10, 11] rfl ?_ ?_))
    ·
     dsimp only
     exact ⟨by omega, by simp [hTl], hT' _ (by rw [hls, if_neg hja, if_pos (.inl hjm)]), hb9', hs⟩
    omega
   by_cases hneg : (rows.getD i []).getD j 0 < 0
   ·
    refine Wqq (Lmm rfl rfl (Lm rfl (Le jd4 rfl (jbG rfl (ja3 (by omega)) ?_))))
    refine jaZ rfl (jaF (by omega)) ?_
    refine Rt (Wt rfl (Ws (Wsq (ja4 (Wq (La rfl (Rqq (Lmm rfl rfl (jaZ rfl (jaF (by omega)) ?_)))))))))
    refine Lm rfl (Gm rfl rfl (Gm rfl rfl (Rw rfl (Li jd4 jd1 rfl (ja6 _) (by omega) (by exact hr.sl.ao (by omega)) ?_))))
    refine Rw rfl (Ll jdR rfl (by exact (hr.sl.old hs (hOos.app hb9.own)).get g1) ?_)
    refine Gm rfl rfl (Rw rfl ?_)
    refine Li jbK i_2 rfl (ja6 _) (by omega) (by exact g4.ao (by rw [il_length]; omega)) ?_
    refine Rw rfl (Ll o_2 rfl (by exact (g4.old hs (hOos.app hb9.own)).get (jaV (by omega))) ?_)
    refine Rw rfl (jgM rfl (jaA (by omega)) ?_)
    refine Lpt rfl (Rt (Wf rfl (Ws (Wqq (Lmm rfl rfl (Lm rfl (jbG rfl (ja3 (by omega)) ?_)))))))
    refine jdS rfl (jaA (by omega)) ?_
    refine Rt (Wf rfl (Ws (Wr (Lmm rfl rfl (jb0 rfl hs jbK i_2 rfl (by decide) rfl rfl ?_)))))
    intro b72 w hb72 hnb72 hs
    simp only [List.map_cons, List.map_nil] at hs
    refine jb8 (L := Mo ++ Ms) (M := M9) rfl jbK i_2 rfl hs (by assumption) hb9 rfl rfl rfl (by simp [Value.oneCell']) (by omega) (by omega) ?_
    intro v9' w M9' hs hb9'
    rw [jeD] at hb9'
    refine La rfl (Rnl (jaB (Nt (Wr (Lm rfl (jbG rfl (ja3 (by omega)) ?_))))))
    refine La rfl (Rnl (Nq (j + 1, v9', T ++ [4503599627370496], M9', w) [0, 7, 8, 9, 10, 11] rfl ?_ ?_))
    ·
     dsimp only
     exact ⟨by omega, by simp [hTl], hT' _ (by rw [hls, if_neg hja, if_pos (.inr hneg)]), hb9', hs⟩
    omega
   refine Wqq (Lmm rfl rfl (Lm rfl (Le jd4 rfl (jbG rfl (ja3 (by omega)) ?_))))
   refine jaZ rfl (jaF (by omega)) ?_
   refine Rt (Wt rfl (Ws (Wsq (ja4 (Wq (La rfl (Rqq (Lmm rfl rfl (jaZ rfl (jaF (by omega)) ?_)))))))))
   refine Lm rfl (Gm rfl rfl (Gm rfl rfl (Rw rfl (Li jd4 jd1 rfl (ja6 _) (by omega) (by exact hr.sl.ao (by omega)) ?_))))
   refine Rw rfl (Ll jdR rfl (by exact (hr.sl.old hs (hOos.app hb9.own)).get g1) ?_)
   refine Gm rfl rfl (Rw rfl ?_)
   refine Li jbK i_2 rfl (ja6 _) (by omega) (by exact g4.ao (by rw [il_length]; omega)) ?_
   refine Rw rfl (Ll o_2 rfl (by exact (g4.old hs (hOos.app hb9.own)).get (jaV (by omega))) ?_)
   refine Rw rfl (jgM rfl (jaF (by omega)) ?_)
   refine Lpt rfl (Rt (Wt rfl (Wr (Lmm rfl rfl (Li jd4 jd1 rfl (ja6 _) (by omega) (by exact hr.sl.ao (by omega)) ?_)))))
   refine Ll jdR rfl (by exact (hr.sl.old hs (hOos.app hb9.own)).get g1) ?_
   refine Lm rfl ?_
   refine Li jbK i_2 rfl (ja6 _) (by omega) (by exact g4.ao (by rw [il_length]; omega)) ?_
   refine Ll o_2 rfl (by exact (g4.old hs (hOos.app hb9.own)).get (jaV (by omega))) ?_
   refine La rfl (Rqq (Lmm rfl rfl (Lm rfl (jbG rfl (ja3 (by omega)) ?_))))
   refine jdS rfl (jaA (by omega)) ?_
   refine Rt (Wf rfl (Ws (Wr (Lmm rfl rfl (jb0 rfl hs jbK i_2 rfl (by decide) rfl rfl ?_)))))
   intro b72 w hb72 hnb72 hs
   simp only [List.map_cons, List.map_nil] at hs
   refine jb8 (L := Mo ++ Ms) (M := M9) rfl jbK i_2 rfl hs (by assumption) hb9 rfl rfl rfl (by simp [Value.oneCell']) (by omega) (by omega) ?_
   intro v9' w M9' hs hb9'
   rw [jeD] at hb9'
   refine La rfl (Rnl (jaB (Nt (Wr (Lm rfl (jbG rfl (ja3 (by omega)) ?_))))))
   refine La rfl (Rnl (Nq (j + 1, v9', T ++ [(rows.getD i []).getD j 0], M9', w) [0, 7, 8, 9, 10, 11] rfl ?_ ?_))
   ·
    dsimp only
    exact ⟨by omega, by simp [hTl], hT' _ (by rw [hls, if_neg hja, if_neg (fun h => by rcases h with h | h; omega; exact hneg h)]), hb9', hs⟩
   omega
  have hjn : j = n := by omega
  rw [hjn] at hTl hT hb9
  obtain ⟨q9, c9, hv9, _⟩ := hb9.slice
  subst hv9
  replace hs : HS w0 w ((Ms ++ M9) ++ Mo) := hs.mem_perm (by rw [List.append_assoc]; exact List.perm_append_comm)
  refine Wqq (Lmm rfl rfl (Lm rfl (Le jd4 rfl (jbG rfl (ja3 (by omega)) ?_))))
  refine jaZ rfl (jaA (by omega)) ?_
  refine Rt (Wf rfl (jaK (ja0 (ja8 (ja1 (Nt (Wr (Lmm rfl rfl (jb0 rfl hs jd4 jd1 rfl (by decide) rfl rfl ?_)))))))))
  intro b76 w hb76 hnb76 hs
  simp only [List.map_cons, List.map_nil] at hs
  refine jb8 (L := Ms ++ M9) (M := Mo) rfl jd4 jd1 rfl hs (by assumption) hbo rfl rfl rfl (by simp [Value.oneCell']) (by omega) (by omega) ?_
  intro v7' w Mo' hs hbo'
  have hp9 : npB w0 (.slice q9 n c9) T M9 := by show Bl _ _ _ _ _ _ _; rw [hTl]; exact hb9
  replace hs : HS w0 w (Mo' ++ (Ms ++ M9)) := hs.mem_perm List.perm_append_comm
  refine La rfl (Rnl (jaB (Nt (Wr (Lm rfl (jbG rfl (ja3 (by omega)) ?_))))))
  refine La rfl (Rnl (Nq (i + 1, v7', vs ++ [.slice q9 n c9], rs ++ [T], Mo', Ms ++ M9, w) [0, 7, 8, 9] rfl ?_ ?_))
  ·
   dsimp only
   refine ⟨by omega, hs, hbo', hrb.snoc hp9, by simp [hrl2], fun r hr => ?_⟩
   by_cases hri : r < i
   ·
    have e : (rs ++ [T]).getD r [] = rs.getD r [] := by simp only [List.getD]; rw [List.getElem?_append_left (by omega)]
    obtain ⟨h5, h6⟩ := hrs r hri
    exact ⟨by rw [e]; exact h5, fun j hj => by show ((rs ++ [T]).getD r []).getD j 0 = _; rw [e]; exact h6 j hj⟩
   obtain rfl : i = r := by omega
   have e : (rs ++ [T]).getD i [] = T := by simp only [List.getD]; rw [List.getElem?_append_right (by omega), hrl2, Nat.sub_self]; rfl
   exact ⟨by rw [e]; exact hTl, fun j hj => by show ((rs ++ [T]).getD i []).getD j 0 = _; rw [e]; exact hT j hj⟩
  omega
 have hki : i = k := by omega
 rw [hki] at hrl2 hrs hbo
 obtain ⟨a7, c7, hv8, hc7⟩ := hbo.slice
 subst hv8
 have hC' : ∀ r q, r < n -> q < n -> sqC rs r q = msC rows m r q := fun r q hr hq => by
  unfold sqC
  by_cases h5 : r < rs.length
  ·
   rw [if_pos h5]; exact (hrs r (by omega)).2 q hq
  unfold msC; rw [if_neg h5, if_neg (by omega)]
 have hCr : ∀ r q, r < n -> q < n -> 0 <= sqC rs r q /\ sqC rs r q <= 4503599627370496 := fun r q hr hq => by
  rw [hC' r q hr hq]
  exact msC_rng hcel
 have hRI : RowsI w a7 rs vs := hrb.rowsI hs (hbo.slc (L := Ms) (hs.mem_perm List.perm_append_comm)) (fun i hi => by rw [(hrs i (by omega)).1]; omega)
 refine Wqq (Lmm rfl rfl (Le jd4 rfl (jaZ rfl (jaA (by omega)) ?_)))
 refine Rt (Wf rfl (jaK (ja0 (ja8 (ja1 (Nt (Wq (Lmm rfl rfl (Lm rfl (Le jd4 rfl (jbG rfl (ja3 (by omega)) ?_)))))))))))
 rw [show ((m : Int) + (k : Int)) = ((n : Nat) : Int) by omega]
 refine Lc f_81 rfl (square_ok a7 k c7 n rs vs w hRI hrl2 (by omega) (by omega) (fun i hi => (hrs i hi).1) hCr) ?_
 rintro _ w2 ⟨y, U, V, M, R, rfl, hs2, hOy, hrd, hUl, hVl, hMl, hRl, hSq, hMa, hbU, hbV⟩
 have hsz := hs.size
 replace hs := hs.call hs2 hOy
 replace hs : HS w0 w2 (y.L U V M R ++ (Mo ++ Ms)) := hs.mem_perm List.perm_append_comm
 have hOy0 := hOy.le hsz
 clear hs2 hOy hsz
 obtain ⟨hPf, hhr⟩ := hSq.pf (has := gi M) (fun j hj => hMa.inv j hj (hSq.all j hj).1)
 have hM : InR n M := ⟨hMl, hhr⟩
 have hR : InR n R := ⟨hRl, hSq.all⟩
 refine La rfl (Rq (Lmm rfl rfl (Le jd4 rfl ?_)))
 refine Lc f_82 rfl (rfirst_ok y n k (sqC rs) U V M R w2 (by omega) (by omega) hrd (HS.named (fun p hp => hs.has p (List.mem_append_left _ hp)) (by have := hs.nodup; rw [List.map_append, List.nodup_append] at this; exact this.1)) hUl hVl hM hR hbU hbV hPf) ?_
 rintro _ w3 ⟨M', R', hs3, hM', hR', hPf', hLM⟩
 have hBest : Best n k (msC rows m) (toN M') := Best.congr (hPf'.best hLM) hC'
 have hreal : ∀ q, q < k -> (toN M' q < m -> 0 <= el rows q (toN M' q)) /\ (m <= toN M' q -> toN M' q = m + q) := fun q hq => most_real (rows := rows) (n := m) hcel (m := k) (by rw [hk, <- hn]; exact hBest) (by omega)
 have hs0 := hs
 obtain hs : HS w2 w3 (y.L U V M' R' ++ []) := by rw [List.append_nil]; exact hs3
 have hfin : ∀ {w : World} {N : List (Nat × Obj)}, HS w2 w (y.L U V M' R' ++ N) -> Own w2 N -> HS w0 w N := fun {w N} h hN => by
  have h1 := hs0.callU (A := y.L U V M R) (U := y.L U V M' R') (L2 := Mo ++ Ms) (N := N) rfl h hN
  exact HS.dropL h1 ((Ly.own hOy0).app hOos)
 have hhl := hM'.len
 clear hPf' hLM hPf hR' hs3 hSq hMa hhr
 refine Rq (La rfl (Rq (La rfl (Rq (La rfl (Rt (Wqq (La rfl (Rt (ja4 ?_))))))))))
 refine jpE (fun (i : Nat) (v1 : Value) (ms : List Int) (N : List (Nat × Obj)) (cnt : Int) (t : Int) (w : World) => [(0, .slice a k cp), (7, .int .i64 m), (13, .pointer (some ⟨y.B, 0, none⟩)), (14, v1), (15, .int .i64 cnt), (16, .int .i64 t), (17, .int .i64 i)]) (fun i v1 ms N cnt t w => w) (fun i v1 ms N cnt t w => (i <= k) /\ (ms = (List.range i).map (fun q => if toN M' q < m then (toN M' q : Int) else -1)) /\ (cnt = tot i (fun q => if toN M' q < m then 1 else 0)) /\ (t = tot i (fun q => if toN M' q < m then el rows q (toN M' q) else 0)) /\ (0 <= t /\ t <= i * 1099511627776) /\ (0 <= cnt /\ cnt <= i) /\ (Bl w2 3 1 v1 i (il ms) N) /\ (HS w2 w (y.L U V M' R' ++ N))) (fun i v1 ms N cnt t w => k - i) (0) (.slice none 0 0) ([]) ([]) (0) (0) (w3) (is := [0, 7, 13, 14, 15, 16, 17]) rfl rfl ?_ ?_
 ·
  exact ⟨Nat.zero_le _, rfl, rfl, rfl, ⟨by omega, by omega⟩, ⟨by omega, by omega⟩, Bl.nil, hs⟩
 clear hs hki
 intro i v1 ms N cnt t w hI
 show W _ _ _ _ [(0, .slice a k cp), (7, .int .i64 m), (13, .pointer (some ⟨y.B, 0, none⟩)), (14, v1), (15, .int .i64 cnt), (16, .int .i64 t), (17, .int .i64 i)] w
 obtain ⟨hi, hms, hcnt, ht, htb, hcb, hbl, hs⟩ := hI
 have hsz0 := hs0.size
 by_cases hlt : i < k
 ·
  have hin : i < n := by omega
  obtain ⟨ai, ci, g1, g2, g3, g4⟩ := hr.row i (by omega)
  have hwi : (rows.getD i []).length = m := by rw [hm]; exact hF.same i (by omega)
  rw [hwi] at g1 g2 g3
  obtain ⟨hje, hjn⟩ := hM'.nat hin
  have hreali := hreal i hlt
  obtain ⟨j, hj⟩ : ∃ j, j = toN M' i := ⟨_, rfl⟩
  rw [<- hj] at hje hjn hreali
  refine Wqq (Lmm rfl rfl (Le jd4 rfl (jaZ rfl (jaF (by omega)) ?_)))
  refine Rt (Wt rfl (Ws (Wsq (ja4 (Wq (Lm rfl (Ln rfl (Lf 4 jbB rfl jg2 (Ll jgQ rfl (by exact RdS.at hs hbl.own (hrd.bx rfl) hrd.nb) ?_)))))))))
  refine Lm rfl (Li jbW i_3 rfl (ja6 _) (by omega) (by rfl) ?_)
  refine Ll o_3 rfl (by exact hs.cellA (i := 2) rfl (jbZ (by omega))) ?_
  refine La rfl (Rqq ?_)
  rw [hje]
  by_cases hjm : m <= j
  ·
   refine Lmm rfl rfl (jgM rfl (jaF (by omega)) ?_)
   refine Rt (Wt rfl (Wq (Lm rfl (jb0 rfl hs jbW i_3 rfl (by decide) rfl rfl ?_))))
   intro b105 w hb105 hnb105 hs
   simp only [List.map_cons, List.map_nil] at hs
   dsimp only [sS, sZ, sA, sN] at hs
   refine jb8 rfl jbW i_3 rfl (L := y.L U V M' R') hs (by assumption) hbl rfl rfl rfl (by simp [Value.oneCell'] ) (by omega) (by omega) ?_
   intro v106 w M106 hs hbl
   refine La rfl (Rt (jaK (ja0 (ja1 (Nt (Wr (Lm rfl (jbG rfl (ja3 (by omega)) ?_))))))))
   refine La rfl (Rnl ?_)
   rw [show il ms ++ [Value.int IntKind.i64 (-1)] = il (ms ++ [-1]) from jeD ms (-1)] at hbl
   refine Nq (i + 1, v106, ms ++ [-1], M106, cnt, t, _) [0, 7, 13, 14, 15, 16, 17] rfl ?_ ?_
   ·
    dsimp only
    refine ⟨by omega, by rw [List.range_succ, List.map_append, <- hms, List.map_cons, List.map_nil, <- hj, if_neg (by omega)], ?_, ?_, ⟨by omega, by omega⟩, ⟨by omega, by omega⟩, hbl, hs⟩
    ·
     rw [hcnt]; simp only [tot]; rw [<- hj, if_neg (by omega)]; omega
    rw [ht]; simp only [tot]; rw [<- hj, if_neg (by omega)]; omega
   omega
  have hel : (rows.getD i []).getD j 0 <= 1099511627776 := hcel i j (by omega) (by omega)
  have hel0 : 0 <= (rows.getD i []).getD j 0 := hreali.1 (by omega)
  refine Lmm rfl rfl (jgM rfl (jaA (by omega)) ?_)
  refine Rt (Wf rfl (Ws (Wq (Lmm rfl rfl (jb0 rfl hs jbW i_3 rfl (by decide) rfl rfl ?_)))))
  intro b109 w hb109 hnb109 hs
  simp only [List.map_cons, List.map_nil] at hs
  dsimp only [sS, sZ, sA, sN] at hs
  refine jb8 rfl jbW i_3 rfl (L := y.L U V M' R') hs (by assumption) hbl rfl rfl rfl (by simp [Value.oneCell'] ) (by omega) (by omega) ?_
  intro v110 w M110 hs hbl
  refine La rfl (Rq (Lm rfl (jbG rfl (ja3 (by omega)) ?_)))
  refine La rfl (Rr (Lmm rfl rfl (Lm rfl (Li jd4 jd1 rfl (ja6 _) (by omega) (by exact hr.sl.ao (by omega)) ?_))))
  refine Ll jdR rfl (by exact (hr.sl.old (hfin hs hbl.own) (hbl.own.le hsz0)).get g1) ?_
  refine Lm rfl ?_
  refine Li jbK i_2 rfl (ja6 _) (by omega) (by exact g4.ao (by rw [il_length]; omega)) ?_
  refine Ll o_2 rfl (by exact (g4.old (hfin hs hbl.own) (hbl.own.le hsz0)).get (jaV (by omega))) ?_
  refine jbG rfl (ja3 (by omega)) ?_
  refine La rfl (Rnl (jaB (Nt (Wr (Lm rfl (jbG rfl (ja3 (by omega)) ?_))))))
  refine La rfl (Rnl ?_)
  rw [jeD] at hbl
  refine Nq (i + 1, v110, ms ++ [(j : Int)], M110, cnt + 1, t + (rows.getD i []).getD j 0, _) [0, 7, 13, 14, 15, 16, 17] rfl ?_ ?_
  ·
   dsimp only
   refine ⟨by omega, by rw [List.range_succ, List.map_append, <- hms, List.map_cons, List.map_nil, <- hj, if_pos (by omega)], ?_, ?_, ⟨by omega, by omega⟩, ⟨by omega, by omega⟩, hbl, hs⟩
   ·
    rw [hcnt]; simp only [tot]; rw [<- hj, if_pos (by omega)]
   rw [ht]; simp only [tot]; rw [<- hj, if_pos (by omega)]
  omega
 obtain rfl : k = i := by omega
 refine Wqq (Lmm rfl rfl (Le jd4 rfl (jaZ rfl (jaA (by omega)) ?_)))
 refine Rt (Wf rfl (jaK (ja0 (ja8 (ja1 (Nt (Wq (Lmm rfl rfl (Lm rfl (La rfl (La rfl (La rfl (La rfl (Rt (jaW (jhQ rfl rfl rfl rfl rfl ?_))))))))))))))))
 have hml : ms.length = k := by rw [hms]; simp
 refine ⟨_, rfl, v1, N, ms, cnt, t, 0, rfl, hfin hs hbl.own, by rw [hml]; exact hbl.mono hs0.size, .inr ⟨he0, by omega, toN M', ?_, ?_, ?_, ?_, rfl⟩⟩
 ·
  rw [show wid rows 0 = m from hm.symm, hk, <- hn]; exact hBest
 ·
  rw [show wid rows 0 = m from hm.symm, hk]; exact hms
 ·
  rw [show wid rows 0 = m from hm.symm, hk]; exact hcnt
 rw [show wid rows 0 = m from hm.symm, hk]; exact ht
theorem MostAns.len {rows : List (List Int)} {ms : List Int} {c t e : Int} (h : MostAns rows ms c t e) : ms.length <= rows.length := by
 rcases h with ⟨_, rfl, _⟩ | ⟨_, _, f, _, rfl, _⟩ <;> simp
end Go.Proofs.YtffobakdngbadaaGreat
namespace Go.Proofs.YtffobakdngbadaaGreat
open Go Go.Lk
structure Dbk where
 B : Nat
 k : Bok
 vL : Value
 ML : Bks
 la : Nat
 any : Bool
def ocs (os : List On) : List Value := os.flatMap On.cells
def obx (os : List On) : Bks := os.flatMap oM
theorem jnU (a b : List On) : obx (a ++ b) = obx a ++ obx b := List.flatMap_append ..
theorem obx_one (o : On) : obx [o] = oM o := by simp [obx]
theorem jk2 (a b : List On) : ocs (a ++ b) = ocs a ++ ocs b := List.flatMap_append ..
theorem ocs_one (o : On) : ocs [o] = o.cells := by simp [ocs]
theorem jd6 : ∀ os : List On, (ocs os).length = os.length * 17
 | [] => rfl
 | o :: os => by
  show (o.cells ++ ocs os).length = _
  rw [List.length_append, jd6 os, List.length_cons, show o.cells.length = 17 from rfl]; omega
theorem jm4 : ∀ {os : List On} {i q : Nat} {v : Value}, i < os.length -> (os.getD i on0).cells[q]? = some v -> (ocs os)[i * 17 + q]? = some v
 | [], _, _, _, hi, _ => by simp at hi
 | o :: os, 0, q, v, _, h => by
  have hq := (List.getElem?_eq_some_iff.1 h).1
  show (o.cells ++ ocs os)[0 * 17 + q]? = _
  rw [show 0 * 17 + q = q by omega, List.getElem?_append_left (by simpa using hq)]
  simpa using h
 | o :: os, i + 1, q, v, hi, h => by
  show (o.cells ++ ocs os)[(i + 1) * 17 + q]? = _
  have hl : o.cells.length = 17 := rfl
  rw [List.getElem?_append_right (by omega), show (i + 1) * 17 + q - o.cells.length = i * 17 + q by omega]
  exact jm4 (by simpa using hi) h
theorem oc_at {w : World} {a : Option Addr} {os : List On} (h : SlC w a (ocs os)) {i : Nat} (hi : i < os.length) : jbF w ((aD a).add (i * 17)) (os.getD i on0).cells := h.sub fun _ _ hv => jm4 hi hv
abbrev Dbk.row (d : Dbk) : Nat × Obj := (d.B, Row 70 (jcA d.k.r d.vL d.la d.any d.k.next))
abbrev Dbk.bks (d : Dbk) : Bks := d.row :: (d.ML ++ obx d.k.os)
structure Dbk.ok (w0 : World) (n : Nat) (d : Dbk) : Prop where
 B : w0.heap.size <= d.B
 bL : Bl w0 103 17 d.vL d.k.os.length (ocs d.k.os) d.ML
 each : ∀ o ∈ d.k.os, o.okD w0
 nd : (d.k.os.map fun o => o.t.id).Nodup
 low : ∀ o ∈ d.k.os, 1 <= o.t.id /\ o.t.id < d.k.next
 next1 : 1 <= d.k.next
 next2 : d.k.next <= 1000000
 hist : ∀ o ∈ d.k.os, o.xs.length <= n /\ o.ys.length <= n /\ 0 <= o.t.steps /\ o.t.steps <= n
 rul : RulOk d.k.r
 cnt : d.k.os.length <= 256
 any : (d.any = true /\ d.la = d.k.last) ∨ (d.any = false /\ d.k.last = ninf)
theorem jnT {w0 : World} {os : List On} (h : ∀ o ∈ os, o.okD w0) : Own w0 (obx os) := fun p hp => by
 obtain ⟨o, ho, hp⟩ := List.mem_flatMap.1 hp
 exact (h o ho).own p hp
theorem Dbk.ok.own {w0 : World} {n : Nat} {d : Dbk} (h : d.ok w0 n) : Own w0 d.bks := Own.cons h.B (h.bL.own.app (jnT h.each))
theorem On.one (o : On) : ∀ v ∈ o.cells, (o.vx.oneCell' = true) -> (o.vy.oneCell' = true) -> v.oneCell' = true := by
 intro v hv h1 h2
 simp only [On.cells, List.mem_cons, List.not_mem_nil, or_false] at hv
 rcases hv with rfl | rfl | rfl | rfl | rfl | rfl | rfl | rfl | rfl | rfl | rfl | rfl | rfl | rfl | rfl | rfl | rfl <;> first | rfl | exact h1 | exact h2
theorem On.okD.one {w0 : World} {o : On} (h : o.okD w0) : ∀ v ∈ o.cells, v.oneCell' = true := fun v hv => On.one o v hv (Bo.one' h.bx) (Bo.one' h.by')
theorem mul_num {x y : Nat} {v u : Int} (hx : FV x v) (hy : FV y u) : jb1 (fop .mul x y) = false := by
 obtain ⟨r, hr, h0, h1⟩ := fv_mul hx hy
 rw [jbY hr]
 by_cases h : v * u = 0
 ·
  exact (h0 h).num
 rw [h1 h, isnan_rng]
 have h2 := Nat.min_le_right (jfQ (v.natAbs * u.natAbs)) 9218868437227405312
 generalize min (jfQ (v.natAbs * u.natAbs)) 9218868437227405312 = m at h2
 rw [Bool.not_eq_false', decide_eq_true_eq]
 unfold Ieee.Format.word
 rw [jb3]
 split <;> omega
theorem pt_num {p : Plt} (hp : PltLt p) (hf : jgW p = true) : jb1 (ptX p) = false /\ jb1 (ptY p) = false := by
 unfold jgW at hf
 simp only [List.all_cons, List.all_nil, Bool.and_true, Bool.and_eq_true] at hf
 obtain ⟨vr, hr⟩ := fv_fin hp.r hf.1
 obtain ⟨vb, hb⟩ := fv_fin hp.b hf.2
 obtain ⟨c, hc⟩ : ∃ c, c = 1074 := ⟨_, rfl⟩
 obtain ⟨⟨u, u1, _⟩, ⟨y, y1, _⟩⟩ := turn_am hc hb
 exact ⟨mul_num hr y1, mul_num hr u1⟩
theorem ref_fin {last time : Nat} {l : List Plt} (h : jeZ last time l = 0) : l.length <= 256 /\ ∀ p ∈ l, jgW p = true := by
 unfold jeZ at h
 by_cases h1 : 256 < l.length
 ·
  rw [if_pos h1] at h; exact absurd h (by decide)
 rw [if_neg h1] at h
 cases h2 : (je6 time && l.all jgW) with
 | false => rw [h2, if_neg (by decide)] at h; exact absurd h (by decide)
 | true => exact ⟨by omega, fun p hp => List.all_eq_true.1 (by simp only [Bool.and_eq_true] at h2; exact h2.2) p hp⟩
def dpt (p : Plt) : Pq := ⟨ptX p, ptY p⟩
theorem Plt.inj {s u : Plt} (h : s.cells.toArray = u.cells.toArray) : s = u := by
 have h1 := congrArg Array.toList h
 obtain ⟨a, b, c, d, e⟩ := s
 obtain ⟨a', b', c', d', e'⟩ := u
 simp only [Plt.cells, List.cons.injEq, Value.float.injEq, true_and, and_true] at h1
 obtain ⟨rfl, rfl, rfl, rfl, rfl⟩ := h1
 rfl
theorem jpB (l : Plt) (hb : PltLt l) (hf : jgW l = true) (w0 : World) : Ret Tryz.prog 52 [.agg l.cells.toArray] w0 fun v w' => v = .agg (dpt l).cells.toArray /\ HS w0 w' [] :=
 Calls.mono (rpoint_ok l hb.b w0) fun e w' => by
  rintro ⟨v, rfl, ⟨x, y, rfl, hx, hy⟩, hs'⟩
  obtain ⟨n1, n2⟩ := pt_num hb hf
  have cx : jb1 x = false := by rw [<- jdA x, hx, n1]
  have cy : jb1 y = false := by rw [<- jdA y, hy, n2]
  rw [jdH cx] at hx
  rw [jdH cy] at hy
  refine ⟨_, rfl, ?_, hs'⟩
  rw [hx, hy]; rfl
theorem dpt_ok (l : Plt) : PtOk l (dpt l) := ⟨jaL .., jaL ..⟩
def SPT (B n g : Nat) (f : FuncId) (args : Array Value) (v : Value) : Prop := match f, args.toList with
 | 52, [.agg a] => ∀ l : Plt, a = l.cells.toArray -> PltLt l -> jgW l = true -> v = .agg (dpt l).cells.toArray
 | 51, [_, .agg a, .agg b] => ∀ (t : Trk) (p : Pq), a = t.cells.toArray -> b = p.cells.toArray -> v = .int .i64 (jdV n g t.x t.y p.x p.y)
 | _, _ => False
theorem dpointH {w0 w : World} {L : Bks} (hs : HS w0 w L) (B n g : Nat) (l : Plt) (hb : PltLt l) (hf : jgW l = true) : Ret Tryz.prog 52 [.agg l.cells.toArray] w fun v w' => SPT B n g 52 [.agg l.cells.toArray].toArray v /\ HS w0 w' L :=
 Calls.mono (jpB l hb hf w) fun e w' => by
  rintro ⟨v, rfl, rfl, hs'⟩
  exact ⟨_, rfl, fun s' h _ _ => by rw [<- Plt.inj h], hs.nil hs'⟩
end Go.Proofs.YtffobakdngbadaaGreat