/-
  A part of the proof: laws for walks, and plain laws, over any program of the model. Each theorem holds under its own premises alone.
-/
import Derived.Test.YtffobakdngbadaaGreatKit
import Derived.Test.YtffobakdngbadaaGreatP4
import Derived.Test.YtffobakdngbadaaGreatKitP
import Derived.Test.YtffobakdngbadaaGreatKitY
import Derived.Test.YtffobakdngbadaaGreatP1
import Derived.Test.YtffobakdngbadaaGreatP2
import Derived.Laws.BitsAll
import Derived.ArgAppend
namespace Go.Proofs.YtffobakdngbadaaGreat
open Go Go.Lk Go.Pr
def msC (rows : List (List Int)) (n r j : Nat) : Int := if r < rows.length then (if j = n + r then 562949953421312 else if n <= j ∨ el rows r j < 0 then 4503599627370496 else el rows r j) else 0
theorem msC_rng {rows : List (List Int)} {n r j : Nat} (hc : ∀ r j, r < rows.length -> j < n -> el rows r j <= 1099511627776) : 0 <= msC rows n r j /\ msC rows n r j <= 4503599627370496 := by
 unfold msC
 by_cases h5 : r < rows.length
 ·
  rw [if_pos h5]
  split
  ·
   exact ⟨by decide, by decide⟩
  split
  ·
   exact ⟨by decide, by decide⟩
  have := hc r j h5 (by omega)
  omega
 rw [if_neg h5]; exact ⟨by decide, by decide⟩
theorem most_real {rows : List (List Int)} {n : Nat} (hc : ∀ r j, r < rows.length -> j < n -> el rows r j <= 1099511627776) {m : Nat} {f : Nat -> Nat} (h : Best (n + rows.length) m (msC rows n) f) {i : Nat} (hi : i < rows.length) : (f i < n -> 0 <= el rows i (f i)) /\ (n <= f i -> f i = n + i) := by
 have key : msC rows n i (f i) ≠ 4503599627370496 := fun he => by
  obtain ⟨r1, hr1, hfr⟩ := surj h.bij.lt h.bij.inj (show n + i < n + rows.length by omega)
  have hne : i ≠ r1 := fun hh => by
   rw [<- hh] at hfr
   rw [hfr] at he
   unfold msC at he
   rw [if_pos hi, if_pos rfl] at he
   omega
  have h1 := (h.swp (show i < n + rows.length by omega) hr1 hne).1
  rw [hfr, he] at h1
  have h2 : msC rows n i (n + i) = 562949953421312 := by unfold msC; rw [if_pos hi, if_pos rfl]
  have h3 := (msC_rng (rows := rows) (r := r1) (j := f i) hc).2
  by_cases h4 : r1 < rows.length
  ·
   have h5 : msC rows n r1 (n + i) = 4503599627370496 := by unfold msC; rw [if_pos h4, if_neg (by omega), if_pos (.inl (by omega))]
   omega
  have h5 : msC rows n r1 (n + i) = 0 := by unfold msC; rw [if_neg h4]
  have h6 : msC rows n r1 (f i) = 0 := by unfold msC; rw [if_neg h4]
  omega
 unfold msC at key
 rw [if_pos hi] at key
 refine ⟨fun hlt => ?_, fun hle => ?_⟩
 ·
  rw [if_neg (by omega)] at key
  by_cases h7 : n <= f i ∨ el rows i (f i) < 0
  ·
   rw [if_pos h7] at key; exact absurd rfl key
  omega
 by_cases h7 : f i = n + i
 ·
  exact h7
 rw [if_neg h7, if_pos (.inl hle)] at key; exact absurd rfl key
def MostAns (rows : List (List Int)) (ms : List Int) (cnt t e : Int) : Prop :=
 ((chk rows ≠ 0 ∨ rows.length = 0) /\ ms = [] /\ cnt = 0 /\ t = 0 /\ e = chk rows) ∨
 (chk rows = 0 /\ rows.length ≠ 0 /\ ∃ f, Best (wid rows 0 + rows.length) rows.length (msC rows (wid rows 0)) f /\
  ms = (List.range rows.length).map (fun i => if f i < wid rows 0 then (f i : Int) else -1) /\ cnt = tot rows.length (fun i => if f i < wid rows 0 then 1 else 0) /\ t = tot rows.length (fun i => if f i < wid rows 0 then el rows i (f i) else 0) /\ e = 0)
theorem most_ok (a : Option Addr) (k cp : Nat) (rows : List (List Int)) (rvs : List Value) (w0 : World) (hr : RowsI w0 a rows rvs) (hk : rows.length = k) (hk63 : k <= 17592186043904) :
  Ret Tryz.prog 36 [.slice a k cp] w0 fun v w' => ∃ v1 N ms cnt t e, v = .tuple #[v1, .int .i64 cnt, .int .i64 t, .int .i64 e] /\ HS w0 w' N /\ Bl w0 3 1 v1 ms.length (il ms) N /\ MostAns rows ms cnt t e := by
 refine Ret.start fun w hs => ?_
 have hrl := hr.len
 refine ja7 Tryz.func36 rfl rfl rfl (Wq (La rfl (La rfl (La rfl (La rfl (Rqq (Lm rfl (Lc f_66 rfl (checked_ok a k cp rows rvs w (hr.old hs Own.nil) hk hk63) ?_))))))))
 rintro _ w1 ⟨rfl, hs'⟩
 replace hs := hs.nil hs'
 clear hs'
 by_cases he0 : chk rows ≠ 0
 ·
  refine La rfl (Rq (Lm rfl (jk7 rfl (jaF (by omega)) ?_)))
  refine Lm rfl (Rs rfl (Rs rfl (Rs rfl (Lpt rfl (Rt (Wt rfl (Wq (Lm rfl (La rfl (La rfl (La rfl (La rfl (Rt (jaW (ja2 (jhQ rfl rfl rfl rfl rfl ?_))))))))))))))))
  exact ⟨_, rfl, _, [], [], _, _, _, rfl, hs, Bl.nil, .inl ⟨.inl he0, rfl, rfl, rfl, rfl⟩⟩
 rw [Classical.not_not] at he0
 rw [he0]
 by_cases hk0 : k = 0
 ·
  refine La rfl (Rq (Lm rfl (jk7 rfl (jaA (by omega)) ?_)))
  refine Lm rfl (Gm rfl rfl (Rw rfl (Le jd4 rfl (Rw rfl (jdS rfl (jaF (by omega)) ?_)))))
  refine Lpf rfl (Rt (Wt rfl (Wq (Lm rfl (La rfl (La rfl (La rfl (La rfl (Rt (jaW (ja2 (jhQ rfl rfl rfl rfl rfl ?_))))))))))))
  exact ⟨_, rfl, _, [], [], _, _, _, rfl, hs, Bl.nil, .inl ⟨.inr (by omega), rfl, rfl, rfl, he0.symm⟩⟩
 have hF := jp6 he0
 obtain ⟨a0, c0, k1, k2, k3, k4⟩ := hr.row 0 (by omega)
 obtain ⟨m, hm⟩ : ∃ m, m = (rows.getD 0 []).length := ⟨_, rfl⟩
 have hm256 : m <= 256 := by rw [hm]; exact hF.wid 0 (by omega)
 have hk256 := hF.len
 rw [<- hm] at k1 k2 k3
 obtain ⟨n, hn⟩ : ∃ n, n = m + k := ⟨_, rfl⟩
 have hcel : ∀ r j, r < rows.length -> j < m -> el rows r j <= 1099511627776 := fun r j hr hj => hF.cost r j hr (by rw [hF.same r hr]; show j < (rows.getD 0 []).length; omega)
 refine La rfl (Rq (Lm rfl (jk7 rfl (jaA (by omega)) ?_)))
 refine Lm rfl (Gm rfl rfl (Rw rfl (Le jd4 rfl (Rw rfl (jdS rfl (jaA (by omega)) ?_)))))
 refine Lpf rfl (Rt (Wf rfl (Ws (Wq (Lm rfl (Li jd4 jd1 rfl jfV (by omega) (hr.sl.ao (by omega)) ?_))))))
 refine Ll jdR rfl ((hr.sl.old hs Own.nil).get k1) (Le jbK rfl (La rfl (Rq (Lmm rfl rfl (Le jd4 rfl (jbG rfl (ja3 (by omega)) ?_))))))
 rw [show ((m : Int) + (k : Int)) = ((n : Nat) : Int) by omega]
 refine Lc f_67 rfl (played_ok n w1 (by omega) (by omega)) ?_
 rintro _ w2 ⟨B, c, u, vv, o, h, rfl, hs2, hO⟩
 have hsz := hs.size
 have hO0 : ∀ {C U V of has : List Int}, Own w0 (jd9 B c u vv o h n C U V of has) := fun {C U V of has} => (hO (C := C) (U := U) (V := V) (of := of) (has := has)).le hsz
 replace hs := hs.call hs2 hO
 rw [List.nil_append] at hs
 clear hs2 hO hsz
 refine La rfl (Rqq (Lm rfl (Le jd4 rfl (Lm rfl (Rt (ja4 (jcT (fun (i : Nat) (C : List Int) (w : World) => [(0, .slice a k cp), (2, .slice none 0 0), (3, .int .i64 0), (4, .int .i64 0), (6, .int .i64 m), (7, .pointer (some ⟨B, 0, none⟩)), (34, .slice a k cp), (35, .int .i64 k), (36, .int .i64 i)]) (fun i C w => w) (fun i C w => (i <= k) /\ (C.length = n * n) /\ (∀ r q, r < n -> q < n -> cf n C r q = if r < i then msC rows m r q else 0) /\ (HS w0 w (jd9 B c u vv o h n C (List.replicate n 0) (List.replicate n 0) (List.replicate n (-1)) (List.replicate n 0)))) (fun i C w => k - i) (0) (List.replicate (n * n) 0) (w2) (is := [0, 2, 3, 4, 6, 7, 34, 35, 36]) rfl rfl ?_ ?_)))))))
 ·
  refine ⟨Nat.zero_le _, by simp, fun r q hr hq => ?_, hs⟩
  rw [if_neg (Nat.not_lt_zero _)]
  exact jpR _ _
 clear hs
 intro i C w hI
 show W _ _ _ _ [(0, .slice a k cp), (2, .slice none 0 0), (3, .int .i64 0), (4, .int .i64 0), (6, .int .i64 m), (7, .pointer (some ⟨B, 0, none⟩)), (34, .slice a k cp), (35, .int .i64 k), (36, .int .i64 i)] w
 obtain ⟨hi, hCl, hcf, hs⟩ := hI
 by_cases hlt : i < k
 ·
  have hin : i < n := by omega
  obtain ⟨ai, ci, g1, g2, g3, g4⟩ := hr.row i (by omega)
  have hwi : (rows.getD i []).length = m := by rw [hm]; exact hF.same i (by omega)
  rw [hwi] at g1 g2 g3
  have hBox : w.heap[B]? = some (Row 123 (jgL n c u vv o h)) := hs.has (B, _) (by simp)
  refine Wq (jaZ rfl (jaF (by omega)) ?_)
  refine Rt (Wsq (Wt rfl (Ws (Wsq (ja4 (Wq (Lm rfl (Li jd4 jd1 rfl (ja6 _) (by omega) (by exact hr.sl.ao (by omega)) ?_))))))))
  refine Ll jdR rfl (by exact (hr.sl.old hs hO0).get g1) ?_
  refine La rfl (La rfl (Rq (Lmm rfl rfl (Lc f_68 rfl (row_ok B c u vv o h n i w hBox (by omega) (by omega) hin) ?_))))
  rintro _ w' ⟨rfl, hs'⟩
  replace hs := hs.nil hs'
  clear hs' hBox
  refine La rfl (Rq (Lm rfl (Le jbK rfl (Lm rfl (Rt (ja4 ?_))))))
  refine jcT (fun (j : Nat) (C : List Int) (w : World) => [(0, .slice a k cp), (2, .slice none 0 0), (3, .int .i64 0), (4, .int .i64 0), (6, .int .i64 m), (7, .pointer (some ⟨B, 0, none⟩)), (8, .int .i64 i), (9, .slice ai m ci), (10, .slice (some ⟨c, i * n, none⟩) n n), (34, .slice a k cp), (35, .int .i64 k), (36, .int .i64 i), (45, .int .i64 n), (46, .int .i64 j)]) (fun j C w => w) (fun j C w => (j <= n) /\ (C.length = n * n) /\ (∀ r q, r < n -> q < n -> cf n C r q = if r < i ∨ (r = i /\ q < j) then msC rows m r q else 0) /\ (HS w0 w (jd9 B c u vv o h n C (List.replicate n 0) (List.replicate n 0) (List.replicate n (-1)) (List.replicate n 0)))) (fun j C w => n - j) (0) (C) (w') (is := [0, 2, 3, 4, 6, 7, 8, 9, 10, 34, 35, 36, 45, 46]) rfl rfl ?_ ?_
  ·
   refine ⟨Nat.zero_le _, hCl, fun r q hr hq => ?_, hs⟩
   rw [hcf r q hr hq]
   simp only [Nat.not_lt_zero, and_false, or_false]
  clear hs hcf hCl
  intro j C w hI
  show W _ _ _ _ [(0, .slice a k cp), (2, .slice none 0 0), (3, .int .i64 0), (4, .int .i64 0), (6, .int .i64 m), (7, .pointer (some ⟨B, 0, none⟩)), (8, .int .i64 i), (9, .slice ai m ci), (10, .slice (some ⟨c, i * n, none⟩) n n), (34, .slice a k cp), (35, .int .i64 k), (36, .int .i64 i), (45, .int .i64 n), (46, .int .i64 j)] w
  obtain ⟨hj, hCl, hcf, hs⟩ := hI
  by_cases hlt2 : j < n
  ·
   have hij := idx_lt hin hlt2
   have hls : msC rows m i j = if j = m + i then 562949953421312 else if m <= j ∨ el rows i j < 0 then 4503599627370496 else el rows i j := by unfold msC; rw [if_pos (by omega)]
   have hnew : ∀ y, y = msC rows m i j -> ∀ r q, r < n -> q < n -> cf n (C.set (i * n + j) y) r q = if r < i ∨ (r = i /\ q < j + 1) then msC rows m r q else 0 := fun y hy r q hr hq => by
    rw [cf_set hCl hin hlt2 _ hq]
    by_cases h5 : r = i /\ q = j
    ·
     rw [if_pos h5, if_pos (.inr ⟨h5.1, by omega⟩), hy, h5.1, h5.2]
    rw [if_neg h5, hcf r q hr hq]
    have : (r < i ∨ (r = i /\ q < j)) = (r < i ∨ (r = i /\ q < j + 1)) := by apply propext; omega
    simp only [this]
   by_cases hja : j = m + i
   ·
    refine Wq (jaZ rfl (jaF (by omega)) ?_)
    refine Rt (Wsq (Wt rfl (Ws (Wsq (ja4 (Wq (Lm rfl (La rfl (Rt (ja4 (Wq (Lmm rfl rfl (Lm rfl (jbG rfl (ja3 (by omega)) ?_))))))))))))))
    refine jdS rfl (jaF (by omega)) ?_
    refine La rfl (Rt (Wt rfl (Wr (Lmm rfl rfl (Li jbK i_2 rfl (ja6 _) (by omega) (by rfl) ?_)))))
    refine jaH hs (i := 0) rfl i_2 rfl rfl (by exact Addr.add_lit ..) (by rw [il_length]; omega) rfl ?_
    intro w hs
    dsimp only [sS, sZ, sA, sN] at hs
    refine Rnl (jaB (jaB (Nt (Wr (jbG rfl (ja3 (by omega)) ?_)))))
    refine Lm rfl (Rnl ?_)
    rw [jc3] at hs
    refine Nq (j + 1, C.set (i * n + j) 562949953421312, _) [0, 2, 3, 4, 6, 7, 8, 9, 10, 34, 35, 36, 45, 46] rfl ?_ ?_
    ·
     dsimp only
     exact ⟨by omega, by simp [hCl], hnew _ (by rw [hls, if_pos hja]), hs⟩
    omega
   by_cases hjm : m <= j
   ·
    refine Wq (jaZ rfl (jaF (by omega)) ?_)
    refine Rt (Wsq (Wt rfl (Ws (Wsq (ja4 (Wq (Lm rfl (La rfl (Rt (ja4 (Wq (Lmm rfl rfl (Lm rfl (jbG rfl (ja3 (by omega)) ?_))))))))))))))
    refine jdS rfl (jaA (by omega)) ?_
    refine La rfl (Rt (Wf rfl (Wq (Lmm rfl rfl (jgM rfl (jaF (by omega)) ?_)))))
    refine Lm rfl (Rs rfl (Rs rfl (Rs rfl (Rs rfl (Rs rfl (Lpt rfl (La rfl (Rt (Wt rfl (Wr (Lmm rfl rfl (Li jbK i_2 rfl (ja6 _) (by omega) (by rfl) ?_))))))))))))
    refine jaH hs (i := 0) rfl i_2 rfl rfl (by exact Addr.add_lit ..) (by rw [il_length]; omega) rfl ?_
    intro w hs
    dsimp only [sS, sZ, sA, sN] at hs
    refine Rnl (jaB (jaB (Nt (Wr (jbG rfl (ja3 (by omega)) ?_)))))
    refine Lm rfl (Rnl ?_)
    rw [jc3] at hs
    refine Nq (j + 1, C.set (i * n + j) 4503599627370496, _) [0, 2, 3, 4, 6, 7, 8, 9, 10, 34, 35, 36, 45, 46] rfl ?_ ?_
    ·
     dsimp only
     exact ⟨by omega, by simp [hCl], hnew _ (by rw [hls, if_neg hja, if_pos (.inl hjm)]), hs⟩
    omega
   by_cases hneg : (rows.getD i []).getD j 0 < 0
   ·
    refine Wq (jaZ rfl (jaF (by omega)) ?_)
    refine Rt (Wsq (Wt rfl (Ws (Wsq (ja4 (Wq (Lm rfl (La rfl (Rt (ja4 (Wq (Lmm rfl rfl (Lm rfl (jbG rfl (ja3 (by omega)) ?_))))))))))))))
    refine jdS rfl (jaA (by omega)) ?_
    refine La rfl (Rt (Wf rfl (Wq (Lmm rfl rfl (jgM rfl (jaA (by omega)) ?_)))))
    refine Lm rfl (Gm rfl rfl (Gm rfl rfl (Rw rfl ?_)))
    refine Li jbK i_2 rfl (ja6 _) (by omega) (by exact g4.ao (by rw [il_length]; omega)) ?_
    refine Rw rfl (Ll o_2 rfl (by exact (g4.old hs hO0).get (jaV (by omega))) ?_)
    refine Rw rfl (jaZ rfl (jaF (by omega)) ?_)
    refine Lpf rfl (La rfl (Rt (Wt rfl (Wr (Lmm rfl rfl (Li jbK i_2 rfl (ja6 _) (by omega) (by rfl) ?_))))))
    refine jaH hs (i := 0) rfl i_2 rfl rfl (by exact Addr.add_lit ..) (by rw [il_length]; omega) rfl ?_
    intro w hs
    dsimp only [sS, sZ, sA, sN] at hs
    refine Rnl (jaB (jaB (Nt (Wr (jbG rfl (ja3 (by omega)) ?_)))))
    refine Lm rfl (Rnl ?_)
    rw [jc3] at hs
    refine Nq (j + 1, C.set (i * n + j) 4503599627370496, _) [0, 2, 3, 4, 6, 7, 8, 9, 10, 34, 35, 36, 45, 46] rfl ?_ ?_
    ·
     dsimp only
     exact ⟨by omega, by simp [hCl], hnew _ (by rw [hls, if_neg hja, if_pos (.inr hneg)]), hs⟩
    omega
   refine Wq (jaZ rfl (jaF (by omega)) ?_)
   refine Rt (Wsq (Wt rfl (Ws (Wsq (ja4 (Wq (Lm rfl (La rfl (Rt (ja4 (Wq (Lmm rfl rfl (Lm rfl (jbG rfl (ja3 (by omega)) ?_))))))))))))))
   refine jdS rfl (jaA (by omega)) ?_
   refine La rfl (Rt (Wf rfl (Wq (Lmm rfl rfl (jgM rfl (jaA (by omega)) ?_)))))
   refine Lm rfl (Gm rfl rfl (Gm rfl rfl (Rw rfl ?_)))
   refine Li jbK i_2 rfl (ja6 _) (by omega) (by exact g4.ao (by rw [il_length]; omega)) ?_
   refine Rw rfl (Ll o_2 rfl (by exact (g4.old hs hO0).get (jaV (by omega))) ?_)
   refine Rw rfl (jaZ rfl (jaA (by omega)) ?_)
   refine Lpf rfl (La rfl (Rt (Wf rfl (Wr (Lmm rfl rfl (Lmm rfl rfl ?_))))))
   refine Li jbK i_2 rfl (ja6 _) (by omega) (by exact g4.ao (by rw [il_length]; omega)) ?_
   refine Ll o_2 rfl (by exact (g4.old hs hO0).get (jaV (by omega))) ?_
   refine Li jbK i_2 rfl (ja6 _) (by omega) (by rfl) ?_
   refine jaH hs (i := 0) rfl i_2 rfl rfl (by exact Addr.add_lit ..) (by rw [il_length]; omega) rfl ?_
   intro w hs
   dsimp only [sS, sZ, sA, sN] at hs
   refine Rnl (jaB (jaB (Nt (Wr (jbG rfl (ja3 (by omega)) ?_)))))
   refine Lm rfl (Rnl ?_)
   rw [jc3] at hs
   refine Nq (j + 1, C.set (i * n + j) ((rows.getD i []).getD j 0), _) [0, 2, 3, 4, 6, 7, 8, 9, 10, 34, 35, 36, 45, 46] rfl ?_ ?_
   ·
    dsimp only
    exact ⟨by omega, by simp [hCl], hnew _ (by rw [hls, if_neg hja, if_neg (fun h => by rcases h with h | h; omega; exact hneg h)]), hs⟩
   omega
  have hjn : j = n := by omega
  rw [hjn] at hcf
  refine Wq (jaZ rfl (jaA (by omega)) ?_)
  refine Rt (Wsq (Wf rfl (jaK (ja0 (ja8 (ja1 (jaB (Nt (Wr (jbG rfl (ja3 (by omega)) ?_))))))))))
  refine Lm rfl (Rnl (Nq (i + 1, C, _) [0, 2, 3, 4, 6, 7, 34, 35, 36] rfl ?_ ?_))
  ·
   dsimp only
   refine ⟨by omega, hCl, fun r q hr hq => ?_, hs⟩
   rw [hcf r q hr hq]
   have : (r < i ∨ (r = i /\ q < n)) = (r < i + 1) := by apply propext; omega
   simp only [this]
  omega
 have hki : i = k := by omega
 rw [hki] at hcf
 have hcf' : ∀ r q, r < n -> q < n -> cf n C r q = msC rows m r q := fun r q hr hq => by
  rw [hcf r q hr hq]
  by_cases h5 : r < k
  ·
   rw [if_pos h5]
  unfold msC; rw [if_neg h5, if_neg (by omega)]
 have hC : CostOk n C := ⟨hCl, fun r q hr hq => by
  rw [hcf' r q hr hq]
  exact msC_rng hcel⟩
 clear hcf
 refine Wq (jaZ rfl (jaA (by omega)) ?_)
 refine Rt (Wsq (Wf rfl (jaK (ja0 (ja8 (ja1 (Nt (Wq (Lm rfl (Lc f_69 rfl (play_ok B c u vv o h n C w hC (by omega) (by omega) (HS.named (fun p hp => hs.has p hp) hs.nodup)) ?_))))))))))
 rintro _ w3 ⟨U, V, of, has, hs3, hUl, hVl, hofl, hhasl, hSq, hhas0, hbU, hbV⟩
 replace hs := hs.callU (A := jd9 B c u vv o h n C (List.replicate n 0) (List.replicate n 0) (List.replicate n (-1)) (List.replicate n 0)) (U := jd9 B c u vv o h n C U V of has) (L2 := []) (N := []) rfl (by simpa using hs3) Own.nil
 rw [List.append_nil, List.append_nil] at hs
 obtain ⟨hPf, hhr⟩ := hSq.pf hhas0
 have hof : InR n of := ⟨hofl, hSq.all⟩
 have hhas : InR n has := ⟨hhasl, hhr⟩
 clear hs3 hSq hhas0 hhr
 refine Rq (Lmm rfl rfl (Le jd4 rfl (Lc f_70 rfl (first_ok B c u vv o h n C U V of has k w3 hC (by omega) (by omega) (by omega) hUl hVl hof hhas hbU hbV hPf (HS.named (fun p hp => hs.has p hp) hs.nodup)) ?_)))
 rintro _ w4 ⟨of', has', hs4, hof', hhas', hPf', hLM⟩
 replace hs := hs.callU (A := jd9 B c u vv o h n C U V of has) (U := jd9 B c u vv o h n C U V of' has') (L2 := []) (N := []) rfl (by simpa using hs4) Own.nil
 rw [List.append_nil, List.append_nil] at hs
 have hBest : Best n k (msC rows m) (toN has') := Best.congr (hPf'.best hLM) hcf'
 have hreal : ∀ q, q < k -> (toN has' q < m -> 0 <= el rows q (toN has' q)) /\ (m <= toN has' q -> toN has' q = m + q) := fun q hq => most_real (rows := rows) (n := m) hcel (m := k) (by rw [hk, <- hn]; exact hBest) (by omega)
 have hhl := hhas'.len
 clear hs4 hPf' hLM hPf hof hhas hof'
 refine Rqq (Lm rfl (Le jd4 rfl (Lm rfl (Rt (ja4 ?_)))))
 refine jpE (fun (i : Nat) (v1 : Value) (ms : List Int) (N : List (Nat × Obj)) (cnt : Int) (t : Int) (w : World) => [(0, .slice a k cp), (2, v1), (3, .int .i64 cnt), (4, .int .i64 t), (6, .int .i64 m), (7, .pointer (some ⟨B, 0, none⟩)), (87, .slice a k cp), (88, .int .i64 k), (89, .int .i64 i)]) (fun i v1 ms N cnt t w => w) (fun i v1 ms N cnt t w => (i <= k) /\ (ms = (List.range i).map (fun q => if toN has' q < m then (toN has' q : Int) else -1)) /\ (cnt = tot i (fun q => if toN has' q < m then 1 else 0)) /\ (t = tot i (fun q => if toN has' q < m then el rows q (toN has' q) else 0)) /\ (0 <= t /\ t <= i * 1099511627776) /\ (0 <= cnt /\ cnt <= i) /\ (Bl w0 3 1 v1 i (il ms) N) /\ (HS w0 w (jd9 B c u vv o h n C U V of' has' ++ N))) (fun i v1 ms N cnt t w => k - i) (0) (.slice none 0 0) ([]) ([]) (0) (0) (w4) (is := [0, 2, 3, 4, 6, 7, 87, 88, 89]) rfl rfl ?_ ?_
 ·
  exact ⟨Nat.zero_le _, rfl, rfl, rfl, ⟨by omega, by omega⟩, ⟨by omega, by omega⟩, Bl.nil, by simpa using hs⟩
 clear hs hki
 intro i v1 ms N cnt t w hI
 show W _ _ _ _ [(0, .slice a k cp), (2, v1), (3, .int .i64 cnt), (4, .int .i64 t), (6, .int .i64 m), (7, .pointer (some ⟨B, 0, none⟩)), (87, .slice a k cp), (88, .int .i64 k), (89, .int .i64 i)] w
 obtain ⟨hi, hms, hcnt, ht, htb, hcb, hbl, hs⟩ := hI
 by_cases hlt : i < k
 ·
  have hin : i < n := by omega
  obtain ⟨ai, ci, g1, g2, g3, g4⟩ := hr.row i (by omega)
  have hwi : (rows.getD i []).length = m := by rw [hm]; exact hF.same i (by omega)
  rw [hwi] at g1 g2 g3
  obtain ⟨hje, hjn⟩ := hhas'.nat hin
  have hreali := hreal i hlt
  obtain ⟨j, hj⟩ : ∃ j, j = toN has' i := ⟨_, rfl⟩
  rw [<- hj] at hje hjn hreali
  refine Wq (jaZ rfl (jaF (by omega)) ?_)
  refine Rt (Wsq (Wt rfl (Ws (Wsq (ja4 (Wq (Lm rfl (Li jd4 jd1 rfl (ja6 _) (by omega) (by exact hr.sl.ao (by omega)) ?_))))))))
  refine Ll jdR rfl (by exact (hr.sl.old hs (hO0.app hbl.own)).get g1) ?_
  refine La rfl (La rfl (Rq (Lm rfl (Ln rfl (Lf 5 jcW rfl jg2 (Ll jgQ rfl (by exact hs.cellA (i := 5) rfl rfl) ?_))))))
  refine Lm rfl (Li jbW i_3 rfl (ja6 _) (by omega) (by rfl) ?_)
  refine Ll o_3 rfl (by exact hs.cellA (i := 4) rfl (jaV (by omega))) ?_
  refine La rfl (Rqq ?_)
  rw [hje]
  by_cases hjm : m <= j
  ·
   refine Lmm rfl rfl (jgM rfl (jaF (by omega)) ?_)
   refine Rt (Wt rfl (Wq (Lm rfl (jb4 rfl hs jbW i_3 rfl (by decide) rfl (by simp [Value.cells]) ?_))))
   intro b105 w hb105 hnb105 hs
   simp only [List.flatMap_cons, List.flatMap_nil, jeT, jdL, jcS, je1, jd2, jcR, jdK, jeS, jeU, List.append_nil, List.set_cons_succ, List.set_cons_zero, List.cons_append, List.nil_append] at hs
   refine jb8 rfl jbW i_3 rfl (L := jd9 B c u vv o h n C U V of' has') hs (by assumption) hbl rfl rfl rfl (by simp [Value.oneCell'] ) (by omega) (by omega) ?_
   intro v106 w M106 hs hbl
   refine La rfl (Rt (jaK (ja0 (ja1 (Nt (Wr (jbG rfl (ja3 (by omega)) ?_)))))))
   refine Lm rfl (Rnl ?_)
   rw [show il ms ++ [Value.int IntKind.i64 (-1)] = il (ms ++ [-1]) from jeD ms (-1)] at hbl
   refine Nq (i + 1, v106, ms ++ [-1], M106, cnt, t, _) [0, 2, 3, 4, 6, 7, 87, 88, 89] rfl ?_ ?_
   ·
    dsimp only
    refine ⟨by omega, by rw [List.range_succ, List.map_append, <- hms, List.map_cons, List.map_nil, <- hj, if_neg (by omega)], ?_, ?_, ⟨by omega, by omega⟩, ⟨by omega, by omega⟩, hbl, hs⟩
    ·
     rw [hcnt]; simp only [tot]; rw [<- hj, if_neg (by omega)]; omega
    rw [ht]; simp only [tot]; rw [<- hj, if_neg (by omega)]; omega
   omega
  have hel : (rows.getD i []).getD j 0 <= 1099511627776 := hcel i j (by omega) (by omega)
  have hel0 : 0 <= (rows.getD i []).getD j 0 := hreali.1 (by omega)
  refine Lmm rfl rfl (jgM rfl (jaA (by omega)) ?_)
  refine Rt (Wf rfl (Ws (Wq (Lmm rfl rfl (jb4 rfl hs jbW i_3 rfl (by decide) rfl (by simp [Value.cells]) ?_)))))
  intro b109 w hb109 hnb109 hs
  simp only [List.flatMap_cons, List.flatMap_nil, jeT, jdL, jcS, je1, jd2, jcR, jdK, jeS, jeU, List.append_nil, List.set_cons_succ, List.set_cons_zero, List.cons_append, List.nil_append] at hs
  refine jb8 rfl jbW i_3 rfl (L := jd9 B c u vv o h n C U V of' has') hs (by assumption) hbl rfl rfl rfl (by simp [Value.oneCell'] ) (by omega) (by omega) ?_
  intro v110 w M110 hs hbl
  refine La rfl (Rq (Lm rfl (jbG rfl (ja3 (by omega)) ?_)))
  refine La rfl (Rr (Lmm rfl rfl (Lm rfl ?_)))
  refine Li jbK i_2 rfl (ja6 _) (by omega) (by exact g4.ao (by rw [il_length]; omega)) ?_
  refine Ll o_2 rfl (by exact (g4.old hs (hO0.app hbl.own)).get (jaV (by omega))) ?_
  refine jbG rfl (ja3 (by omega)) ?_
  refine La rfl (Rnl (jaB (Nt (Wr (jbG rfl (ja3 (by omega)) ?_)))))
  refine Lm rfl (Rnl ?_)
  rw [jeD] at hbl
  refine Nq (i + 1, v110, ms ++ [(j : Int)], M110, cnt + 1, t + (rows.getD i []).getD j 0, _) [0, 2, 3, 4, 6, 7, 87, 88, 89] rfl ?_ ?_
  ·
   dsimp only
   refine ⟨by omega, by rw [List.range_succ, List.map_append, <- hms, List.map_cons, List.map_nil, <- hj, if_pos (by omega)], ?_, ?_, ⟨by omega, by omega⟩, ⟨by omega, by omega⟩, hbl, hs⟩
   ·
    rw [hcnt]; simp only [tot]; rw [<- hj, if_pos (by omega)]
   rw [ht]; simp only [tot]; rw [<- hj, if_pos (by omega)]
  omega
 obtain rfl : k = i := by omega
 refine Wq (jaZ rfl (jaA (by omega)) ?_)
 refine Rt (Wsq (Wf rfl (jaK (ja0 (ja8 (ja1 (Nt (Wq (Lmm rfl rfl (Lm rfl (La rfl (La rfl (La rfl (La rfl (Rt (jaW (jhQ rfl rfl rfl rfl rfl ?_)))))))))))))))))
 have hml : ms.length = k := by rw [hms]; simp
 refine ⟨_, rfl, v1, N, ms, cnt, t, 0, rfl, hs.dropL hO0, by rw [hml]; exact hbl, .inr ⟨he0, by omega, toN has', ?_, ?_, ?_, ?_, rfl⟩⟩
 ·
  rw [show wid rows 0 = m from hm.symm, hk, <- hn]; exact hBest
 ·
  rw [show wid rows 0 = m from hm.symm, hk]; exact hms
 ·
  rw [show wid rows 0 = m from hm.symm, hk]; exact hcnt
 rw [show wid rows 0 = m from hm.symm, hk]; exact ht
end Go.Proofs.YtffobakdngbadaaGreat
namespace Go.Proofs.YtffobakdngbadaaGreat
open Go Go.Lk
theorem HS.drop1 {w0 w : World} {p : Nat × Obj} {L : Bks} (h : HS w0 w (p :: L)) (hp : w0.heap.size <= p.1) : HS w0 w L :=
 h.sub (fun _ hq => List.mem_cons_of_mem _ hq) (by have := h.nodup; simp only [List.map_cons, List.nodup_cons] at this; exact this.2) (fun q hq => by
  rcases List.mem_cons.1 hq with rfl | hq
  ·
   exact .inr hp
  exact .inl hq)
theorem jc6 {α : Type} {l : List α} {i : Nat} {d : α} (h : i < l.length) : l.getD i d ∈ l := by
 rw [List.getD_eq_getElem?_getD, List.getElem?_eq_getElem h]; exact List.getElem_mem h
theorem split_at {α : Type} {l : List α} {i : Nat} {d : α} (h : i < l.length) : l = l.take i ++ l.getD i d :: l.drop (i + 1) := by
 have e : l.getD i d = l[i] := by rw [List.getD_eq_getElem?_getD, List.getElem?_eq_getElem h]; rfl
 rw [e, <- List.drop_eq_getElem_cons h, List.take_append_drop]
theorem get_mid {α : Type} (xs ys : List α) (v : α) (k : Nat) (hk : xs.length = k) : (xs ++ v :: ys)[k]? = some v := by
 subst hk
 rw [List.getElem?_append_right (Nat.le_refl _), Nat.sub_self]; rfl
theorem set_mid' {α : Type} (xs ys : List α) (v u : α) (k : Nat) (hk : xs.length = k) : (xs ++ v :: ys).set k u = xs ++ u :: ys := by
 subst hk
 rw [List.set_append_right _ _ (Nat.le_refl _), Nat.sub_self, List.set_cons_zero]
theorem HS.push {w0 w : World} {p : Nat × Obj} {L : Bks} (h : HS w0 w (L ++ [p])) : HS w0 w (p :: L) := h.mem_perm (List.perm_append_comm (l₂ := [_]))
theorem HS.pop {w0 w : World} {p : Nat × Obj} {L : Bks} (h : HS w0 w (p :: L)) (hp : w0.heap.size <= p.1) : HS w0 w L := HS.drop1 h hp
theorem HS.re {w0 w : World} {L L' : Bks} (h : HS w0 w L) (hc : ∀ c : Nat × Obj -> Nat, (L.map c).sum = (L'.map c).sum) : HS w0 w L' := h.mem_perm (perm_by hc)
theorem jb6 {w0 w : World} {L : Bks} (h : HS w0 w L) {b j : Nat} {T : TypeId} {cs : List Value} {v : Value} (hm : (b, Row T cs) ∈ L) (hv : cs[j]? = some v) : w.cell? ((Addr.mk b 0 none).add j) = some v := by
 rw [jaM]; exact Lk.cell_of_row (h.has _ hm) hv
theorem jcX {α : Type} {l : List α} {j : Nat} {x : α} (h : l[j]? = some x) : l.take (j + 1) = l.take j ++ [x] := by
 rw [List.take_add_one, h]; rfl
structure RR where
 xs : List Int
 v : Value
 M : Bks
def rr0 : RR := ⟨[], .slice none 0 0, []⟩
def RR.ok (w0 : World) (r : RR) : Prop := Bl w0 2 1 r.v r.xs.length (il r.xs) r.M
def rvs (rr : List RR) : List Value := rr.map RR.v
def rbs (rr : List RR) : Bks := rr.flatMap RR.M
theorem rbs_own {w0 : World} {rr : List RR} (h : ∀ r ∈ rr, r.ok w0) : Own w0 (rbs rr) := fun p hp => by
 obtain ⟨r, hr, hp⟩ := List.mem_flatMap.1 hp
 exact (h r hr).own p hp
theorem Bl.slcM {w0 w : World} {E : TypeId} {sz : Nat} {a : Option Addr} {n c k : Nat} {xs : List Value} {L M : Bks} (h : Bl w0 E sz (.slice a n c) k xs M) (hs : HS w0 w L) (hM : ∀ p ∈ M, p ∈ L) : SlC w a xs := by
 have hs' : HS w w ([] ++ M) := HS.named (fun p hp => hs.has p (hM p hp)) (by
  cases h with
  | nil => exact List.nodup_nil
  | row => exact List.nodup_cons.2 ⟨List.not_mem_nil, List.nodup_nil⟩)
 have h' : Bl w E sz (.slice a n c) k xs M ∨ True := .inr trivial
 clear h'
 cases h with
 | nil => exact ⟨fun h => absurd h (Nat.lt_irrefl _), fun j v hv => by simp at hv⟩
 | row => exact SlC.of_row (hs.has _ (hM _ (List.mem_cons_self ..)))
theorem jm8 {α β : Type} {l : List α} {f : α -> β} {m : List β} (h : l.map f = m) {k : Nat} {d : α} (hk : k < l.length) : m[k]? = some (f (l.getD k d)) := by
 rw [<- h, List.getElem?_map, List.getElem?_eq_getElem hk, List.getD_eq_getElem?_getD, List.getElem?_eq_getElem hk]; rfl
theorem jaX {w : World} {b T j n : Nat} {xs cs : List Value} (h : w.heap[b]? = some (Row T xs)) (hx : (xs.drop j).take n = cs) : jbF w ((Addr.mk b 0 none).add j) cs :=
 cellsAt_row cs h fun q v hq => by
  subst hx
  have hlt : q < n := by
   apply Classical.byContradiction
   intro hn
   rw [List.getElem?_take, if_neg hn] at hq; cases hq
  rw [List.getElem?_take_of_lt hlt, List.getElem?_drop] at hq
  exact hq
theorem jfM {w : World} {b T j n : Nat} {xs cs : List Value} (h : w.heap[b]? = some (Row T xs)) (hx : (xs.drop j).take n = cs) : jbF w ⟨b, j, none⟩ cs := by
 have := jaX (j := j) h hx
 rwa [jaM] at this
structure VB where
 v : Value
 M : Bks
def vb0 : VB := ⟨.slice none 0 0, []⟩
theorem rowsI_sl {w0 w : World} {a : Option Addr} {n : Nat} {rr : List RR} {L : Bks} (hs : HS w0 w L) (hg : SlC w a (rvs rr)) (hr : ∀ r ∈ rr, r.ok w0) (hm : ∀ p ∈ rbs rr, p ∈ L) (hl : ∀ r ∈ rr, r.xs.length <= n) (hn : n <= 1000) : RowsI w a (rr.map RR.xs) (rvs rr) := by
 refine ⟨hg, by simp [rvs], fun i hi => ?_⟩
 rw [List.length_map] at hi
 have hm' : rr.getD i rr0 ∈ rr := jc6 hi
 have e1 : (rvs rr)[i]? = some (rr.getD i rr0).v := by
  unfold rvs; rw [List.getElem?_map, List.getElem?_eq_getElem hi, List.getD_eq_getElem?_getD, List.getElem?_eq_getElem hi]; rfl
 have e2 : (rr.map RR.xs).getD i [] = (rr.getD i rr0).xs := by
  rw [List.getD_eq_getElem?_getD, List.getElem?_map, List.getElem?_eq_getElem hi, List.getD_eq_getElem?_getD, List.getElem?_eq_getElem hi]; rfl
 have hb := hr _ hm'
 obtain ⟨a, c, hv, hc⟩ := Bl.slice hb
 have hl' := hl _ hm'
 rw [e1, e2, hv]
 refine ⟨a, c, rfl, hc, by omega, ?_⟩
 unfold RR.ok at hb
 rw [hv] at hb
 exact Bl.slcM hb hs (fun p hp => hm _ (List.mem_flatMap.2 ⟨_, hm', hp⟩))
structure Trk where
 id : Int
 kind : Int
 x : Stt
 y : Stt
 seen : Nat
 steps : Int
 last : Nat
def stt0 : Stt := ⟨0, 0, 0, 0, 0⟩
def trk0 : Trk := ⟨0, 0, stt0, stt0, 0, 0, 0⟩
def Trk.cells (t : Trk) : List Value := [.int .i64 t.id, .int .i8 t.kind, .float .f64 t.x.x, .float .f64 t.x.v, .float .f64 t.x.p, .float .f64 t.x.q, .float .f64 t.x.r, .float .f64 t.y.x, .float .f64 t.y.v, .float .f64 t.y.p, .float .f64 t.y.q, .float .f64 t.y.r, .int .u16 t.seen, .int .i64 t.steps, .float .f64 t.last]
theorem Trk.one (t : Trk) : ∀ v ∈ t.cells, v.oneCell' = true := by simp [Trk.cells, Value.oneCell']
def SPC (f : FuncId) (args : Array Value) (v : Value) : Prop := match f, args.toList with
 | 64, [.agg a, .float .f64 x, .float .f64 n] => ∀ s : Stt, a = s.cells.toArray -> ∃ d, v = .float .f64 d /\ cn d = cn (jpS s x n)
 | 34, [.agg a, .float .f64 t, .float .f64 q] => ∀ s : Stt, a = s.cells.toArray -> ∃ u : Stt, v = .agg u.cells.toArray /\ u.c = (jdB s t q).c
 | 37, [.agg a, .float .f64 x, .float .f64 n] => ∀ s : Stt, a = s.cells.toArray -> ∃ u : Stt, v = .agg u.cells.toArray /\ u.c = (jcY s x n).c
 | 39, [.float .f64 x, .float .f64 n, .float .f64 q] => v = .agg (jdY x n q).cells.toArray
 | _, _ => False
theorem Stt.inj {s u : Stt} (h : s.cells.toArray = u.cells.toArray) : s = u := by
 have h1 := congrArg Array.toList h
 simp only [Stt.cells, List.cons.injEq, Value.float.injEq, true_and, and_true] at h1
 obtain ⟨x, v, p, q, r⟩ := s
 obtain ⟨x', v', p', q', r'⟩ := u
 obtain ⟨rfl, rfl, rfl, rfl, rfl⟩ := h1
 rfl
theorem farH {w0 w : World} {L : Bks} (hs : HS w0 w L) (s : Stt) (x n : Nat) : Ret Tryz.prog 64 [.agg s.cells.toArray, .float .f64 x, .float .f64 n] w fun v w' => SPC 64 [.agg s.cells.toArray, .float .f64 x, .float .f64 n].toArray v /\ HS w0 w' L :=
 Calls.mono (far_ok s x n w) fun e w' => by
  rintro ⟨v, rfl, ⟨d, rfl, hd⟩, hs'⟩
  exact ⟨_, rfl, fun u hu => ⟨d, rfl, Stt.inj hu ▸ hd⟩, hs.nil hs'⟩
theorem aheadH {w0 w : World} {L : Bks} (hs : HS w0 w L) (s : Stt) (x n : Nat) : Ret Tryz.prog 34 [.agg s.cells.toArray, .float .f64 x, .float .f64 n] w fun v w' => SPC 34 [.agg s.cells.toArray, .float .f64 x, .float .f64 n].toArray v /\ HS w0 w' L :=
 Calls.mono (ahead_ok s x n w) fun e w' => by
  rintro ⟨v, rfl, ⟨d, rfl, hd⟩, hs'⟩
  exact ⟨_, rfl, fun u hu => ⟨d, rfl, Stt.inj hu ▸ hd⟩, hs.nil hs'⟩
theorem seenH' {w0 w : World} {L : Bks} (hs : HS w0 w L) (s : Stt) (x n : Nat) : Ret Tryz.prog 37 [.agg s.cells.toArray, .float .f64 x, .float .f64 n] w fun v w' => SPC 37 [.agg s.cells.toArray, .float .f64 x, .float .f64 n].toArray v /\ HS w0 w' L :=
 Calls.mono (seen_ok s x n w) fun e w' => by
  rintro ⟨v, rfl, ⟨d, rfl, hd⟩, hs'⟩
  exact ⟨_, rfl, fun u hu => ⟨d, rfl, Stt.inj hu ▸ hd⟩, hs.nil hs'⟩
theorem startH {w0 w : World} {L : Bks} (hs : HS w0 w L) (x n q : Nat) : Ret Tryz.prog 39 [.float .f64 x, .float .f64 n, .float .f64 q] w fun v w' => SPC 39 [.float .f64 x, .float .f64 n, .float .f64 q].toArray v /\ HS w0 w' L :=
 Calls.mono (start_ok x n q w) fun e w' => by
  rintro ⟨v, rfl, rfl, hs'⟩
  exact ⟨_, rfl, rfl, hs.nil hs'⟩
theorem cost_ok (B n g : Nat) (t : Trk) (px py : Nat) (w0 : World) (hg : GateOk g) (hn : w0.cell? ⟨B, 0, none⟩ = some (.float .f64 n)) (hgc : w0.cell? ⟨B, 2, none⟩ = some (.float .f64 g)) :
  Ret Tryz.prog 35 [.pointer (some ⟨B, 0, none⟩), .agg t.cells.toArray, .agg #[.float .f64 px, .float .f64 py]] w0 fun v w' => v = .int .i64 (jdV n g t.x t.y px py) /\ HS w0 w' [] := by
 refine Ret.start fun w hs => ?_
 have hB := World.block_lt_of_cell? w0 _ hn
 refine ja7 Tryz.func35 rfl rfl rfl (Wq (jeH rfl hs rfl ?_))
 intro b4 w hb4 hnb4 hs
 dsimp only [sS, sZ, sA, sN] at hs
 refine jeH rfl hs rfl ?_
 intro b5 w hb5 hnb5 hs
 dsimp only [sS, sZ, sA, sN] at hs
 refine La rfl (Rt (Wsq ?_))
 replace hs : HS w0 w [(b4, Row 51 t.cells), (b5, Row 83 [.float .f64 px, .float .f64 py])] := hs
 have ho : Own w0 [(b4, Row 51 t.cells), (b5, Row 83 [.float .f64 px, .float .f64 py])] := Own.cons hb4 (Own.cons hb5 Own.nil)
 refine jqD Tryz.mixed ?_
 replace hs := hs.drewN 1
 refine jbR [0, 2, 4, 5, 6, 7, 10, 12, 14, 15, 16, 17] [1, 3, 8, 9, 11, 13, 18, 19, 20, 21] [] (jmZ SPC) (g' := 0) (by kernel_rfl) (by kernel_rfl) (fun _ _ _ _ _ h => h) hs ?_
 refine Pfa 2 jcC rfl jbP (Pfa 0 u_83 rfl jaS (Pm rfl (Pn rfl (Pfa 0 jfS rfl jfP (Pfa 0 jbM rfl jaS (Pfa 7 jcC rfl jbP (Pfa 1 u_83 rfl jaS (Pm rfl (Pn rfl (Pfa 0 jfS rfl jfP (Pfa 0 jbM rfl jaS (jd0 (jaP rfl (fun w R hR hs => jcL jfY jbP rfl (by exact jfM (n := 5) (cs := t.x.cells) (hs.get (i := 0) rfl) rfl)) ?_)))))))))))))
 refine jaP rfl (fun w R hR hs => jaN jb5 rfl (by exact hs.cell (i := 1) rfl rfl)) ?_
 refine jaP rfl (fun w R hR hs => jaN jb5 rfl (by exact HS.oldcell hs hn ((ho.app hR).notin hB))) ?_
 refine jc5 rfl f_64 rfl (fun w R hR hs => farH hs t.x px n) ?_
 rintro _ hd
 obtain ⟨d1, rfl, hd1⟩ := hd _ rfl
 refine jaP rfl (fun w R hR hs => jcL jfY jbP rfl (by exact jfM (n := 5) (cs := t.y.cells) (hs.get (i := 0) rfl) rfl)) ?_
 refine jaP rfl (fun w R hR hs => jaN jb5 rfl (by exact hs.cell (i := 1) rfl rfl)) ?_
 refine jaP rfl (fun w R hR hs => jaN jb5 rfl (by exact HS.oldcell hs hn ((ho.app hR).notin hB))) ?_
 refine jc5 rfl f_64 rfl (fun w R hR hs => farH hs t.y py n) ?_
 rintro _ hd
 obtain ⟨d2, rfl, hd2⟩ := hd _ rfl
 refine jbV rfl (op := .add) rfl rfl rfl ?_
 intro r28 hr28
 refine jaP rfl (fun w R hR hs => jbS rfl) ?_
 refine jcU ?_
 intro w hs
 refine jg5 (jdW (by kernel_rfl) ?_)
 refine Nt (Wsq (Wsq ?_))
 have e28 : cn r28 = cn (jrD n t.x t.y px py) := (Fs.cn hr28).trans ((ja5 hd1 hd2).trans (jaL ..).symm)
 have hlr : leB r28 g = leB (jrD n t.x t.y px py) g := by unfold leB; rw [jd5 e28 rfl]
 cases hle : leB (jrD n t.x t.y px py) g
 ·
  rw [hle] at hlr
  have e : jdV n g t.x t.y px py = -1 := by unfold jdV costD; rw [hle, if_neg (by decide)]
  rw [e]
  refine Wr (Lmm rfl rfl (Ln rfl (Lf 0 jfS rfl jfP (Lf 2 jbM rfl jaS (Ll jb5 rfl (by exact hs.oldcell hgc ((ho.app Own.nil).notin hB)) ?_)))))
  refine Cf rfl (fun _ => by rw [binOp_float_cmp_leq]; rfl) ?_
  refine Rt (jcG 35 (v' := .bool false) rfl ((congrArg Value.bool hlr)) (Wf rfl (Ws (Wq (La rfl (Rt (jaW (ja9 rfl rfl ?_))))))))
  exact ⟨_, rfl, rfl, hs.forget (ho.app Own.nil)⟩
 rw [hle] at hlr
 obtain ⟨h1, h3, m, h4, h5⟩ := jpC hg jrC hle
 have e : jdV n g t.x t.y px py = (m : Int) := by unfold jdV costD; rw [hle, if_pos rfl, h5]; rfl
 rw [e]
 refine Wr (Lmm rfl rfl (Ln rfl (Lf 0 jfS rfl jfP (Lf 2 jbM rfl jaS (Ll jb5 rfl (by exact hs.oldcell hgc ((ho.app Own.nil).notin hB)) ?_)))))
 refine Cf rfl (fun _ => by rw [binOp_float_cmp_leq]; rfl) ?_
 refine Rt (jcG 35 (v' := .bool true) rfl ((congrArg Value.bool hlr)) (Wt rfl (Wq (Lm rfl (jaC rfl (op := .mul) rfl rfl rfl ?_)))))
 intro r37 k37 hr37
 replace hs := hs.drewN k37
 have eQ : cn r37 = cn (fop .mul (jrD n t.x t.y px py) 4697254411347427328) := (Fs.cn hr37).trans ((ja5 e28 rfl).trans (jaL ..).symm)
 obtain rfl : r37 = fop .mul (jrD n t.x t.y px py) 4697254411347427328 := cn_same eQ h3
 refine Lc f_65 rfl (jn3 _ _ h3 rfl _) ?_
 rintro _ _ ⟨rfl, rfl⟩
 refine jaT rfl (R_ftoi u_22 u_2 rfl h5) (La rfl (Rt (jaW (ja2 (ja9 rfl rfl ?_)))))
 exact ⟨_, rfl, rfl, hs.forget (ho.app Own.nil)⟩
def popS : ByteArray := ⟨#[0, 1, 1, 2, 1, 2, 2, 3, 1, 2, 2, 3, 2, 3, 3, 4, 1, 2, 2, 3, 2, 3, 3, 4, 2, 3, 3, 4, 3, 4, 4, 5, 1, 2, 2, 3, 2, 3, 3, 4, 2, 3, 3, 4, 3, 4, 4, 5, 2, 3, 3, 4, 3, 4, 4, 5, 3, 4, 4, 5, 4, 5, 5, 6, 1, 2, 2, 3, 2, 3, 3, 4, 2, 3, 3, 4, 3, 4, 4, 5, 2, 3, 3, 4, 3, 4, 4, 5, 3, 4, 4, 5, 4, 5, 5, 6, 2, 3, 3, 4, 3, 4, 4, 5, 3, 4, 4, 5, 4, 5, 5, 6, 3, 4, 4, 5, 4, 5, 5, 6, 4, 5, 5, 6, 5, 6, 6, 7, 1, 2, 2, 3, 2, 3, 3, 4, 2, 3, 3, 4, 3, 4, 4, 5, 2, 3, 3, 4, 3, 4, 4, 5, 3, 4, 4, 5, 4, 5, 5, 6, 2, 3, 3, 4, 3, 4, 4, 5, 3, 4, 4, 5, 4, 5, 5, 6, 3, 4, 4, 5, 4, 5, 5, 6, 4, 5, 5, 6, 5, 6, 6, 7, 2, 3, 3, 4, 3, 4, 4, 5, 3, 4, 4, 5, 4, 5, 5, 6, 3, 4, 4, 5, 4, 5, 5, 6, 4, 5, 5, 6, 5, 6, 6, 7, 3, 4, 4, 5, 4, 5, 5, 6, 4, 5, 5, 6, 5, 6, 6, 7, 4, 5, 5, 6, 5, 6, 6, 7, 5, 6, 6, 7, 6, 7, 7, 8]⟩
def popT (i : Nat) : Nat := (popS.data[i]?.getD 0).toNat
theorem pop_at {i : Nat} (h : i < 256) : ∃ b : UInt8, popS[i]? = some b /\ b.toNat = popT i /\ b.toNat <= 8 := by
 have hs : popS.size = 256 := by decide +kernel
 have h1 : ∀ j, j < 256 -> popT j <= 8 := by decide +kernel
 have hi : i < popS.size := by omega
 refine ⟨popS[i], by simp [hi], ?_, ?_⟩
 ·
  unfold popT
  rw [Array.getElem?_eq_getElem (show i < popS.data.size from hi)]; rfl
 have := h1 i h
 unfold popT at this
 rw [Array.getElem?_eq_getElem (show i < popS.data.size from hi)] at this
 exact this
def popF (n : Nat) : Nat := popT (n / 256) + popT (n % 256)
theorem shr8 (n : Nat) : (n : Int).fdiv (2 ^ (min (Int.toNat 8) (IntKind.bits .u16))) = ((n / 256 : Nat) : Int) := by
 show (n : Int).fdiv 256 = _
 rw [Int.fdiv_eq_ediv_of_nonneg _ (by decide)]
 omega
theorem and255 (n : Nat) (h : n < 65536) : bits .and .u16 (n : Int) 255 = ((n % 256 : Nat) : Int) := by
 have := u16_and_nat n 255 h (by decide)
 rw [show n &&& 255 = n % 256 from Nat.and_two_pow_sub_one_eq_mod n 8] at this
 exact this
theorem ones_ok (n : Nat) (h : n < 65536) (w : World) : Ret Tryz.prog 72 [.int .u16 n] w fun v w' => v = .int .i64 (popF n) /\ HS w w' [] := by
 refine Ret.start fun w hs => ?_
 obtain ⟨b1, h1, e1, l1⟩ := pop_at (i := n / 256) (by omega)
 obtain ⟨b2, h2, e2, l2⟩ := pop_at (i := n % 256) (by omega)
 refine ja7 Tryz.func72 rfl rfl rfl (Wq (La rfl (Rt (Wsq (jcH [0, 1, 2, 3, 4, 5, 6, 7, 8] [] [] (fun _ _ _ => False) Tryz.mixed (by kernel_rfl) (fun _ _ _ _ _ h => h) hs ?_)))))
 refine Pm rfl (Pv rfl (fun w => R_shr rfl rfl (by omega) (shr8 n)) ?_)
 refine Pv rfl (fun w => R_indexS u_9 rfl rfl h1) ?_
 refine Pm rfl (Pv rfl (fun w => jk5 (by simp) rfl rfl (and255 n h)) ?_)
 refine Pv rfl (fun w => R_indexS u_9 rfl rfl h2) ?_
 refine Pv rfl (fun w => jk6 rfl rfl (wrp_u8 (by omega))) ?_
 refine Pv rfl (fun w => R_itoi u_5 u_3 rfl (ja3 (by omega))) ?_
 refine Pv rfl (fun w => jbS rfl) ?_
 refine jbH (jb2 ?_)
 intro w hs
 refine Rt (jaW (ja9 rfl rfl ?_))
 refine ⟨_, rfl, ?_, hs⟩
 rw [e1, e2]; rfl
end Go.Proofs.YtffobakdngbadaaGreat
namespace Go.Lk
open Go
inductive Bo (w0 : World) (E : TypeId) (sz : Nat) : Value -> Nat -> List Value -> List (Nat × Obj) -> Prop
 | nil : Bo w0 E sz (.slice none 0 0) 0 [] []
 | row {g o n cap : Nat} {pre xs sp : List Value} (hg : w0.heap.size <= g) (hp : pre.length = o) (hx : xs.length = n * sz) (hc : (xs ++ sp).length = cap * sz) (hn : n <= cap) : Bo w0 E sz (.slice (some ⟨g, o, none⟩) n cap) n xs [(g, Row E (pre ++ (xs ++ sp)))]
theorem Bl.bo {w0 : World} {E : TypeId} {sz : Nat} {v : Value} {n : Nat} {xs : List Value} {M : List (Nat × Obj)} (h : Bl w0 E sz v n xs M) : Bo w0 E sz v n xs M := by
 cases h with
 | nil => exact .nil
 | row hg hx hc hn => exact .row (pre := []) hg rfl hx hc hn
theorem Bo.own {w0 : World} {E : TypeId} {sz : Nat} {v : Value} {n : Nat} {xs : List Value} {M : List (Nat × Obj)} (h : Bo w0 E sz v n xs M) : Own w0 M := by
 cases h with
 | nil => exact Own.nil
 | row hg => exact Own.cons hg Own.nil
theorem Bo.mono {w0 w : World} {E : TypeId} {sz : Nat} {v : Value} {n : Nat} {xs : List Value} {M : List (Nat × Obj)} (h : Bo w E sz v n xs M) (hle : w0.heap.size <= w.heap.size) : Bo w0 E sz v n xs M := by
 cases h with
 | nil => exact .nil
 | row hg hp hx hc hn => exact .row (Nat.le_trans hle hg) hp hx hc hn
theorem Bo.slice {w0 : World} {E : TypeId} {sz : Nat} {v : Value} {n : Nat} {xs : List Value} {M : List (Nat × Obj)} (h : Bo w0 E sz v n xs M) : ∃ ao c, v = .slice ao n c /\ n <= c := by
 cases h with
 | nil => exact ⟨_, _, rfl, Nat.le_refl _⟩
 | row _ _ _ _ hn => exact ⟨_, _, rfl, hn⟩
theorem Bo.one' {w0 : World} {E : TypeId} {sz : Nat} {v : Value} {n : Nat} {xs : List Value} {M : List (Nat × Obj)} (h : Bo w0 E sz v n xs M) : v.oneCell' = true := by
 obtain ⟨_, _, rfl, _⟩ := h.slice
 rfl
theorem Bo.slcM {w0 w : World} {E : TypeId} {sz : Nat} {a : Option Addr} {n c k : Nat} {xs : List Value} {L M : List (Nat × Obj)} (h : Bo w0 E sz (.slice a n c) k xs M) (hs : HS w0 w L) (hM : ∀ p ∈ M, p ∈ L) : SlC w a xs := by
 obtain ⟨v, hv⟩ : ∃ v, v = Value.slice a n c := ⟨_, rfl⟩
 rw [<- hv] at h
 cases h with
 | nil =>
  injection hv with h1 h2 h3
  subst h1
  exact ⟨fun h => absurd h (by decide), fun j v hv => by simp at hv⟩
 | @row g o n cap pre xs sp hg hp hx hc hn =>
  injection hv with h1 h2 h3
  subst h1
  refine ⟨fun _ => rfl, fun j u hu => ?_⟩
  have hj : j < xs.length := (List.getElem?_eq_some_iff.1 hu).1
  show w.cell? ((Addr.mk g o none).add j) = some u
  rw [Addr.add_lit]
  refine Lk.cell_of_row (hs.has _ (hM _ (List.mem_singleton.2 rfl))) ?_
  rw [List.getElem?_append_right (by omega), List.getElem?_append_left (by omega), hp, Nat.add_sub_cancel_left]
  exact hu
theorem jmC {w0 : World} {b : Nat} {T : TypeId} : ∀ (news : List Value) (o : Nat) (pre mid post : List Value) (w : World) (L : List (Nat × Obj)) (i : Nat), HS w0 w L -> L[i]? = some (b, Row T (pre ++ (mid ++ post))) -> pre.length = o -> mid.length = news.length ->
  HS w0 (w.setCells b o news) (L.set i (b, Row T (pre ++ (news ++ post))))
 | [], o, pre, mid, post, w, L, i, hs, hL, _, hm => by
  obtain rfl : mid = [] := List.eq_nil_of_length_eq_zero hm
  have hi : i < L.length := (List.getElem?_eq_some_iff.1 hL).1
  have e : L.set i (b, Row T (pre ++ ([] ++ post))) = L := by
   apply List.ext_getElem? ; intro j
   by_cases hj : i = j
   ·
    subst hj; rw [List.getElem?_set_self hi, hL]
   rw [List.getElem?_set_ne hj]
  rw [e]; exact hs
 | v :: r, o, pre, mid, post, w, L, i, hs, hL, hp, hm => by
  obtain ⟨m0, mid', rfl⟩ : ∃ m0 mid', mid = m0 :: mid' := by
   cases mid with
   | nil => simp at hm
   | cons a b => exact ⟨a, b, rfl⟩
  have hi : i < L.length := (List.getElem?_eq_some_iff.1 hL).1
  have h1 := hs.store (j := o) (v := v) hL
  have e1 : (pre ++ ((m0 :: mid') ++ post)).set o v = (pre ++ [v]) ++ (mid' ++ post) := by
   rw [List.set_append_right _ _ (by omega), <- hp, Nat.sub_self]
   simp
  rw [e1] at h1
  have h2 := jmC r (o + 1) (pre ++ [v]) mid' post _ _ i h1 (by rw [List.getElem?_set_self hi]) (by rw [List.length_append, hp]; rfl) (by simpa using hm)
  rw [List.set_set] at h2
  have e2 : (pre ++ [v]) ++ (r ++ post) = pre ++ ((v :: r) ++ post) := by simp
  rw [e2] at h2
  exact h2
theorem jqR {P : Program} {w0 w : World} {L : List (Nat × Obj)} {T E ty : TypeId} {z : Value} {sz b : Nat} {v : Value} {n : Nat} {xs : List Value} {M : List (Nat × Obj)}
  (hT : P.underlying T = some (.slice E)) (hi : TI P E z sz b) (hz : z.cells.size = sz) (hs : HS w0 w (L ++ M)) (hb : Bo w0 E sz v n xs M)
  {ad : Addr} {m c : Nat} {news : List Value} (hl : news.length = m * sz) (hnews : jbF w ad news) (h1 : ∀ u ∈ news, u.oneCell' = true)
  (h63 : n + m <= 9223372036854775807) (hbytes : (n + m) * b <= 140737488355328) :
  ∃ v' w' M', (Builtin.append_ #[T, T] ty #[v, .slice (some ad) m c]).run P w = .ok v' w' /\ HS w0 w' (L ++ M') /\ Bo w0 E sz v' (n + m) (xs ++ news) M' := by
 cases hb with
 | nil =>
  obtain ⟨v', w', M', e1, e2, e3⟩ := jkD (P := P) (ty := ty) hT hi hz hs Bl.nil hl hnews h1 h63 hbytes (c := c)
  exact ⟨v', w', M', e1, e2, e3.bo⟩
 | @row g o n cap pre xs sp hg hp hx hc hn =>
  obtain ⟨i, hi1, hi2, hi3, hi4⟩ := hi.ex
  subst hi3 hi4
  have hL : (L ++ [(g, Row E (pre ++ (xs ++ sp)))])[L.length]? = some (g, Row E (pre ++ (xs ++ sp))) := by simp
  by_cases hroom : n + m <= cap
  ·
   have hfit : n * i.size + news.length <= xs.length + sp.length := by rw [<- List.length_append, hl, hc, <- Nat.add_mul]; exact Nat.mul_le_mul_right _ hroom
   have hns : news.length <= sp.length := by omega
   have hr := run_append_room_cells (P := P) (w := w) T ty E i hT hi1 g o n cap ad m c news hl hnews h1 hroom
    (fun j hj => by
     have hj2 : j < sp.length := by omega
     rw [show (w.cell? ⟨g, o + n * i.size + j, none⟩) = some sp[j] from hs.cell hL (by
      rw [List.getElem?_append_right (by omega), List.getElem?_append_right (by omega), show o + n * i.size + j - pre.length - xs.length = j by omega]
      exact List.getElem?_eq_getElem hj2)]
     rfl)
    (fun j hj => jgT (hs.get hL) _ rfl)
   have hset := jmC (b := g) (T := E) news (o + n * i.size) (pre ++ xs) (sp.take news.length) (sp.drop news.length) w _ L.length hs (by
    rw [hL, List.take_append_drop, List.append_assoc]) (by rw [List.length_append]; omega) (by rw [List.length_take]; omega)
   have e1 : (pre ++ xs) ++ (news ++ sp.drop news.length) = pre ++ ((xs ++ news) ++ sp.drop news.length) := by simp
   rw [e1] at hset
   refine ⟨_, _, [(g, Row E (pre ++ ((xs ++ news) ++ sp.drop news.length)))], hr, ?_, ?_⟩
   ·
    simpa using hset
   refine .row hg hp (by rw [List.length_append, hx, hl, Nat.add_mul]) ?_ hroom
   rw [List.length_append] at hc
   rw [List.length_append, List.length_append, List.length_drop]
   omega
  have holds : jbF w ⟨g, o, none⟩ xs := fun j u hu => by
   have hj : j < xs.length := (List.getElem?_eq_some_iff.1 hu).1
   rw [Addr.add_lit]
   refine hs.cell hL ?_
   rw [List.getElem?_append_right (by omega), List.getElem?_append_left (by omega), hp, Nat.add_sub_cancel_left]
   exact hu
  have hr := run_append_grow (P := P) w T ty E i z hT hi1 hi2 ⟨g, o, none⟩ n cap xs hx holds ad m c news hl hnews (by omega) (by omega) (growslice_fits (by omega) hbytes)
  have hge := grownCap_ge w (n + m) cap E
  have e2 : xs.toArray ++ news.toArray = (xs ++ news).toArray := by simp
  rw [e2, jhP] at hr
  refine ⟨_, _, [(w.heap.size, Row E (xs ++ news ++ (Builtin.zeroCells z.cells (grownCap w (n + m) cap E - (n + m))).toList))], hr, ?_, ?_⟩
  ·
   have h2 := (hs.drewN 1).alloc (Row E (xs ++ news ++ (Builtin.zeroCells z.cells (grownCap w (n + m) cap E - (n + m))).toList))
   refine h2.sub (fun p hp => ?_) ?_ (fun p hp => ?_)
   ·
    rcases List.mem_append.1 hp with h3 | h3
    ·
     simp [h3]
    simp at h3; subst h3; simp
   ·
    have := h2.nodup
    rw [List.map_append, List.map_append, List.append_assoc] at this
    rw [List.map_append]
    exact this.sublist (by simp)
   simp only [List.mem_append, List.mem_singleton] at hp ⊢
   rcases hp with (h3 | h3) | h3
   ·
    exact .inl (.inl h3)
   ·
    right; subst h3; exact hg
   exact .inl (.inr h3)
  refine .row (pre := []) (by have := hs.size; exact this) rfl (by rw [List.length_append, hx, hl, Nat.add_mul]) ?_ hge
  have e3 : (xs ++ news).length = (n + m) * i.size := by rw [List.length_append, hx, hl, Nat.add_mul]
  have e4 : (Builtin.zeroCells z.cells (grownCap w (n + m) cap E - (n + m))).toList.length = (grownCap w (n + m) cap E - (n + m)) * i.size := by rw [Array.length_toList, size_zeroCells, hz]
  rw [List.length_append, e3, e4, <- Nat.add_mul]
  congr 1; omega
theorem Bo.cut {w0 : World} {E : TypeId} {sz n cap k : Nat} {a : Option Addr} {xs : List Value} {M : List (Nat × Obj)} (h : Bo w0 E sz (.slice a n cap) n xs M) (hk : k < n) : Bo w0 E sz (.slice (slA a k cap sz) (n - k) (cap - k)) (n - k) (xs.drop (k * sz)) M := by
 obtain ⟨v, hv⟩ : ∃ v, v = Value.slice a n cap := ⟨_, rfl⟩
 rw [<- hv] at h
 cases h with
 | nil => omega
 | @row g o n cap pre xs sp hg hp hx hc hn =>
  injection hv with h1 h2 h3
  subst h1 h3
  have e : slA (some (Addr.mk g o none)) k cap sz = some ⟨g, o + k * sz, none⟩ := by
   unfold slA
   rw [if_neg (by omega)]
   show some ((Addr.mk g o none).add (k * sz)) = _
   rw [Addr.add_lit]
  have hks : k * sz <= n * sz := Nat.mul_le_mul_right _ (by omega)
  have hkc : k * sz <= cap * sz := Nat.mul_le_mul_right _ (by omega)
  have e2 : pre ++ (xs ++ sp) = (pre ++ xs.take (k * sz)) ++ (xs.drop (k * sz) ++ sp) := by
   rw [List.append_assoc, <- List.append_assoc (xs.take _), List.take_append_drop]
  rw [e, e2]
  refine .row hg (by rw [List.length_append, List.length_take, hp, hx]; omega) (by rw [List.length_drop, hx, Nat.sub_mul]) ?_ (by omega)
  rw [List.length_append] at hc
  rw [List.length_append, List.length_drop, Nat.sub_mul]
  omega
section
variable {P : Program} {n : Nat} {Q : jeG} {e : Env} {w w0 : World} {L : List (Nat × Obj)} {ops : Array Oper} {rest : List Oper} {t : TypeId} {p : String} {af : Array Edge}
theorem jpK {d : Nat} (hd : Nat.blt d n = true) {T E : TypeId} {x y : Operand} {z : Value} {sz b : Nat} {v : Value} {k : Nat} {xs : List Value} {M : List (Nat × Obj)} {bt m c : Nat} {news : List Value}
  (hT : P.underlying T = some (.slice E)) (hi : TI P E z sz b) (hz : z.cells.size = sz) (hs : HS w0 w ((L ++ M) ++ [(bt, Row E news)])) (hbt : w0.heap.size <= bt) (hb : Bo w0 E sz v k xs M) (hx : jaD e x = some v)
  (hy : jaD e y = some (.slice (some ⟨bt, 0, none⟩) m c)) (hl : news.length = m * sz) (h1 : ∀ u ∈ news, u.oneCell' = true)
  (h63 : k + m <= 9223372036854775807) (hbytes : (k + m) * b <= 140737488355328)
  (h : ∀ v' w' M', HS w0 w' (L ++ M') -> Bo w0 E sz v' (k + m) (xs ++ news) M' -> RL P n ops rest Q ((d, v') :: e) w') :
  RL P n ops (Oper.mk (some d) (.call { callee := .builtin .append, args := #[x, y], argTypes := #[T, T] }) t p af none :: rest) Q e w := by
 obtain ⟨v', w', M', hr, h2, h3⟩ := jqR (P := P) (ty := t) hT hi hz hs.swap hb (ad := ⟨bt, 0, none⟩) hl (fun j u hu => hs.cellA (i := (L ++ M).length) (b := bt) (T := E) (cs := news) (by simp) hu) h1 h63 hbytes (c := c)
 exact jaT hd (fun a ha => by simp [execOp, ha.eval hx, ha.eval hy, resolve, invoke, builtin, hr]) (h v' w' M' (h2.swap.dropR (Own.cons hbt Own.nil)) h3)
end
end Go.Lk
namespace Go.Proofs.YtffobakdngbadaaGreat
open Go Go.Lk
def lowF (seen n : Nat) : Nat := popF (seen % 2 ^ n)
theorem shl1 : ∀ n, n < 17 -> IntKind.wrap .u16 (1 * 2 ^ (min ((n : Nat) : Int).toNat (IntKind.bits .u16))) = ((2 ^ n % 65536 : Nat) : Int) := by decide +kernel
theorem sub1 : ∀ n, n < 17 -> IntKind.wrap .u16 (((2 ^ n % 65536 : Nat) : Int) - 1) = ((2 ^ n - 1 : Nat) : Int) := by decide +kernel
theorem pow17 : ∀ n, n < 17 -> 2 ^ n - 1 < 65536 := by decide +kernel
theorem and_low16 (s n : Nat) (hs : s < 65536) (hn : n < 17) : bits .and .u16 (s : Int) ((2 ^ n - 1 : Nat) : Int) = ((s % 2 ^ n : Nat) : Int) := by
 rw [u16_and_nat s _ hs (pow17 n hn), Nat.and_two_pow_sub_one_eq_mod]
theorem lowest_ok (b p s n : Nat) (w0 : World) (hb : w0.cell? ⟨b, 0, none⟩ = some (.pointer (some ⟨p, 0, none⟩))) (hs12 : w0.cell? ⟨p, 12, none⟩ = some (.int .u16 s)) (hs16 : s < 65536) (hn : n < 17) :
  Ret Tryz.prog 71 [.int .i64 n, .pointer (some ⟨b, 0, none⟩)] w0 fun v w' => v = .int .i64 (lowF s n) /\ HS w0 w' [] := by
 refine Ret.start fun w hs => ?_
 have hb' := fun {w : World} (hs : HS w0 w []) => hs.oldcell hb (Own.nil.notin (World.block_lt_of_cell? w0 _ hb))
 have hs' := fun {w : World} (hs : HS w0 w []) => hs.oldcell hs12 (Own.nil.notin (World.block_lt_of_cell? w0 _ hs12))
 refine ja7 Tryz.func71 rfl rfl rfl (Wq (La rfl (Rt (Wsq (jcH [4, 5, 6] [0, 1, 2, 3, 7] [8, 9] (fun _ _ _ => False) Tryz.mixed (by kernel_rfl) (fun _ _ _ _ _ h => h) hs ?_)))))
 refine Pm rfl (Pv rfl (fun w => R_shl rfl rfl (by omega) (shl1 n hn)) ?_)
 refine Pv rfl (fun w => jkS rfl rfl (sub1 n hn)) ?_
 refine jbH (Hv rfl (fun w hs => jaN o_86 rfl (by exact hb' hs)) ?_)
 refine Hv rfl (fun w hs => jcN rfl) ?_
 refine Hf 12 jcC rfl i_49 ?_
 refine Hl o_49 rfl (fun w hs => (by (rw [jaM]; exact hs' hs))) ?_
 refine Hv rfl (fun w hs => jk5 (by simp) rfl rfl (and_low16 s n hs16 hn)) ?_
 refine jb2 ?_
 intro w hs
 have hm : s % 2 ^ n < 65536 := Nat.lt_of_le_of_lt (Nat.mod_le ..) hs16
 refine Lc f_72 rfl (ones_ok _ hm _) ?_
 rintro _ w2 ⟨rfl, h2⟩
 replace hs := hs.nil h2
 refine La rfl (Rt (jaW (ja9 rfl rfl ?_)))
 exact ⟨_, rfl, rfl, hs⟩
def scs (xs : List Stt) : List Value := xs.flatMap Stt.cells
theorem jnF (xs ys : List Stt) : scs (xs ++ ys) = scs xs ++ scs ys := List.flatMap_append ..
theorem jnE (s : Stt) : scs [s] = s.cells := by simp [scs]
theorem jqN (xs : List Stt) : (scs xs).length = xs.length * 5 := by
 induction xs with
 | nil => rfl
 | cons t ts ih =>
  show (t.cells ++ scs ts).length = _
  rw [List.length_append, ih, List.length_cons]
  show 5 + _ = _
  omega
def jeX (xs : List Stt) : List Stt := xs.drop (xs.length - 1024)
theorem capL_le (xs : List Stt) : (jeX xs).length <= 1024 := by unfold jeX; rw [List.length_drop]; omega
theorem jhN (xs : List Stt) (s : Stt) : (jeX (xs ++ [s])).length <= xs.length + 1 := by unfold jeX; rw [List.length_drop, List.length_append]; exact Nat.sub_le _ _
theorem jhM {xs : List Stt} (h : xs.length <= 1024) : jeX xs = xs := by unfold jeX; rw [show xs.length - 1024 = 0 by omega]; rfl
theorem jn5 (s : Stt) : jeX ([] ++ [s]) = [s] := jhM (by show 1 <= 1024; decide)
theorem jn6 {xs : List Stt} {s : Stt} {n : Nat} (h : xs.length = n) (hn : n < 1024) : (jeX (xs ++ [s])).length = n + 1 := by rw [jhM (by rw [List.length_append, h]; exact hn), List.length_append, h]; rfl
theorem capL_len {xs ys : List Stt} (h : ys.length = xs.length) (s t : Stt) : (jeX (ys ++ [t])).length = (jeX (xs ++ [s])).length := by
 unfold jeX; rw [List.length_drop, List.length_drop, List.length_append, List.length_append, h]; rfl
theorem jmV : ∀ (xs : List Stt) (k : Nat), (scs xs).drop (k * 5) = scs (xs.drop k)
 | xs, 0 => by rw [Nat.zero_mul]; rfl
 | [], k + 1 => by simp [scs]
 | x :: xs, k + 1 => by
  show (x.cells ++ scs xs).drop ((k + 1) * 5) = scs (xs.drop k)
  rw [show (k + 1) * 5 = x.cells.length + k * 5 by show _ = 5 + k * 5; omega, List.drop_length_add_append, jmV xs k]
theorem kept_ok (w0 w : World) (v : Value) (M L : Bks) (xs : List Stt) (n : Nat) (s : Stt) (hs : HS w0 w (L ++ M)) (hb : Bo w0 48 5 v n (scs xs) M) (hxl : xs.length = n) (hn : n <= 1024) :
  Ret Tryz.prog 73 [v, .agg s.cells.toArray] w fun r w' => ∃ M', HS w0 w' (L ++ M') /\ Bo w0 48 5 r (jeX (xs ++ [s])).length (scs (jeX (xs ++ [s]))) M' := by
 obtain ⟨a, c, rfl, hc⟩ := hb.slice
 refine ja7 Tryz.func73 rfl rfl rfl (Wq ?_)
 refine jeH rfl hs rfl ?_; intro b3 w hb3 _ hs; replace hs := HS.push hs
 refine La rfl (Rq ?_)
 replace hs : HS w0 w ((b3, Row 48 s.cells) :: (L ++ M)) := hs
 refine Lm rfl (jb7 rfl jfY jbP rfl (by exact jaE (cs := s.cells) (hs.get (i := 0) rfl)) ?_)
 refine jb4 rfl hs jkX jbP rfl (by decide) rfl (by simp [Value.cells, Stt.cells]) ?_
 intro b7 w hb7 hnb7 hs
 have h1 : HS w0 w ((((b3, Row 48 s.cells) :: L) ++ M) ++ [(b7, Row 48 s.cells)]) := by simpa [Value.cells] using hs
 clear hs
 refine jpK (L := (b3, Row 48 s.cells) :: L) (M := M) (news := s.cells) rfl jkX jbP rfl h1 (by assumption) hb rfl rfl rfl (Stt.one _) (by omega) (by omega) ?_
 clear h1
 intro v' w M' hs hb'
 obtain ⟨a', cap, rfl, hcap⟩ := hb'.slice
 obtain ⟨k, hk⟩ : ∃ k, k = n + 1 - 1024 := ⟨_, rfl⟩
 have hk2 : k < n + 1 := by omega
 refine La rfl (Rq (Lmm rfl rfl (Le jkX rfl (Csub rfl (ja3 (by omega)) ?_))))
 refine jaT rfl (R_maxI rfl rfl (show (if (0 : Int) < ((n + 1 : Nat) : Int) - 1024 then ((n + 1 : Nat) : Int) - 1024 else 0) = ((k : Nat) : Int) by rw [hk]; split <;> omega)) ?_
 refine jaT rfl (jgG jkX jbP rfl rfl (show ((k : Nat) : Int) = ((k : Nat) : Int) from rfl) ⟨Nat.le_of_lt hk2, hcap⟩) (La rfl (Rt (jaW (ja9 rfl rfl ?_))))
 refine ⟨_, rfl, M', HS.pop (p := (b3, Row 48 s.cells)) hs hb3, ?_⟩
 have h2 := hb'.cut hk2
 have e : (xs ++ [s]).length = n + 1 := by rw [List.length_append, hxl]; rfl
 have e2 : (jeX (xs ++ [s])).length = n + 1 - k := by unfold jeX; rw [List.length_drop, e, <- hk]
 have e3 : scs (jeX (xs ++ [s])) = (scs xs ++ s.cells).drop (k * 5) := by
  unfold jeX
  rw [e, <- hk, <- jmV, jnF, jnE]
 rw [e2, e3]
 exact h2
end Go.Proofs.YtffobakdngbadaaGreat