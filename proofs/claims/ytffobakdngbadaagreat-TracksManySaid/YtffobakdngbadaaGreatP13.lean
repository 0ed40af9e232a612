/-
  A part of the proof: laws for walks, and plain laws, over any program of the model. Each theorem holds under its own premises alone.
-/
import Derived.Test.YtffobakdngbadaaGreatKit
import Derived.Test.YtffobakdngbadaaGreatP12
namespace Go.Proofs.YtffobakdngbadaaGreat
open Go Go.Lk Go.Pr
theorem tight_ok (y : Ly) (n i j : Nat) (C : Nat -> Nat -> Int) (U V M R : List Int) (N : List (Nat × Obj)) (wb w0 : World) (hN : Own wb N) (hrd : RdS wb y n C) (hs0 : HS wb w0 (y.L U V M R ++ N)) (hi : i < n) (hj : j < n) (hUl : U.length = n) (hVl : V.length = n)
  (hbU : ∀ r, r < n -> 0 <= gi U r /\ gi U r <= BB) (hbV : ∀ j, j < n -> -BB <= gi V j /\ gi V j <= 0) :
  Ret Tryz.prog 98 [.pointer (some ⟨y.B, 0, none⟩), .int .i64 i, .int .i64 j] w0 fun v w' => v = .bool (decide (C i j = gi U i + gi V j)) /\ HS wb w' (y.L U V M R ++ N) := by
 have hs := hs0
 obtain ⟨g1, cp1, hr1, hr2, hr3⟩ := hrd.row i hi
 have b2 : 0 <= U.getD i 0 /\ U.getD i 0 <= 4503599627370496 := hbU i hi
 have b3 : -4503599627370496 <= V.getD j 0 /\ V.getD j 0 <= 0 := hbV j hj
 refine ja7 Tryz.func98 rfl rfl rfl ?_
 by_cases hc : C i j = U.getD i 0 + V.getD j 0
 ·
  refine Wq (La rfl (Rt (Wsq (jcH [0, 1, 2, 4, 7, 10, 11, 12, 14, 17, 18, 19, 21] [3, 5, 6, 8, 9, 13, 15, 16, 20, 22, 23, 24, 25, 26] [] (fun _ _ _ => False) Tryz.mixed (jcQ (by kernel_rfl)) (fun _ _ _ _ _ h => h) hs ?_))))
  refine Pm rfl (Pn rfl (Pfa 1 jbB rfl i_85 (Pm rfl (Pm rfl (Pm rfl (Pn rfl (Pfa 2 jbB rfl jd1 (Pm rfl (Pm rfl (Pn rfl (Pfa 3 jbB rfl jd1 (Pm rfl (jbH (Hv rfl (fun w hs => jaN o_85 rfl (by exact RdS.at hs hN (hrd.bx rfl) hrd.nb)) ?_))))))))))))))
  refine Hx jd4 jd1 rfl (ja6 _) (by omega) rfl ?_
  refine Hl jdR rfl (fun w hs => (by exact RdS.at hs hN hr1 hrd.nc)) ?_
  refine Hx jbK i_2 rfl (ja6 _) (by omega) rfl ?_
  refine Hl o_2 rfl (fun w hs => (by exact RdS.at hs hN (hr3 _ (by omega)) hr2)) ?_
  refine Hl jdR rfl (fun w hs => (by exact RdS.at hs hN (hrd.bx rfl) hrd.nb)) ?_
  refine Hx jbK i_2 rfl (ja6 _) (by omega) rfl ?_
  refine Hl o_2 rfl (fun w hs => (by exact hs.cellA (i := 0) rfl (jbZ (by omega)))) ?_
  refine Hl jdR rfl (fun w hs => (by exact RdS.at hs hN (hrd.bx rfl) hrd.nb)) ?_
  refine Hx jbK i_2 rfl (ja6 _) (by omega) rfl ?_
  refine Hl o_2 rfl (fun w hs => (by exact hs.cellA (i := 1) rfl (jbZ (by omega)))) ?_
  refine Hv rfl (fun w hs => jk6 rfl rfl (ja3 (by omega))) ?_
  refine Hv rfl (fun w hs => R_eql rfl rfl (jaF (by omega))) ?_
  refine Hv rfl (fun w hs => jbS rfl) ?_
  refine jb2 ?_
  intro w hs
  refine Rt (jaW (ja9 rfl rfl ?_))
  exact ⟨_, rfl, by rw [decide_eq_true hc], hs⟩
 refine Wq (La rfl (Rt (Wsq (jcH [0, 1, 2, 4, 7, 10, 11, 12, 14, 17, 18, 19, 21] [3, 5, 6, 8, 9, 13, 15, 16, 20, 22, 23, 24, 25, 26] [] (fun _ _ _ => False) Tryz.mixed (jcQ (by kernel_rfl)) (fun _ _ _ _ _ h => h) hs ?_))))
 refine Pm rfl (Pn rfl (Pfa 1 jbB rfl i_85 (Pm rfl (Pm rfl (Pm rfl (Pn rfl (Pfa 2 jbB rfl jd1 (Pm rfl (Pm rfl (Pn rfl (Pfa 3 jbB rfl jd1 (Pm rfl (jbH (Hv rfl (fun w hs => jaN o_85 rfl (by exact RdS.at hs hN (hrd.bx rfl) hrd.nb)) ?_))))))))))))))
 refine Hx jd4 jd1 rfl (ja6 _) (by omega) rfl ?_
 refine Hl jdR rfl (fun w hs => (by exact RdS.at hs hN hr1 hrd.nc)) ?_
 refine Hx jbK i_2 rfl (ja6 _) (by omega) rfl ?_
 refine Hl o_2 rfl (fun w hs => (by exact RdS.at hs hN (hr3 _ (by omega)) hr2)) ?_
 refine Hl jdR rfl (fun w hs => (by exact RdS.at hs hN (hrd.bx rfl) hrd.nb)) ?_
 refine Hx jbK i_2 rfl (ja6 _) (by omega) rfl ?_
 refine Hl o_2 rfl (fun w hs => (by exact hs.cellA (i := 0) rfl (jbZ (by omega)))) ?_
 refine Hl jdR rfl (fun w hs => (by exact RdS.at hs hN (hrd.bx rfl) hrd.nb)) ?_
 refine Hx jbK i_2 rfl (ja6 _) (by omega) rfl ?_
 refine Hl o_2 rfl (fun w hs => (by exact hs.cellA (i := 1) rfl (jbZ (by omega)))) ?_
 refine Hv rfl (fun w hs => jk6 rfl rfl (ja3 (by omega))) ?_
 refine Hv rfl (fun w hs => R_eql rfl rfl (jaA (by omega))) ?_
 refine Hv rfl (fun w hs => jbS rfl) ?_
 refine jb2 ?_
 intro w hs
 refine Rt (jaW (ja9 rfl rfl ?_))
 exact ⟨_, rfl, by rw [decide_eq_false hc], hs⟩
def Cl (n : Nat) (C : Nat -> Nat -> Int) (U V : Nat -> Int) (of has : Nat -> Nat) (i goal : Nat) (S S' : List Bool) : Prop :=
 ∀ q, q < n -> gbo S' q = true -> gbo S q = false -> ∀ m, m < n -> C q m = U q + V m -> m ≠ has q -> m ≠ goal /\ (gbo S' (of m) = true ∨ of m <= i)
structure Sub (n i : Nat) (S S' : List Bool) : Prop where
 len : S'.length = n
 sub : ∀ q, gbo S q = true -> gbo S' q = true
 low : ∀ q, gbo S' q = true -> i < q
 cnt : S'.count false <= S.count false
theorem Sub.trans {n i : Nat} {S S' S'' : List Bool} (h : Sub n i S S') (h' : Sub n i S' S'') : Sub n i S S'' := ⟨h'.len, fun q hq => h'.sub q (h.sub q hq), h'.low, Nat.le_trans h'.cnt h.cnt⟩
theorem Cl.trans {n : Nat} {C : Nat -> Nat -> Int} {U V : Nat -> Int} {of has : Nat -> Nat} {i goal : Nat} {S S' S'' : List Bool} (h : Cl n C U V of has i goal S S') (h' : Cl n C U V of has i goal S' S'') (hs : Sub n i S' S'') : Cl n C U V of has i goal S S'' := fun q hq h1 h2 m hm ht hne => by
 cases h3 : gbo S' q with
 | true =>
  obtain ⟨h4, h5⟩ := h q hq h3 h2 m hm ht hne
  exact ⟨h4, h5.imp (hs.sub _) id⟩
 | false => exact h' q hq h1 h3 m hm ht hne
theorem Rot.re {n : Nat} {C : Nat -> Nat -> Int} {U V : Nat -> Int} {i : Nat} {of0 has0 of has : Nat -> Nat} {R R' : Nat -> Prop} {pos pos' : Nat -> Nat} {m : Nat} (h : Rot n C U V i of0 has0 R pos of has m) (hk : ∀ k, k < n -> R' k -> pos' k < pos' m -> of k = of0 k) : Rot n C U V i of0 has0 R' pos' of has m :=
 ⟨h.oh, h.ho, h.tight, hk, h.low⟩
theorem Rot.move {n : Nat} {C : Nat -> Nat -> Int} {U V : Nat -> Int} {i : Nat} {of0 has0 of has of' has' : Nat -> Nat} {R : Nat -> Prop} {pos : Nat -> Nat} {m r : Nat} (hP : Pf n C U V of0 has0) (h : Rot n C U V i of0 has0 R pos of has m) (hm : m < n) (hr : r < n) (hir : i < r) (hne : m ≠ has0 r) (hkeep : of (has0 r) = r) (ht : C r m = U r + V m)
  (h1 : of' m = r) (h2 : ∀ c, c ≠ m -> of' c = of c) (h3 : has' r = m) (h4 : ∀ q, q ≠ r -> has' q = has q) : Rot n C U V i of0 has0 (fun _ => False) (fun _ => 0) of' has' (has0 r) := by
 have e0 := (hP.ho r hr).2
 have hR : Rot n C U V i of0 has0 (fun c => c = has0 r) (fun c => if c = has0 r then 0 else 1) of has m := Rot.re h fun k _ hk _ => by rw [hk, hkeep, e0]
 have := hR.step (k := has0 r) (of' := of') (has' := has') hm (hP.ho r hr).1 rfl (by simp [hne]) (by rw [e0]; exact hir) (by rw [e0]; exact ht) (by rw [hkeep]; exact h1) h2 (by rw [hkeep]; exact h3) (by rw [hkeep]; exact h4)
 exact Rot.re this fun _ _ hk => absurd hk (fun h => h)
def AwayR (y : Ly) (n : Nat) (C : Nat -> Nat -> Int) (U V M R : List Int) (gs i : Nat) (S : List Bool) (r : Nat) (wb : World) (v : Value) (w' : World) : Prop :=
 (v = .bool false /\ ∃ S', HS wb w' (y.L U V M R ++ [(gs, Row 4 (bls S'))]) /\ Sub n i S S' /\ (gbo S' r = true ∨ r <= i) /\ Cl n C (gi U) (gi V) (toN R) (toN M) i (toN M i) S S') ∨
 (v = .bool true /\ ∃ S' M' R', HS wb w' (y.L U V M' R' ++ [(gs, Row 4 (bls S'))]) /\ InR n M' /\ InR n R' /\ gbo S r = false /\ Rot n C (gi U) (gi V) i (toN R) (toN M) (fun _ => False) (fun _ => 0) (toN R') (toN M') (toN M r) /\ ∀ c, c < n -> gbo S (toN R c) = true -> toN R' c = toN R c)
theorem jhV {S : List Bool} {r : Nat} (hr : r < S.length) (h : S.getD r false = false) : (S.set r true).count false + 1 = S.count false := by
 have h1 : S[r] = false := by simpa [List.getD, hr] using h
 rw [List.count_set hr, h1]
 have h2 : 0 < S.count false := List.count_pos_iff.2 (h1 ▸ List.getElem_mem hr)
 simp; omega
section
variable {y : Ly} {n i gs : Nat} {C : Nat -> Nat -> Int} {U V M R : List Int} {wb : World}
set_option maxHeartbeats 8000000 in
theorem away_ok (hgs : wb.heap.size <= gs) (hrd : RdS wb y n C) (hn2 : n <= 512) (hi : i < n) (hUl : U.length = n) (hVl : V.length = n) (hM : InR n M) (hR : InR n R)
  (hbU : ∀ r, r < n -> 0 <= gi U r /\ gi U r <= BB) (hbV : ∀ j, j < n -> -BB <= gi V j /\ gi V j <= 0) (hPf : Pf n C (gi U) (gi V) (toN R) (toN M)) (goal : Nat) (hgoal : goal = toN M i) :
  ∀ (f : Nat) (S : List Bool) (r : Nat) (w0 : World), S.count false <= f -> S.length = n -> (∀ q, gbo S q = true -> i < q) -> r < n -> HS wb w0 (y.L U V M R ++ [(gs, Row 4 (bls S))]) ->
  Ret Tryz.prog 99 [.pointer (some ⟨y.B, 0, none⟩), .int .i64 r, .int .i64 goal, .int .i64 i, .slice (some ⟨gs, 0, none⟩) n n] w0 (AwayR y n C U V M R gs i S r wb) := by
 have hO : ∀ {S : List Bool}, Own wb [(gs, Row 4 (bls S))] := Own.cons hgs Own.nil
 have hMl := hM.len
 have hRl := hR.len
 intro f
 induction f with
 | zero =>
  intro S r w0 hcnt hSl hlow hr hs
  have hSr : S.getD r false = true := by
   cases h : S.getD r false with
   | true => rfl
   | false => have := jhV (by omega) h; omega
  have hxr : (bls S)[r]? = some (.bool true) := by rw [<- hSr]; exact jfN (by omega)
  refine ja7 Tryz.func99 rfl rfl rfl (Wq (La rfl (Rqq (Lmm rfl rfl (Li jfC i_4 rfl (ja6 _) (by omega) rfl ?_)))))
  refine Ll o_4 rfl (by exact hs.cellA (i := 4) rfl hxr) ?_
  refine Lm rfl (Rs rfl (Rs rfl (Rs rfl (Lpt rfl (Rt (Wt rfl (Wq (La rfl (Rt (jaW (ja2 (ja9 rfl rfl ?_))))))))))))
  exact ⟨_, rfl, .inl ⟨rfl, S, hs, ⟨hSl, fun _ h => h, hlow, Nat.le_refl _⟩, .inl hSr, fun q _ h1 h2 => by rw [h1] at h2; cases h2⟩⟩
 | succ f IH =>
  intro S r w0 hcnt hSl hlow hr hs
  refine ja7 Tryz.func99 rfl rfl rfl ?_
  cases hSr : S.getD r false
  ·
   have hxr : (bls S)[r]? = some (.bool false) := by rw [<- hSr]; exact jfN (by omega)
   by_cases hri : r <= i
   ·
    refine Wq (La rfl (Rqq (Lmm rfl rfl (Li jfC i_4 rfl (ja6 _) (by omega) rfl ?_))))
    refine Ll o_4 rfl (by exact hs.cellA (i := 4) rfl hxr) ?_
    refine Lm rfl (Gm rfl rfl (Gm rfl rfl (Rw rfl (Cleq rfl (jaF (by omega)) ?_))))
    refine Lpf rfl (Rt (Wt rfl (Wq (La rfl (Rt (jaW (ja2 (ja9 rfl rfl ?_))))))))
    exact ⟨_, rfl, .inl ⟨rfl, S, hs, ⟨hSl, fun _ h => h, hlow, Nat.le_refl _⟩, .inr hri, fun q _ h1 h2 => by rw [h1] at h2; cases h2⟩⟩
   refine Wq (La rfl (Rqq (Lmm rfl rfl (Li jfC i_4 rfl (ja6 _) (by omega) rfl ?_))))
   refine Ll o_4 rfl (by exact hs.cellA (i := 4) rfl hxr) ?_
   refine Lm rfl (Gm rfl rfl (Gm rfl rfl (Rw rfl (Cleq rfl (jaA (by omega)) ?_))))
   refine Lpf rfl (Rt (Wf rfl (Ws (Wq (Lmm rfl rfl (Li jfC i_4 rfl (ja6 _) (by omega) rfl ?_))))))
   refine jaH hs (i := 4) rfl i_4 rfl rfl (by exact jaM _ _) (by simp; omega) rfl ?_
   intro w hs
   dsimp only [sS, sZ, sA, sN] at hs
   refine Rqq (La rfl (Rt (ja4 ?_)))
   rw [bls_set] at hs
   have hc1 := jhV (S := S) (by omega) hSr
   have hg1 : ∀ q, gbo (S.set r true) q = if q = r then true else gbo S q := fun q => jfW (by omega) q
   have hS1 : Sub n i S (S.set r true) := ⟨by simp [hSl], fun q hq => by rw [hg1]; split; rfl; exact hq, fun q hq => by rw [hg1] at hq; split at hq; omega; exact hlow q hq, by omega⟩
   obtain ⟨S1, hS1e⟩ : ∃ S1, S1 = S.set r true := ⟨_, rfl⟩
   rw [<- hS1e] at hs hc1 hg1 hS1
   obtain ⟨hme, hmn⟩ := hM.nat hr
   refine jcT (fun (j : Nat) (S2 : List Bool) (w : World) => [(0, .pointer (some ⟨y.B, 0, none⟩)), (1, .int .i64 r), (2, .int .i64 goal), (3, .int .i64 i), (4, .slice (some ⟨gs, 0, none⟩) n n), (11, .int .i64 j)]) (fun j S2 w => w) (fun j S2 w => (j <= n) /\ (Sub n i S1 S2) /\ (Cl n C (gi U) (gi V) (toN R) (toN M) i (toN M i) S1 S2) /\ (∀ m, m < j -> C r m = gi U r + gi V m -> m ≠ toN M r -> m ≠ toN M i /\ (gbo S2 (toN R m) = true ∨ toN R m <= i)) /\ (HS wb w (y.L U V M R ++ [(gs, Row 4 (bls S2))]))) (fun j S2 w => n - j) (0) (S1) (w) (is := [0, 1, 2, 3, 4, 11]) rfl rfl ?_ ?_
   ·
    exact ⟨Nat.zero_le _, ⟨hS1.len, fun _ h => h, hS1.low, Nat.le_refl _⟩, fun q _ h1 h2 => (by rw [h1] at h2; cases h2), fun _ h => absurd h (Nat.not_lt_zero _), hs⟩
   clear hs
   intro j S2 w hI
   show W _ _ _ _ [(0, .pointer (some ⟨y.B, 0, none⟩)), (1, .int .i64 r), (2, .int .i64 goal), (3, .int .i64 i), (4, .slice (some ⟨gs, 0, none⟩) n n), (11, .int .i64 j)] w
   obtain ⟨hj, hS2, hCl, hrow, hs⟩ := hI
   by_cases hlt : j < n
   ·
    obtain ⟨hRe, hRn⟩ := hR.nat hlt
    refine Wqq (Lmm rfl rfl (Ln rfl (Lf 0 jbB rfl i_3 (Ll o_3 rfl (by exact RdS.at hs hO (hrd.bx rfl) hrd.nb) ?_))))
    refine jaZ rfl (jaF (by omega)) ?_
    refine Rt (Wt rfl (Ws (Wsq (ja4 (Wqq (Lmm rfl rfl (Lm rfl (Lc f_98 rfl (tight_ok y n r j C U V M R _ wb w hO hrd hs hr hlt hUl hVl hbU hbV) ?_))))))))
    rintro _ w1 ⟨rfl, hs⟩
    by_cases htt : C r j = gi U r + gi V j
    ·
     rw [decide_eq_true htt]
     by_cases hjm : j = toN M r
     ·
      refine jcP rfl (Lm rfl (Gm rfl rfl (Gm rfl rfl (Rw rfl (Ln rfl (Rw rfl (Lf 4 jbB rfl jg2 (Rw rfl (Ll jgQ rfl (by exact RdS.at hs hO (hrd.bx rfl) hrd.nb) ?_)))))))))
      refine Gm rfl rfl (Rw rfl (Li jbW i_3 rfl (ja6 _) (by omega) rfl ?_))
      refine Rw rfl (Ll o_3 rfl (by exact hs.cellA (i := 2) rfl (jbZ (by omega))) ?_)
      rw [hme]
      refine Rw rfl (jdS rfl (jaF (by omega)) ?_)
      refine Lpf rfl (Rt (Wt rfl (jaK (ja0 (ja1 (Nt (Wr (Lm rfl (jbG rfl (ja3 (by omega)) ?_)))))))))
      refine La rfl (Rnl (Nq (j + 1, S2, w1) [0, 1, 2, 3, 4, 11] rfl ?_ ?_))
      ·
       dsimp only
       refine ⟨by omega, hS2, hCl, fun m hm ht hne => ?_, hs⟩
       exact hrow m (by omega) ht hne
      omega
     refine jcP rfl (Lm rfl (Gm rfl rfl (Gm rfl rfl (Rw rfl (Ln rfl (Rw rfl (Lf 4 jbB rfl jg2 (Rw rfl (Ll jgQ rfl (by exact RdS.at hs hO (hrd.bx rfl) hrd.nb) ?_)))))))))
     refine Gm rfl rfl (Rw rfl (Li jbW i_3 rfl (ja6 _) (by omega) rfl ?_))
     refine Rw rfl (Ll o_3 rfl (by exact hs.cellA (i := 2) rfl (jbZ (by omega))) ?_)
     rw [hme]
     refine Rw rfl (jdS rfl (jaA (by omega)) ?_)
     refine Lpf rfl (Rt (Wf rfl ?_))
     by_cases hjg : j = goal
     ·
      have hRot := hPf.rot hi (R := fun _ => False) (pos := fun _ => 0)
      rw [<- hgoal, <- hjg] at hRot
      obtain ⟨q1, q2, q3⟩ := hM.set hr hlt
      obtain ⟨o1, o2, o3⟩ := hR.set hlt hr
      have hmv := Rot.move hPf hRot hlt hr (by omega) hjm (hPf.ho r hr).2 htt o2 o3 q2 q3
      refine Ws (Wq (Lmm rfl rfl (jdS rfl (jaF (by omega)) ?_)))
      refine La rfl (Rqq (Lm rfl (jcP rfl (Rt (Wf rfl (Ws (Wq (Lm rfl (Rt (Wt rfl (Wq (Lm rfl (Ln rfl (Lf 4 jbB rfl jg2 (Ll jgQ rfl (by exact RdS.at hs hO (hrd.bx rfl) hrd.nb) ?_)))))))))))))))
      refine Lmm rfl rfl (Li jbW i_3 rfl (ja6 _) (by omega) rfl ?_)
      refine jaH hs (i := 2) rfl i_3 rfl rfl (by exact jaM _ _) (by simp; omega) rfl ?_
      intro w hs
      dsimp only [sS, sZ, sA, sN] at hs
      refine Rq ?_
      rw [jf2 _ _ _ _ (by omega)] at hs
      refine Lm rfl (Ln rfl (Lf 5 jbB rfl jg2 (Ll jgQ rfl (by exact RdS.at hs hO (hrd.bx rfl) hrd.nb) ?_)))
      refine Lmm rfl rfl (Li jbW i_3 rfl (ja6 _) (by omega) rfl ?_)
      refine jaH hs (i := 3) rfl i_3 rfl rfl (by exact jaM _ _) (by simp; omega) rfl ?_
      intro w hs
      dsimp only [sS, sZ, sA, sN] at hs
      refine Rq (La rfl (Rt (jaW (jaG (ja2 (jc0 (jaG (ja2 (ja9 rfl rfl ?_)))))))))
      rw [jf2 _ _ _ _ (by omega)] at hs
      refine ⟨_, rfl, .inr ⟨rfl, S2, M.set r (j : Int), R.set j (r : Int), hs, q1, o1, hSr, hmv, fun c hc hSc => ?_⟩⟩
      refine o3 c fun hcj => ?_
      have h5 : toN R c = i := by rw [hcj, hjg, hgoal]; exact (hPf.ho i hi).2
      rw [h5] at hSc
      exact absurd (hlow i hSc) (Nat.lt_irrefl i)
     refine Ws (Wq (Lmm rfl rfl (jdS rfl (jaA (by omega)) ?_)))
     refine La rfl (Rqq (Lm rfl (jcP rfl (Rt (Wt rfl (Wr (Lmm rfl rfl (Ln rfl (Lf 5 jbB rfl jg2 (Ll jgQ rfl (by exact RdS.at hs hO (hrd.bx rfl) hrd.nb) ?_))))))))))
     refine Lm rfl (Li jbW i_3 rfl (ja6 _) (by omega) rfl ?_)
     refine Ll o_3 rfl (by exact hs.cellA (i := 3) rfl (jbZ (by omega))) ?_
     refine Lmm rfl rfl (Lm rfl ?_)
     rw [hRe]
     refine Lc f_99 rfl (IH S2 (toN R j) w1 (by have := hS2.cnt; omega) hS2.len hS2.low hRn hs) ?_
     rintro _ w2 (⟨rfl, S3, hs, hS3, hS3r, hCl3⟩ | ⟨rfl, S3, M3, R3, hs, hM3, hR3, hn3, hRot3, hk3⟩)
     ·
      refine La rfl (Rq (Lm rfl (Rt (Wf rfl (jaY (jaB (Nt (Wr (Lm rfl (jbG rfl (ja3 (by omega)) ?_))))))))))
      refine La rfl (Rnl (Nq (j + 1, S3, w2) [0, 1, 2, 3, 4, 11] rfl ?_ ?_))
      ·
       dsimp only
       refine ⟨by omega, hS2.trans hS3, hCl.trans hCl3 hS3, fun m hm ht hne => ?_, hs⟩
       by_cases hmj : m = j
       ·
        rw [hmj]; exact ⟨by rw [<- hgoal]; exact hjg, hS3r⟩
       obtain ⟨h5, h6⟩ := hrow m (by omega) ht hne
       exact ⟨h5, h6.imp (hS3.sub _) id⟩
      omega
     have hM3l := hM3.len
     have hR3l := hR3.len
     obtain ⟨q1, q2, q3⟩ := hM3.set hr hlt
     obtain ⟨o1, o2, o3⟩ := hR3.set hlt hr
     have e1 : toN M (toN R j) = j := (hPf.oh j hlt).2
     rw [e1] at hRot3
     have hS2r : gbo S2 r = true := hS2.sub r (by rw [hg1, if_pos rfl])
     have e2 : toN R (toN M r) = r := (hPf.ho r hr).2
     have hmv := Rot.move hPf hRot3 hlt hr (by omega) hjm (by rw [hk3 _ hmn (by rw [e2]; exact hS2r), e2]) htt o2 o3 q2 q3
     refine La rfl (Rq (Lm rfl (Rt (Wt rfl (Wq (Lm rfl (Ln rfl (Lf 4 jbB rfl jg2 (Ll jgQ rfl (by exact RdS.at hs hO (hrd.bx rfl) hrd.nb) ?_)))))))))
     refine Lmm rfl rfl (Li jbW i_3 rfl (ja6 _) (by omega) rfl ?_)
     refine jaH hs (i := 2) rfl i_3 rfl rfl (by exact jaM _ _) (by simp; omega) rfl ?_
     intro w hs
     dsimp only [sS, sZ, sA, sN] at hs
     refine Rq ?_
     rw [jf2 _ _ _ _ (by omega)] at hs
     refine Lm rfl (Ln rfl (Lf 5 jbB rfl jg2 (Ll jgQ rfl (by exact RdS.at hs hO (hrd.bx rfl) hrd.nb) ?_)))
     refine Lmm rfl rfl (Li jbW i_3 rfl (ja6 _) (by omega) rfl ?_)
     refine jaH hs (i := 3) rfl i_3 rfl rfl (by exact jaM _ _) (by simp; omega) rfl ?_
     intro w hs
     dsimp only [sS, sZ, sA, sN] at hs
     refine Rq (La rfl (Rt (jaW (jaG (ja2 (jc0 (jaG (ja2 (ja9 rfl rfl ?_)))))))))
     rw [jf2 _ _ _ _ (by omega)] at hs
     refine ⟨_, rfl, .inr ⟨rfl, S3, M3.set r (j : Int), R3.set j (r : Int), hs, q1, o1, hSr, hmv, fun c hc hSc => ?_⟩⟩
     have hSc2 : gbo S2 (toN R c) = true := hS2.sub _ (by rw [hg1]; split; rfl; exact hSc)
     have hcj : c ≠ j := fun hcj => by rw [hcj, hn3] at hSc2; cases hSc2
     rw [o3 c hcj]
     exact hk3 c hc hSc2
    rw [decide_eq_false htt]
    refine jcP rfl (Lm rfl (Rs rfl (Rs rfl (Rs rfl (Rs rfl (Rs rfl (Rs rfl (Rs rfl (Rs rfl (Rs rfl (Lpt rfl (Rt (Wt rfl (jaK (ja0 (ja1 (Nt (Wr (Lm rfl (jbG rfl (ja3 (by omega)) ?_))))))))))))))))))))
    refine La rfl (Rnl (Nq (j + 1, S2, w1) [0, 1, 2, 3, 4, 11] rfl ?_ ?_))
    ·
     dsimp only
     refine ⟨by omega, hS2, hCl, fun m hm ht hne => ?_, hs⟩
     have hmj : m ≠ j := fun he => htt (he ▸ ht)
     exact hrow m (by omega) ht hne
    omega
   obtain rfl : n = j := by omega
   refine Wqq (Lmm rfl rfl (Ln rfl (Lf 0 jbB rfl i_3 (Ll o_3 rfl (by exact RdS.at hs hO (hrd.bx rfl) hrd.nb) ?_))))
   refine jaZ rfl (jaA (by omega)) ?_
   refine Rt (Wf rfl (jaK (ja0 (ja8 (ja1 (Nt (Wq (La rfl (Rt (jaW (ja9 rfl rfl ?_)))))))))))
   refine ⟨_, rfl, .inl ⟨rfl, S2, hs, hS1.trans hS2, .inl (hS2.sub r (by rw [hg1, if_pos rfl])), fun q hq h1 h2 m hm ht hne => ?_⟩⟩
   by_cases hqr : q = r
   ·
    rw [hqr] at ht hne; exact hrow m hm ht hne
   exact hCl q hq h1 (by rw [hg1, if_neg hqr]; exact h2) m hm ht hne
  have hxr : (bls S)[r]? = some (.bool true) := by rw [<- hSr]; exact jfN (by omega)
  refine Wq (La rfl (Rqq (Lmm rfl rfl (Li jfC i_4 rfl (ja6 _) (by omega) rfl ?_))))
  refine Ll o_4 rfl (by exact hs.cellA (i := 4) rfl hxr) ?_
  refine Lm rfl (Rs rfl (Rs rfl (Rs rfl (Lpt rfl (Rt (Wt rfl (Wq (La rfl (Rt (jaW (ja2 (ja9 rfl rfl ?_))))))))))))
  exact ⟨_, rfl, .inl ⟨rfl, S, hs, ⟨hSl, fun _ h => h, hlow, Nat.le_refl _⟩, .inl hSr, fun q _ h1 h2 => by rw [h1] at h2; cases h2⟩⟩
end
set_option maxHeartbeats 8000000 in
theorem rfirst_ok (y : Ly) (n rows : Nat) (C : Nat -> Nat -> Int) (U V M R : List Int) (w0 : World) (hn2 : n <= 512) (hr : rows <= n) (hrd : RdS w0 y n C) (hG : HS w0 w0 (y.L U V M R)) (hUl : U.length = n) (hVl : V.length = n) (hM : InR n M) (hR : InR n R)
  (hbU : ∀ r, r < n -> 0 <= gi U r /\ gi U r <= BB) (hbV : ∀ j, j < n -> -BB <= gi V j /\ gi V j <= 0) (hPf : Pf n C (gi U) (gi V) (toN R) (toN M)) :
  Ret Tryz.prog 82 [.pointer (some ⟨y.B, 0, none⟩), .int .i64 rows] w0 fun _ w' => ∃ M' R', HS w0 w' (y.L U V M' R') /\ InR n M' /\ InR n R' /\ Pf n C (gi U) (gi V) (toN R') (toN M') /\ LM n C (gi U) (gi V) rows (toN M') := by
 have hs : HS w0 w0 (y.L U V M R ++ []) := by rw [List.append_nil]; exact hG
 clear hG
 refine ja7 Tryz.func82 rfl rfl rfl (Wq (La rfl (Rt (ja4 ?_))))
 refine jcK (fun (i : Nat) (M : List Int) (R : List Int) (w : World) => [(0, .pointer (some ⟨y.B, 0, none⟩)), (1, .int .i64 rows), (4, .int .i64 i)]) (fun i M R w => w) (fun i M R w => (i <= rows) /\ (InR n M) /\ (InR n R) /\ (Pf n C (gi U) (gi V) (toN R) (toN M)) /\ (LM n C (gi U) (gi V) i (toN M)) /\ (HS w0 w (y.L U V M R ++ []))) (fun i M R w => rows - i) (0) (M) (R) (_) (is := [0, 1, 4]) rfl rfl ?_ ?_
 ·
  exact ⟨Nat.zero_le _, hM, hR, hPf, LM.zero, hs⟩
 clear hs hM hR hPf
 intro i M R w hI
 show W _ _ _ _ [(0, .pointer (some ⟨y.B, 0, none⟩)), (1, .int .i64 rows), (4, .int .i64 i)] w
 obtain ⟨hi, hM, hR, hPf, hLM, hs⟩ := hI
 by_cases hlt : i < rows
 ·
  have hin : i < n := by omega
  refine Wqq (Lmm rfl rfl (jaZ rfl (jaF (by omega)) ?_))
  refine Rt (Wt rfl (Ws (Wsq (jpF (fun (M : List Int) (R : List Int) (w : World) => [(0, .pointer (some ⟨y.B, 0, none⟩)), (1, .int .i64 rows), (4, .int .i64 i)]) (fun M R w => w) (fun M R w => (InR n M) /\ (InR n R) /\ (Pf n C (gi U) (gi V) (toN R) (toN M)) /\ (LM n C (gi U) (gi V) (i + 1) (toN M)) /\ (HS w0 w (y.L U V M R ++ []))) ?_ ?_))))
  ·
   refine ja4 (Wq (La rfl (Rt (ja4 ?_))))
   refine jcK (fun (j : Nat) (M : List Int) (R : List Int) (w : World) => [(0, .pointer (some ⟨y.B, 0, none⟩)), (1, .int .i64 rows), (4, .int .i64 i), (5, .int .i64 j)]) (fun j M R w => w) (fun j M R w => (InR n M) /\ (InR n R) /\ (Pf n C (gi U) (gi V) (toN R) (toN M)) /\ (LM n C (gi U) (gi V) i (toN M)) /\ ((j <= toN M i /\ Nb n C (gi U) (gi V) i j (toN M)) ∨ (j = toN M i + 1 /\ Nb n C (gi U) (gi V) i (toN M i) (toN M))) /\ (HS w0 w (y.L U V M R ++ []))) (fun j M R w => n + 1 - j) (0) (M) (R) (w) (is := [0, 1, 4, 5]) rfl rfl ?_ ?_
   ·
    exact ⟨hM, hR, hPf, hLM, .inl ⟨Nat.zero_le _, Nb.zero⟩, hs⟩
   clear hs hM hR hPf hLM
   intro j M R w hI
   show W _ _ _ _ [(0, .pointer (some ⟨y.B, 0, none⟩)), (1, .int .i64 rows), (4, .int .i64 i), (5, .int .i64 j)] w
   obtain ⟨hM, hR, hPf, hLM, hNb, hs⟩ := hI
   have hMl := hM.len
   have hRl := hR.len
   obtain ⟨hMe, hMn⟩ := hM.nat hin
   by_cases hlt2 : j < toN M i
   ·
    obtain ⟨hj0, hNb⟩ : j <= toN M i /\ Nb n C (gi U) (gi V) i j (toN M) := hNb.resolve_right (by omega)
    have hjn : j < n := by omega
    obtain ⟨hRe, hRn⟩ := hR.nat hjn
    refine Wqq (Lmm rfl rfl (Ln rfl (Lf 4 jbB rfl jg2 (Ll jgQ rfl (by exact RdS.at hs Own.nil (hrd.bx rfl) hrd.nb) ?_))))
    refine Lm rfl (Li jbW i_3 rfl (ja6 _) (by omega) rfl ?_)
    refine Ll o_3 rfl (by exact hs.cellA (i := 2) rfl (jbZ (by omega))) ?_
    rw [hMe]
    refine jaZ rfl (jaF (by omega)) ?_
    refine Rt (Wt rfl (Ws (Wsq (ja4 (Wqq (Lmm rfl rfl (Lm rfl (Lc f_98 rfl (tight_ok y n i j C U V M R [] w0 w Own.nil hrd hs hin hjn hUl hVl hbU hbV) ?_))))))))
    rintro _ w1 ⟨rfl, hs⟩
    by_cases htt : C i j = gi U i + gi V j
    ·
     rw [decide_eq_true htt]
     refine jcP rfl (Rt (Wf rfl (Ws (Wq (Lm rfl (Ln rfl (Lf 0 jbB rfl i_3 (Ll o_3 rfl (by exact RdS.at hs Own.nil (hrd.bx rfl) hrd.nb) ?_))))))))
     refine jdM (c := n) rfl hs jfC i_4 rfl rfl rfl rfl (Nat.le_refl _) (by omega) (by omega) rfl ?_
     intro gs w hgs _ hs
     rw [List.append_nil, jrF] at hs
     have hO : ∀ {S : List Bool}, Own w0 [(gs, Row 4 (bls S))] := Own.cons hgs Own.nil
     refine La rfl (Rt (Wsq (jcH [0, 1, 2, 3, 5, 8, 9, 10, 12, 15, 16] [4, 6, 7, 11, 13, 14] [17, 18] (fun _ _ _ => False) Tryz.mixed (jcQ (by kernel_rfl)) (fun _ _ _ _ _ h => h) hs ?_)))
     refine Pm rfl (Pm rfl (Pn rfl (Pfa 5 jbB rfl jg2 (Pm rfl (Pm rfl (Pn rfl (Pfa 4 jbB rfl jg2 (Pm rfl (Pm rfl (Pm rfl (jbH (Hv rfl (fun w hs => jaN jgQ rfl (by exact RdS.at hs hO (hrd.bx rfl) hrd.nb)) ?_))))))))))))
     refine Hx jbW i_3 rfl (ja6 _) (by omega) rfl ?_
     refine Hl o_3 rfl (fun w hs => (by exact hs.cellA (i := 3) rfl (jbZ (by omega)))) ?_
     refine Hl jgQ rfl (fun w hs => (by exact RdS.at hs hO (hrd.bx rfl) hrd.nb)) ?_
     refine Hx jbW i_3 rfl (ja6 _) (by omega) rfl ?_
     refine Hl o_3 rfl (fun w hs => (by exact hs.cellA (i := 2) rfl (jbZ (by omega)))) ?_
     refine jb2 ?_
     intro w hs
     rw [hRe, hMe]
     refine Lc f_99 rfl (away_ok hgs hrd hn2 hin hUl hVl hM hR hbU hbV hPf (toN M i) rfl n (List.replicate n false) (toN R j) w (Nat.le_trans List.count_le_length (by simp)) (by simp) (fun q hq => by simp only [gbo, List.getD, List.getElem?_replicate] at hq; split at hq <;> simp at hq) hRn hs) ?_
     rintro _ w2 (⟨rfl, S', hs, hS', hS'r, hCl⟩ | ⟨rfl, S', M', R', hs, hM', hR', hn', hRot, hk'⟩)
     ·
      have hno : ∀ K, TB n C (gi U) (gi V) K -> (∀ q, q < i -> K q = toN M q) -> K i ≠ j := fun K hK hlow => by
       refine hPf.no_turn hin hjn (fun k => gbo S' (toN R k) = true ∨ toN R k < i) ?_ ?_ ?_ hK hlow
       ·
        rcases hS'r with h5 | h5
        ·
         exact .inl h5
        right
        rcases Nat.lt_or_ge (toN R j) i with h6 | h6
        ·
         exact h6
        have h7 : toN R j = i := by omega
        have := (hPf.oh j hjn).2
        rw [h7] at this; omega
       ·
        rw [(hPf.ho i hin).2]
        rintro (h5 | h5)
        ·
         exact absurd (hS'.low i h5) (Nat.lt_irrefl i)
        omega
       intro k hk hRk hik m hm ht
       have h5 : gbo S' (toN R k) = true := hRk.resolve_right (by omega)
       by_cases hmk : m = toN M (toN R k)
       ·
        rw [hmk, (hPf.oh k hk).2]; exact .inl h5
       obtain ⟨h6, h7⟩ := hCl (toN R k) (hPf.oh k hk).1 h5 (by
        show (List.replicate n false).getD _ false = false
        simp only [List.getD, List.getElem?_replicate]; split <;> rfl) m hm ht hmk
       rcases h7 with h7 | h7
       ·
        exact .inl h7
       right
       rcases Nat.lt_or_ge (toN R m) i with h8 | h8
       ·
        exact h8
       have h9 : toN R m = i := by omega
       exact absurd (by rw [<- h9, (hPf.oh m hm).2]) h6
      refine La rfl (Rq (Lm rfl (Rt (Wf rfl (jaY (jaB (Nt (Wr (Lm rfl (jbG rfl (ja3 (by omega)) ?_))))))))))
      refine La rfl (Rnl (Nq (j + 1, M, R, w2) [0, 1, 4, 5] rfl ?_ ?_))
      ·
       dsimp only
       exact ⟨hM, hR, hPf, hLM, .inl ⟨by omega, hNb.next hno⟩, by rw [List.append_nil]; exact hs.dropR hO⟩
      omega
     have hMl' := hM'.len
     have hRl' := hR'.len
     rw [(hPf.oh j hjn).2] at hRot
     obtain ⟨q1, q2, q3⟩ := hM'.set hin hjn
     obtain ⟨o1, o2, o3⟩ := hR'.set hjn hin
     have hfin := hRot.fin hPf.feas hin hjn htt o2 o3 q2 q3
     have hlow : ∀ q, q < i -> toN (M'.set i (j : Int)) q = toN M q := fun q hq => by rw [q3 q (by omega)]; exact hRot.low q hq
     refine La rfl (Rq (Lm rfl (Rt (Wt rfl (Wq (Lm rfl (Ln rfl (Lf 4 jbB rfl jg2 (Ll jgQ rfl (by exact RdS.at hs hO (hrd.bx rfl) hrd.nb) ?_)))))))))
     refine Lmm rfl rfl (Li jbW i_3 rfl (ja6 _) (by omega) rfl ?_)
     refine jaH hs (i := 2) rfl i_3 rfl rfl (by exact jaM _ _) (by simp; omega) rfl ?_
     intro w hs
     dsimp only [sS, sZ, sA, sN] at hs
     refine Rr ?_
     rw [jf2 _ _ _ _ (by omega)] at hs
     refine Lm rfl (Ln rfl (Lf 5 jbB rfl jg2 (Ll jgQ rfl (by exact RdS.at hs hO (hrd.bx rfl) hrd.nb) ?_)))
     refine Lmm rfl rfl (Li jbW i_3 rfl (ja6 _) (by omega) rfl ?_)
     refine jaH hs (i := 3) rfl i_3 rfl rfl (by exact jaM _ _) (by simp; omega) rfl ?_
     intro w hs
     dsimp only [sS, sZ, sA, sN] at hs
     refine Rnl (jaB (Nt (Wr (Lm rfl (jbG rfl (ja3 (by omega)) ?_)))))
     refine La rfl (Rnl ?_)
     rw [jf2 _ _ _ _ (by omega)] at hs
     refine Nq (j + 1, M'.set i (j : Int), R'.set j (i : Int), w) [0, 1, 4, 5] rfl ?_ ?_
     ·
      dsimp only
      exact ⟨q1, o1, hfin, hLM.congr hlow, .inr ⟨by rw [q2], by rw [q2]; exact hNb.congr hlow⟩, by rw [List.append_nil]; exact hs.dropR hO⟩
     omega
    rw [decide_eq_false htt]
    refine jcP rfl (Rt (Wt rfl (jaK (ja0 (ja1 (Nt (Wr (Lm rfl (jbG rfl (ja3 (by omega)) ?_)))))))))
    refine La rfl (Rnl (Nq (j + 1, M, R, w1) [0, 1, 4, 5] rfl ?_ ?_))
    ·
     dsimp only
     exact ⟨hM, hR, hPf, hLM, .inl ⟨by omega, hNb.next (fun K hK _ he => htt (by have := hK.2 i hin; rw [he] at this; exact this))⟩, hs⟩
    omega
   have hNb' : Nb n C (gi U) (gi V) i (toN M i) (toN M) := by
    rcases hNb with ⟨h5, h6⟩ | ⟨_, h6⟩
    ·
     rw [show j = toN M i by omega] at h6; exact h6
    exact h6
   refine Wqq (Lmm rfl rfl (Ln rfl (Lf 4 jbB rfl jg2 (Ll jgQ rfl (by exact RdS.at hs Own.nil (hrd.bx rfl) hrd.nb) ?_))))
   refine Lm rfl (Li jbW i_3 rfl (ja6 _) (by omega) rfl ?_)
   refine Ll o_3 rfl (by exact hs.cellA (i := 2) rfl (jbZ (by omega))) ?_
   rw [hMe]
   refine jaZ rfl (jaA (by omega)) ?_
   refine Rt (Wf rfl (jaK (ja0 (ja8 (ja1 (jaB (jbD (M, R, w) (is := [0, 1, 4]) (I' := (fun (M : List Int) (R : List Int) (w : World) => (InR n M) /\ (InR n R) /\ (Pf n C (gi U) (gi V) (toN R) (toN M)) /\ (LM n C (gi U) (gi V) (i + 1) (toN M)) /\ (HS w0 w (y.L U V M R ++ []))) (M) (R) (w)) rfl rfl rfl ?_)))))))
   exact ⟨hM, hR, hPf, hLM.next hNb', hs⟩
  clear hs hM hR hPf hLM
  intro M R w hI
  show W _ _ _ _ [(0, .pointer (some ⟨y.B, 0, none⟩)), (1, .int .i64 rows), (4, .int .i64 i)] w
  obtain ⟨hM, hR, hPf, hLM, hs⟩ := hI
  refine Wr (Lm rfl (jbG rfl (ja3 (by omega)) ?_))
  refine La rfl (Rnl (Nq (i + 1, M, R, w) [0, 1, 4] rfl ?_ ?_))
  ·
   dsimp only
   exact ⟨by omega, hM, hR, hPf, hLM, hs⟩
  omega
 obtain rfl : rows = i := by omega
 refine Wqq (Lmm rfl rfl (jaZ rfl (jaA (by omega)) ?_))
 refine Rt (Wf rfl (jaK (ja0 (ja8 (ja1 (jg0 rfl ?_))))))
 exact ⟨_, rfl, M, R, by rw [List.append_nil] at hs; exact hs, hM, hR, hPf, hLM⟩
theorem jk1 {α : Type} {l m : List α} (h : ∀ c : α -> Nat, (l.map c).sum = (m.map c).sum) : l.Perm m := by
 haveI : DecidableEq α := fun a b => Classical.propDecidable (a = b)
 refine List.perm_iff_count.2 fun a => ?_
 have e : ∀ l : List α, l.count a = (l.map fun x => if x = a then 1 else 0).sum := fun l => by
  induction l with
  | nil => rfl
  | cons x l ih => rw [List.count_cons, ih, List.map_cons, List.sum_cons, Nat.add_comm]; simp
 rw [e, e]
 exact h _
theorem jnV {A B : List (Nat × Obj)} (h : ((A ++ B).map (·.1)).Nodup) {b : Nat} {o : Obj} (hb : (b, o) ∈ B) : b ∉ A.map (·.1) := fun hm => by
 rw [List.map_append, List.nodup_append] at h
 exact h.2.2 b hm b (List.mem_map.2 ⟨_, hb, rfl⟩) rfl
def sqC (rows : List (List Int)) (r j : Nat) : Int := if r < rows.length then el rows r j else 0
theorem jmW {n : Nat} {x : Int} : il (List.replicate n x) ++ [.int .i64 x] = il (List.replicate (n + 1) x) := by rw [jeD, <- List.replicate_succ']
structure SqSt where
 vC : Value
 vU : Value
 vV : Value
 vM : Value
 vR : Value
 vs : List Value
 rs : List (List Int)
 Mo : List (Nat × Obj)
 Ms : List (Nat × Obj)
 MU : List (Nat × Obj)
 MV : List (Nat × Obj)
 MM : List (Nat × Obj)
 MR : List (Nat × Obj)
set_option maxHeartbeats 16000000 in
theorem square_ok (a : Option Addr) (k cp n : Nat) (rows : List (List Int)) (rvs : List Value) (w0 : World) (hr : RowsI w0 a rows rvs) (hk : rows.length = k) (h1 : 1 <= n) (hn2 : n <= 512) (hw : ∀ i, i < k -> (rows.getD i []).length = n)
  (hC : ∀ r j, r < n -> j < n -> 0 <= sqC rows r j /\ sqC rows r j <= 4503599627370496) :
  Ret Tryz.prog 81 [.slice a k cp, .int .i64 n] w0 fun v w' => ∃ (y : Ly) (U V M R : List Int), v = .pointer (some ⟨y.B, 0, none⟩) /\ HS w0 w' (y.L U V M R) /\ Own w0 (y.L U V M R) /\ RdS w' y n (sqC rows) /\ U.length = n /\ V.length = n /\ M.length = n /\ R.length = n /\ Sq n (sqC rows) n (gi R) (gi U) (gi V) /\ SqM n n (gi R) (gi M) /\ (∀ r, r < n -> 0 <= gi U r /\ gi U r <= BB) /\ ∀ j, j < n -> -BB <= gi V j /\ gi V j <= 0 := by
 refine Ret.start fun w hs => ?_
 have hrl := hr.len
 refine ja7 Tryz.func81 rfl rfl rfl (Wq (La rfl (Rq (Lm rfl (jbE rfl rfl (Pl.built Tryz.pl134 rfl) (jeH rfl hs rfl ?_))))))
 intro b12 w hb12 hnb12 hs
 dsimp only [sS, sZ, sA, sN] at hs
 refine La rfl (Rqq (La rfl (Rt (ja4 ?_))))
 have hOB : ∀ {o : Obj} {L : List (Nat × Obj)}, Own w0 L -> Own w0 ((b12, o) :: L) := fun h => Own.cons hb12 h
 replace hs : HS w0 w [(b12, Row 134 [.int .i64 n, .slice none 0 0, .slice none 0 0, .slice none 0 0, .slice none 0 0, .slice none 0 0])] := hs
 have hlen6 : ∀ i, i < k -> (rows.getD i []).length <= 1000000 := fun i hi => by rw [hw i hi]; omega
 refine jcT (fun (i : Nat) (s : SqSt) (w : World) => [(0, .slice a k cp), (1, .int .i64 n), (5, .pointer (some ⟨b12, 0, none⟩)), (6, .int .i64 i)]) (fun i s w => w) (fun i s w => (i <= n) /\ (HS w0 w ((b12, Row 134 [.int .i64 n, s.vC, s.vU, s.vV, s.vM, s.vR]) :: (s.Mo ++ (s.Ms ++ (s.MU ++ (s.MV ++ (s.MM ++ s.MR))))))) /\ (Bl w0 88 1 s.vC i s.vs s.Mo) /\ (RB (npB w0) s.vs s.rs s.Ms) /\ (s.rs.length = i) /\ (∀ r, r < i -> (s.rs.getD r []).length = n /\ ∀ j, j < n -> el s.rs r j = sqC rows r j) /\ (Bl w0 2 1 s.vU i (il (List.replicate i 0)) s.MU) /\ (Bl w0 2 1 s.vV i (il (List.replicate i 0)) s.MV) /\ (Bl w0 3 1 s.vM i (il (List.replicate i (-1))) s.MM) /\ (Bl w0 3 1 s.vR i (il (List.replicate i (-1))) s.MR)) (fun i s w => n - i) (0) (⟨.slice none 0 0, .slice none 0 0, .slice none 0 0, .slice none 0 0, .slice none 0 0, [], [], [], [], [], [], [], []⟩) (w) (is := [0, 1, 5, 6]) rfl rfl ?_ ?_
 ·
  exact ⟨Nat.zero_le _, hs, Bl.nil, .nil, rfl, fun _ h => absurd h (Nat.not_lt_zero _), Bl.nil, Bl.nil, Bl.nil, Bl.nil⟩
 clear hs
 intro i s w hI
 show W _ _ _ _ [(0, .slice a k cp), (1, .int .i64 n), (5, .pointer (some ⟨b12, 0, none⟩)), (6, .int .i64 i)] w
 obtain ⟨hi, hs, hbC, hrb, hrl2, hrs, hbU, hbV, hbM, hbR⟩ := hI
 have hOall : Own w0 ((b12, Row 134 [.int .i64 n, s.vC, s.vU, s.vV, s.vM, s.vR]) :: (s.Mo ++ (s.Ms ++ (s.MU ++ (s.MV ++ (s.MM ++ s.MR)))))) := hOB (hbC.own.app (hrb.own.app (hbU.own.app (hbV.own.app (hbM.own.app hbR.own)))))
 by_cases hlt : i < n
 ·
  refine Wqq (Lmm rfl rfl (jaZ rfl (jaF (by omega)) ?_))
  refine Rt (Wt rfl (Ws (Wsq (ja4 (Wq (Lm rfl (jdM (c := n) rfl hs jbK i_2 rfl rfl rfl rfl (Nat.le_refl _) (by omega) (by omega) rfl ?_)))))))
  intro g w hg _ hs
  rw [jgV] at hs
  replace hs : HS w0 w ((g, Row 2 (il (List.replicate n 0))) :: ((b12, Row 134 [.int .i64 n, s.vC, s.vU, s.vV, s.vM, s.vR]) :: (s.Mo ++ (s.Ms ++ (s.MU ++ (s.MV ++ (s.MM ++ s.MR))))))) := hs.mem_perm (List.perm_append_comm (l₂ := [_]))
  have hOg : ∀ {o : Obj}, Own w0 ((g, o) :: ((b12, Row 134 [.int .i64 n, s.vC, s.vU, s.vV, s.vM, s.vR]) :: (s.Mo ++ (s.Ms ++ (s.MU ++ (s.MV ++ (s.MM ++ s.MR))))))) := Own.cons hg hOall
  refine La rfl (Rqq (La rfl (Rt (jmM (fun (T : List Int) (w : World) => [(0, .slice a k cp), (1, .int .i64 n), (5, .pointer (some ⟨b12, 0, none⟩)), (6, .int .i64 i), (7, .slice (some ⟨g, 0, none⟩) n n)]) (fun T w => w) (fun T w => (T.length = n) /\ (∀ j, j < n -> gi T j = sqC rows i j) /\ (HS w0 w ((g, Row 2 (il T)) :: ((b12, Row 134 [.int .i64 n, s.vC, s.vU, s.vV, s.vM, s.vR]) :: (s.Mo ++ (s.Ms ++ (s.MU ++ (s.MV ++ (s.MM ++ s.MR))))))))) ?_ ?_))))
  ·
   by_cases hik : i < k
   ·
    obtain ⟨ai, ci, g1, g2, g3, g4⟩ := hr.row i (by omega)
    rw [hw i hik] at g1 g2 g3
    have hwi := hw i hik
    refine ja4 (jcT (fun (j : Nat) (T : List Int) (w : World) => [(0, .slice a k cp), (1, .int .i64 n), (5, .pointer (some ⟨b12, 0, none⟩)), (6, .int .i64 i), (7, .slice (some ⟨g, 0, none⟩) n n), (8, .int .i64 j)]) (fun j T w => w) (fun j T w => (j <= n) /\ (T.length = n) /\ (∀ z, z < j -> gi T z = sqC rows i z) /\ (HS w0 w ((g, Row 2 (il T)) :: ((b12, Row 134 [.int .i64 n, s.vC, s.vU, s.vV, s.vM, s.vR]) :: (s.Mo ++ (s.Ms ++ (s.MU ++ (s.MV ++ (s.MM ++ s.MR))))))))) (fun j T w => n - j) (0) (List.replicate n 0) (w) (is := [0, 1, 5, 6, 7, 8]) rfl rfl ?_ ?_)
    ·
     exact ⟨Nat.zero_le _, by simp, fun _ h => absurd h (Nat.not_lt_zero _), hs⟩
    clear hs
    intro j T w hI
    show W _ _ _ _ [(0, .slice a k cp), (1, .int .i64 n), (5, .pointer (some ⟨b12, 0, none⟩)), (6, .int .i64 i), (7, .slice (some ⟨g, 0, none⟩) n n), (8, .int .i64 j)] w
    obtain ⟨hj, hTl, hT, hs⟩ := hI
    by_cases hlt2 : j < n
    ·
     refine Wqq (Lmm rfl rfl (jaZ rfl (jaF (by omega)) ?_))
     refine Lm rfl (Gm rfl rfl (Gm rfl rfl (Rw rfl (Le jd4 rfl (Rw rfl (jaZ rfl (jaF (by omega)) ?_))))))
     refine Lpt rfl (Rt (Wt rfl (Ws (Wsq (ja4 (Wr (Lmm rfl rfl (Lmm rfl rfl (Li jd4 jd1 rfl (ja6 _) (by omega) (hr.sl.ao (by omega)) ?_)))))))))
     refine Ll jdR rfl (by exact (hr.sl.old hs hOg).get g1) ?_
     refine Lm rfl ?_
     refine Li jbK i_2 rfl (ja6 _) (by omega) (g4.ao (by rw [il_length]; omega)) ?_
     refine Ll o_2 rfl (by exact (g4.old hs hOg).get (jaV (by omega))) ?_
     refine Li jbK i_2 rfl (ja6 _) (by omega) rfl ?_
     refine jaH hs (i := 0) rfl i_2 rfl rfl (by exact jaM _ _) (by simp; omega) rfl ?_
     intro w hs
     dsimp only [sS, sZ, sA, sN] at hs
     refine Rnl (jaB (Nt (Wr (Lm rfl (jbG rfl (ja3 (by omega)) ?_)))))
     refine La rfl (Rnl ?_)
     rw [jc3] at hs
     refine Nq (j + 1, T.set j ((rows.getD i []).getD j 0), w) [0, 1, 5, 6, 7, 8] rfl ?_ ?_
     ·
      dsimp only
      refine ⟨by omega, by simp [hTl], fun z hz => ?_, hs⟩
      show (T.set j _).getD z 0 = _
      rw [jfW (by omega)]
      by_cases hzj : z = j
      ·
       rw [if_pos hzj, hzj]; unfold sqC; rw [if_pos (by omega)]
      rw [if_neg hzj]; exact hT z (by omega)
     omega
    obtain rfl : n = j := by omega
    refine Wqq (Lmm rfl rfl (jaZ rfl (jaA (by omega)) ?_))
    refine Lm rfl (Rs rfl (Rs rfl (Rs rfl (Rs rfl (Lpf rfl (Rt (Wf rfl (jaK (ja0 (ja8 (ja1 (jbD (T, w) (is := [0, 1, 5, 6, 7]) (I' := (fun (T : List Int) (w : World) => (T.length = n) /\ (∀ j, j < n -> gi T j = sqC rows i j) /\ (HS w0 w ((g, Row 2 (il T)) :: ((b12, Row 134 [.int .i64 n, s.vC, s.vU, s.vV, s.vM, s.vR]) :: (s.Mo ++ (s.Ms ++ (s.MU ++ (s.MV ++ (s.MM ++ s.MR))))))))) (T) (w)) rfl rfl rfl ?_))))))))))))
    exact ⟨hTl, hT, hs⟩
   refine ja4 (W_loop1 (fun (w : World) => [(0, .slice a k cp), (1, .int .i64 n), (5, .pointer (some ⟨b12, 0, none⟩)), (6, .int .i64 i), (7, .slice (some ⟨g, 0, none⟩) n n), (8, .int .i64 0)]) (fun w => w) (fun w => (HS w0 w ((g, Row 2 (il (List.replicate n 0))) :: ((b12, Row 134 [.int .i64 n, s.vC, s.vU, s.vV, s.vM, s.vR]) :: (s.Mo ++ (s.Ms ++ (s.MU ++ (s.MV ++ (s.MM ++ s.MR))))))))) (fun w => 0) (w) (is := [0, 1, 5, 6, 7, 8]) rfl rfl ?_ ?_)
   ·
    exact hs
   clear hs
   intro w hI
   show W _ _ _ _ [(0, .slice a k cp), (1, .int .i64 n), (5, .pointer (some ⟨b12, 0, none⟩)), (6, .int .i64 i), (7, .slice (some ⟨g, 0, none⟩) n n), (8, .int .i64 0)] w
   have hs := hI
   refine Wqq (Lmm rfl rfl (jaZ rfl (jaF (by omega)) ?_))
   refine Lm rfl (Gm rfl rfl (Gm rfl rfl (Rw rfl (Le jd4 rfl (Rw rfl (jaZ rfl (jaA (by omega)) ?_))))))
   refine Lpt rfl (Rt (Wf rfl (jaK (ja0 (ja8 (ja1 (jbD (List.replicate n 0, w) (is := [0, 1, 5, 6, 7]) (I' := (fun (T : List Int) (w : World) => (T.length = n) /\ (∀ j, j < n -> gi T j = sqC rows i j) /\ (HS w0 w ((g, Row 2 (il T)) :: ((b12, Row 134 [.int .i64 n, s.vC, s.vU, s.vV, s.vM, s.vR]) :: (s.Mo ++ (s.Ms ++ (s.MU ++ (s.MV ++ (s.MM ++ s.MR))))))))) (List.replicate n 0) (w)) rfl rfl rfl ?_)))))))
   exact ⟨by simp, fun j _ => by rw [jpR]; unfold sqC; rw [if_neg (by omega)], hs⟩
  clear hs
  intro T w hI
  show W _ _ _ _ [(0, .slice a k cp), (1, .int .i64 n), (5, .pointer (some ⟨b12, 0, none⟩)), (6, .int .i64 i), (7, .slice (some ⟨g, 0, none⟩) n n)] w
  obtain ⟨hTl, hT, hs⟩ := hI
  obtain ⟨vC, vU, vV, vM, vR, vs, rs, Mo, Ms, MU, MV, MM, MR⟩ := s
  dsimp only at hs hbC hrb hrl2 hrs hbU hbV hbM hbR
  clear hOall hOg
  -- the rows
  replace hs : HS w0 w (((b12, Row 134 [.int .i64 n, vC, vU, vV, vM, vR]) :: (Ms ++ (MU ++ (MV ++ (MM ++ (MR ++ [(g, Row 2 (il T))])))))) ++ Mo) := hs.mem_perm (jk1 fun c => by simp only [List.map_append, List.map_cons, List.map_nil, List.sum_append, List.sum_cons, List.sum_nil] <;> omega)
  refine Wq (Lmm rfl rfl (Ln rfl (Lf 1 jbB rfl i_85 (Ll o_85 rfl (by exact hs.cellA (i := 0) rfl rfl) ?_))))
  refine Lm rfl (jb0 rfl hs jd4 jd1 rfl (by decide) rfl rfl ?_)
  intro b47 w hb47 hnb47 hs
  simp only [List.map_cons, List.map_nil] at hs
  dsimp only [sS, sZ, sA, sN] at hs
  refine jb8 (L := (b12, Row 134 [.int .i64 n, vC, vU, vV, vM, vR]) :: (Ms ++ (MU ++ (MV ++ (MM ++ (MR ++ [(g, Row 2 (il T))])))))) (M := Mo) rfl jd4 jd1 rfl hs (by assumption) hbC rfl rfl rfl (by simp [Value.oneCell']) (by omega) (by omega) ?_
  intro vC' w Mo' hs hbC'
  obtain ⟨aC', cC', hvC', _⟩ := hbC'.slice
  subst hvC'
  refine Ln rfl (Lf 1 jbB rfl i_85 (jaH hs (i := 0) rfl i_85 rfl rfl (by rfl) (by simp) rfl ?_))
  intro w hs
  dsimp only [sS, sZ, sA, sN] at hs
  refine Rq ?_
  -- prices
  replace hs : HS w0 w (((b12, Row 134 [.int .i64 n, .slice aC' (i + 1) cC', vU, vV, vM, vR]) :: (Mo' ++ (Ms ++ (MV ++ (MM ++ (MR ++ [(g, Row 2 (il T))])))))) ++ MU) := hs.mem_perm (jk1 fun c => by simp only [List.map_append, List.map_cons, List.map_nil, List.sum_append, List.sum_cons, List.sum_nil] <;> omega)
  refine Lmm rfl rfl (Ln rfl (Lf 2 jbB rfl jd1 (Ll jdR rfl (by exact hs.cellA (i := 0) rfl rfl) ?_)))
  refine jb0 rfl hs jbK i_2 rfl (by decide) rfl rfl ?_
  intro b56 w hb56 hnb56 hs
  simp only [List.map_cons, List.map_nil] at hs
  dsimp only [sS, sZ, sA, sN] at hs
  refine jb8 (L := (b12, Row 134 [.int .i64 n, .slice aC' (i + 1) cC', vU, vV, vM, vR]) :: (Mo' ++ (Ms ++ (MV ++ (MM ++ (MR ++ [(g, Row 2 (il T))])))))) (M := MU) rfl jbK i_2 rfl hs (by assumption) hbU rfl rfl rfl (by simp [Value.oneCell']) (by omega) (by omega) ?_
  intro vU' w MU' hs hbU'
  rw [jmW] at hbU'
  obtain ⟨aU', cU', hvU', _⟩ := hbU'.slice
  subst hvU'
  refine Ln rfl (Lf 2 jbB rfl jd1 (jaH hs (i := 0) rfl jd1 rfl rfl (by rfl) (by simp) rfl ?_))
  intro w hs
  dsimp only [sS, sZ, sA, sN] at hs
  refine Rq ?_
  replace hs : HS w0 w (((b12, Row 134 [.int .i64 n, .slice aC' (i + 1) cC', .slice aU' (i + 1) cU', vV, vM, vR]) :: (Mo' ++ (Ms ++ (MU' ++ (MM ++ (MR ++ [(g, Row 2 (il T))])))))) ++ MV) := hs.mem_perm (jk1 fun c => by simp only [List.map_append, List.map_cons, List.map_nil, List.sum_append, List.sum_cons, List.sum_nil] <;> omega)
  refine Lmm rfl rfl (Ln rfl (Lf 3 jbB rfl jd1 (Ll jdR rfl (by exact hs.cellA (i := 0) rfl rfl) ?_)))
  refine jb0 rfl hs jbK i_2 rfl (by decide) rfl rfl ?_
  intro b65 w hb65 hnb65 hs
  simp only [List.map_cons, List.map_nil] at hs
  dsimp only [sS, sZ, sA, sN] at hs
  refine jb8 (L := (b12, Row 134 [.int .i64 n, .slice aC' (i + 1) cC', .slice aU' (i + 1) cU', vV, vM, vR]) :: (Mo' ++ (Ms ++ (MU' ++ (MM ++ (MR ++ [(g, Row 2 (il T))])))))) (M := MV) rfl jbK i_2 rfl hs (by assumption) hbV rfl rfl rfl (by simp [Value.oneCell']) (by omega) (by omega) ?_
  intro vV' w MV' hs hbV'
  rw [jmW] at hbV'
  obtain ⟨aV', cV', hvV', _⟩ := hbV'.slice
  subst hvV'
  refine Ln rfl (Lf 3 jbB rfl jd1 (jaH hs (i := 0) rfl jd1 rfl rfl (by rfl) (by simp) rfl ?_))
  intro w hs
  dsimp only [sS, sZ, sA, sN] at hs
  refine Rq ?_
  replace hs : HS w0 w (((b12, Row 134 [.int .i64 n, .slice aC' (i + 1) cC', .slice aU' (i + 1) cU', .slice aV' (i + 1) cV', vM, vR]) :: (Mo' ++ (Ms ++ (MU' ++ (MV' ++ (MR ++ [(g, Row 2 (il T))])))))) ++ MM) := hs.mem_perm (jk1 fun c => by simp only [List.map_append, List.map_cons, List.map_nil, List.sum_append, List.sum_cons, List.sum_nil] <;> omega)
  refine Lmm rfl rfl (Ln rfl (Lf 4 jbB rfl jg2 (Ll jgQ rfl (by exact hs.cellA (i := 0) rfl rfl) ?_)))
  refine jb0 rfl hs jbW i_3 rfl (by decide) rfl rfl ?_
  intro b74 w hb74 hnb74 hs
  simp only [List.map_cons, List.map_nil] at hs
  dsimp only [sS, sZ, sA, sN] at hs
  refine jb8 (L := (b12, Row 134 [.int .i64 n, .slice aC' (i + 1) cC', .slice aU' (i + 1) cU', .slice aV' (i + 1) cV', vM, vR]) :: (Mo' ++ (Ms ++ (MU' ++ (MV' ++ (MR ++ [(g, Row 2 (il T))])))))) (M := MM) rfl jbW i_3 rfl hs (by assumption) hbM rfl rfl rfl (by simp [Value.oneCell']) (by omega) (by omega) ?_
  intro vM' w MM' hs hbM'
  rw [jmW] at hbM'
  obtain ⟨aM', cM', hvM', _⟩ := hbM'.slice
  subst hvM'
  refine Ln rfl (Lf 4 jbB rfl jg2 (jaH hs (i := 0) rfl jg2 rfl rfl (by rfl) (by simp) rfl ?_))
  intro w hs
  dsimp only [sS, sZ, sA, sN] at hs
  refine Rr ?_
  replace hs : HS w0 w (((b12, Row 134 [.int .i64 n, .slice aC' (i + 1) cC', .slice aU' (i + 1) cU', .slice aV' (i + 1) cV', .slice aM' (i + 1) cM', vR]) :: (Mo' ++ (Ms ++ (MU' ++ (MV' ++ (MM' ++ [(g, Row 2 (il T))])))))) ++ MR) := hs.mem_perm (jk1 fun c => by simp only [List.map_append, List.map_cons, List.map_nil, List.sum_append, List.sum_cons, List.sum_nil] <;> omega)
  refine Lmm rfl rfl (Ln rfl (Lf 5 jbB rfl jg2 (Ll jgQ rfl (by exact hs.cellA (i := 0) rfl rfl) ?_)))
  refine jb0 rfl hs jbW i_3 rfl (by decide) rfl rfl ?_
  intro b83 w hb83 hnb83 hs
  simp only [List.map_cons, List.map_nil] at hs
  dsimp only [sS, sZ, sA, sN] at hs
  refine jb8 (L := (b12, Row 134 [.int .i64 n, .slice aC' (i + 1) cC', .slice aU' (i + 1) cU', .slice aV' (i + 1) cV', .slice aM' (i + 1) cM', vR]) :: (Mo' ++ (Ms ++ (MU' ++ (MV' ++ (MM' ++ [(g, Row 2 (il T))])))))) (M := MR) rfl jbW i_3 rfl hs (by assumption) hbR rfl rfl rfl (by simp [Value.oneCell']) (by omega) (by omega) ?_
  intro vR' w MR' hs hbR'
  rw [jmW] at hbR'
  obtain ⟨aR', cR', hvR', _⟩ := hbR'.slice
  subst hvR'
  refine Ln rfl (Lf 5 jbB rfl jg2 (jaH hs (i := 0) rfl jg2 rfl rfl (by rfl) (by simp) rfl ?_))
  intro w hs
  dsimp only [sS, sZ, sA, sN] at hs
  refine Rnl (jaB (Nt (Wr (Lm rfl (jbG rfl (ja3 (by omega)) ?_)))))
  refine La rfl (Rnl ?_)
  have hrow : npB w0 (.slice (some ⟨g, 0, none⟩) n n) T [(g, Row 2 (il T))] := by
   show Bl _ _ _ _ _ _ _
   have := Bl.row (w0 := w0) (E := 2) (sz := 1) (n := n) (cap := n) (xs := il T) (sp := []) hg (by simp [hTl]) (by simp [hTl]) (Nat.le_refl _)
   rw [hTl]
   rw [List.append_nil] at this
   exact this
  refine Nq (i + 1, ⟨.slice aC' (i + 1) cC', .slice aU' (i + 1) cU', .slice aV' (i + 1) cV', .slice aM' (i + 1) cM', .slice aR' (i + 1) cR', vs ++ [.slice (some ⟨g, 0, none⟩) n n], rs ++ [T], Mo', Ms ++ [(g, Row 2 (il T))], MU', MV', MM', MR'⟩, w) [0, 1, 5, 6] rfl ?_ ?_
  ·
   dsimp only
   refine ⟨by omega, hs.mem_perm (jk1 fun c => by simp only [List.map_append, List.map_cons, List.map_nil, List.sum_append, List.sum_cons, List.sum_nil] <;> omega), hbC', hrb.snoc hrow, by simp [hrl2], fun r hr => ?_, hbU', hbV', hbM', hbR'⟩
   by_cases hri : r < i
   ·
    have e : (rs ++ [T]).getD r [] = rs.getD r [] := by simp only [List.getD]; rw [List.getElem?_append_left (by omega)]
    obtain ⟨h5, h6⟩ := hrs r hri
    exact ⟨by rw [e]; exact h5, fun j hj => by show ((rs ++ [T]).getD r []).getD j 0 = _; rw [e]; exact h6 j hj⟩
   obtain rfl : i = r := by omega
   have e : (rs ++ [T]).getD i [] = T := by simp only [List.getD]; rw [List.getElem?_append_right (by omega), hrl2, Nat.sub_self]; rfl
   exact ⟨by rw [e]; exact hTl, fun j hj => by show ((rs ++ [T]).getD i []).getD j 0 = _; rw [e]; exact hT j hj⟩
  omega
 obtain rfl : n = i := by omega
 obtain ⟨vC, vU, vV, vM, vR, vs, rs, Mo, Ms, MU, MV, MM, MR⟩ := s
 dsimp only at hs hbC hrb hrl2 hrs hbU hbV hbM hbR
 clear hOall
 obtain ⟨gC, cC, spC, rfl, rfl, hgC, _⟩ := hbC.own_row (by omega)
 obtain ⟨u, cu, su, rfl, rfl, hu, _⟩ := hbU.own_row (by omega)
 obtain ⟨v, cv, sv, rfl, rfl, hv, _⟩ := hbV.own_row (by omega)
 obtain ⟨m, cm, sm, rfl, rfl, hm, _⟩ := hbM.own_row (by omega)
 obtain ⟨o, co, so, rfl, rfl, ho, _⟩ := hbR.own_row (by omega)
 have hvl := hrb.len
 replace hs : HS w0 w ([(u, Row 2 (il (List.replicate n 0) ++ su)), (v, Row 2 (il (List.replicate n 0) ++ sv)), (m, Row 3 (il (List.replicate n (-1)) ++ sm)), (o, Row 3 (il (List.replicate n (-1)) ++ so))] ++ ((b12, Row 134 [.int .i64 n, .slice (some ⟨gC, 0, none⟩) n cC, .slice (some ⟨u, 0, none⟩) n cu, .slice (some ⟨v, 0, none⟩) n cv, .slice (some ⟨m, 0, none⟩) n cm, .slice (some ⟨o, 0, none⟩) n co]) :: (gC, Row 88 (vs ++ spC)) :: Ms)) := hs.mem_perm (jk1 fun c => by simp only [List.map_append, List.map_cons, List.map_nil, List.sum_append, List.sum_cons, List.sum_nil] <;> omega)
 have hRd : ∀ {w : World} {U V M R : List Int}, HS w0 w ((Ly.mk b12 gC cC u cu v cv m cm o co su sv sm so).L U V M R ++ ((b12, Row 134 [.int .i64 n, .slice (some ⟨gC, 0, none⟩) n cC, .slice (some ⟨u, 0, none⟩) n cu, .slice (some ⟨v, 0, none⟩) n cv, .slice (some ⟨m, 0, none⟩) n cm, .slice (some ⟨o, 0, none⟩) n co]) :: (gC, Row 88 (vs ++ spC)) :: Ms)) -> RdS w (Ly.mk b12 gC cC u cu v cv m cm o co su sv sm so) n (sqC rows) := fun {w U V M R} hs => by
  have hnd := hs.nodup
  refine ⟨hs.has (b12, _) (by simp), jnV hnd (b := b12) (List.mem_cons_self ..), jnV hnd (b := gC) (List.mem_cons_of_mem _ (List.mem_cons_self ..)), fun r hr => ?_⟩
  obtain ⟨vr, Mv, Mr, h5, h6, h7, _⟩ := hrb.at r (by omega)
  obtain ⟨hrn, hre⟩ := hrs r hr
  obtain ⟨g, cap, sp, rfl, rfl, hg, _⟩ := Bl.own_row h6 (by omega)
  have hmem : (g, Row 2 (il (rs.getD r []) ++ sp)) ∈ Ms := h7.mem_iff.2 (by simp)
  have hmem2 : (g, Row 2 (il (rs.getD r []) ++ sp)) ∈ ((b12, Row 134 [.int .i64 n, .slice (some ⟨gC, 0, none⟩) n cC, .slice (some ⟨u, 0, none⟩) n cu, .slice (some ⟨v, 0, none⟩) n cv, .slice (some ⟨m, 0, none⟩) n cm, .slice (some ⟨o, 0, none⟩) n co]) :: (gC, Row 88 (vs ++ spC)) :: Ms) := List.mem_cons_of_mem _ (List.mem_cons_of_mem _ hmem)
  rw [hrn] at h5
  refine ⟨g, cap, ?_, jnV hnd hmem2, fun j hj => ?_⟩
  ·
   rw [jaM]
   exact Lk.cell_of_row (hs.has (gC, Row 88 (vs ++ spC)) (by simp)) (by rw [List.getElem?_append_left (by omega)]; exact h5)
  rw [jaM, <- hre j hj]
  exact Lk.cell_of_row (hs.has _ (List.mem_append_right _ hmem2)) (jbZ (by omega))
 have hOr : Own w0 ((b12, Row 134 [.int .i64 n, .slice (some ⟨gC, 0, none⟩) n cC, .slice (some ⟨u, 0, none⟩) n cu, .slice (some ⟨v, 0, none⟩) n cv, .slice (some ⟨m, 0, none⟩) n cm, .slice (some ⟨o, 0, none⟩) n co]) :: (gC, Row 88 (vs ++ spC)) :: Ms) := Own.cons hb12 (Own.cons hgC hrb.own)
 have hg0 : ∀ (x : Int) (j : Nat), j < n -> gi (List.replicate n x) j = x := fun x j hj => grep hj
 refine Wqq (Lmm rfl rfl (jaZ rfl (jaA (by omega)) ?_))
 refine Rt (Wf rfl (jaK (ja0 (ja8 (ja1 (Nt (Wqq (La rfl (Rt (ja4 ?_))))))))))
 refine W_loop6 (fun (i : Nat) (U : List Int) (V : List Int) (M : List Int) (R : List Int) (w : World) => [(1, .int .i64 n), (5, .pointer (some ⟨b12, 0, none⟩)), (9, .int .i64 i)]) (fun i U V M R w => w) (fun i U V M R w => (i <= n) /\ (U.length = n) /\ (V.length = n) /\ (M.length = n) /\ (R.length = n) /\ (Sq n (sqC rows) i (gi R) (gi U) (gi V)) /\ (SqM n i (gi R) (gi M)) /\ ((∀ r, r < n -> 0 <= gi U r /\ gi U r <= BB) /\ ∀ j, j < n -> -BB <= gi V j /\ gi V j <= 0) /\ (HS w0 w ((Ly.mk b12 gC cC u cu v cv m cm o co su sv sm so).L U V M R ++ ((b12, Row 134 [.int .i64 n, .slice (some ⟨gC, 0, none⟩) n cC, .slice (some ⟨u, 0, none⟩) n cu, .slice (some ⟨v, 0, none⟩) n cv, .slice (some ⟨m, 0, none⟩) n cm, .slice (some ⟨o, 0, none⟩) n co]) :: (gC, Row 88 (vs ++ spC)) :: Ms)))) (fun i U V M R w => n - i) (0) (List.replicate n 0) (List.replicate n 0) (List.replicate n (-1)) (List.replicate n (-1)) (w) (is := [1, 5, 9]) rfl rfl ?_ ?_
 ·
  exact ⟨Nat.zero_le _, by simp, by simp, by simp, by simp, Sq.zero (fun j hj => hg0 _ j hj) (fun r => jpR n r) (fun r => jpR n r), ⟨fun j hj ho => by rw [hg0 _ j hj] at ho; omega, fun q _ hq => hg0 _ q hq⟩, ⟨fun r _ => by rw [jpR]; decide, fun r _ => by rw [jpR]; decide⟩, hs⟩
 clear hs
 intro i U V M R w hI
 show W _ _ _ _ [(1, .int .i64 n), (5, .pointer (some ⟨b12, 0, none⟩)), (9, .int .i64 i)] w
 obtain ⟨hi, hUl, hVl, hMl, hRl, hSq, hMa, hbd, hs⟩ := hI
 by_cases hlt : i < n
 ·
  refine Wqq (Lmm rfl rfl (jaZ rfl (jaF (by omega)) ?_))
  refine Rt (Wt rfl (Ws (Wsq (ja4 (Wr (Lmm rfl rfl ?_))))))
  refine Lc f_97 rfl (enter_ok (Ly.mk b12 gC cC u cu v cv m cm o co su sv sm so) n i (sqC rows) U V M R w hC hn2 hlt (hRd hs) (HS.named (fun p hp => hs.has p (List.mem_append_left _ hp)) (by have := hs.nodup; rw [List.map_append, List.nodup_append] at this; exact this.1)) hUl hVl hMl hRl hSq hMa) ?_
  rintro _ w' ⟨U', V', M', R', hs', hUl', hVl', hMl', hRl', hSq', hMa', hbd'⟩
  replace hs := hs.callU (A := (Ly.mk b12 gC cC u cu v cv m cm o co su sv sm so).L U V M R) (U := (Ly.mk b12 gC cC u cu v cv m cm o co su sv sm so).L U' V' M' R') (L2 := ((b12, Row 134 [.int .i64 n, .slice (some ⟨gC, 0, none⟩) n cC, .slice (some ⟨u, 0, none⟩) n cu, .slice (some ⟨v, 0, none⟩) n cv, .slice (some ⟨m, 0, none⟩) n cm, .slice (some ⟨o, 0, none⟩) n co]) :: (gC, Row 88 (vs ++ spC)) :: Ms)) (N := []) rfl (by rw [List.append_nil]; exact hs') Own.nil
  rw [List.append_nil] at hs
  refine Rnl (jaB (Nt (Wr (Lm rfl (jbG rfl (ja3 (by omega)) ?_)))))
  refine La rfl (Rnl (Nq (i + 1, U', V', M', R', w') [1, 5, 9] rfl ?_ ?_))
  ·
   dsimp only
   exact ⟨by omega, hUl', hVl', hMl', hRl', hSq', hMa', hbd', hs⟩
  omega
 obtain rfl : n = i := by omega
 refine Wqq (Lmm rfl rfl (jaZ rfl (jaA (by omega)) ?_))
 refine Rt (Wf rfl (jaK (ja0 (ja8 (ja1 (Nt (Wq (Lm rfl (La rfl (Rt (jaW (ja9 rfl rfl ?_))))))))))))
 exact ⟨_, rfl, (Ly.mk b12 gC cC u cu v cv m cm o co su sv sm so), U, V, M, R, rfl, hs.dropR hOr, Own.cons hu (Own.cons hv (Own.cons hm (Own.cons ho Own.nil))), hRd hs, hUl, hVl, hMl, hRl, hSq, hMa, hbd⟩
theorem Ly.own {w0 : World} {y : Ly} {U V M R U' V' M' R' : List Int} (h : Own w0 (y.L U V M R)) : Own w0 (y.L U' V' M' R') :=
 Own.cons (h (y.u, Row 2 (il U ++ y.su)) (by simp)) (Own.cons (h (y.v, Row 2 (il V ++ y.sv)) (by simp)) (Own.cons (h (y.m, Row 3 (il M ++ y.sm)) (by simp)) (Own.cons (h (y.o, Row 3 (il R ++ y.so)) (by simp)) Own.nil)))
end Go.Proofs.YtffobakdngbadaaGreat