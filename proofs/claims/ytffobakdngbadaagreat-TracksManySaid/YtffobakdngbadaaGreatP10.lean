/-
  A part of the proof: laws for walks, and plain laws, over any program of the model. Each theorem holds under its own premises alone.
-/
import Derived.Test.YtffobakdngbadaaGreatKit
import Derived.Test.YtffobakdngbadaaGreatP8
import Derived.Test.YtffobakdngbadaaGreatKitY
import Derived.Test.YtffobakdngbadaaGreatKitQ
namespace Go.Proofs.YtffobakdngbadaaGreat
open Go Go.Lk
theorem HS.swp2 {w0 w : World} {p q : Nat × Obj} {L : Bks} (h : HS w0 w (q :: p :: L)) : HS w0 w (p :: q :: L) := h.mem_perm (List.Perm.swap ..)
structure StepIn (w0 : World) (N n : Nat) (k : Bok) (time : Nat) (a : Option Addr) (l : List Plt) (L : Bks) : Prop where
 book : k.ok w0 N
 N : N + 1 <= 4096
 own : Own w0 L
 pl : ∀ w' L', HS w0 w' L' -> Own w0 L' -> (∀ p ∈ L, p ∈ L') -> SlC w' a (pcs l)
 len : l.length = n
 len2 : n <= 1000000
 lt : ∀ i, i < n -> PltLt (l.getD i plt0)
 time : time < 18446744073709551616
 next : k.next + 256 <= 1000000
set_option maxHeartbeats 4000000 in
theorem step_ok (w0 w : World) (N n : Nat) (k : Bok) (time : Nat) (a : Option Addr) (c : Nat) (l : List Plt) (L : Bks) (hs : HS w0 w (k.bks ++ L)) (hI : StepIn w0 N n k time a l L) :
  Ret Tryz.prog 13 [bv k.B, .float .f64 time, .slice a n c] w fun v w' =>
   (jeZ k.last time l ≠ 0 /\ v = .tuple #[.slice none 0 0, .int .i64 (jeZ k.last time l)] /\ HS w0 w' (k.bks ++ L)) ∨
   (jeZ k.last time l = 0 /\ ∃ k' vt Mt told os2 ps ms os3, v = .tuple #[vt, .int .i64 0] /\ HS w0 w' (k'.bks ++ L ++ Mt) /\ Bl w0 3 1 vt n (il told) Mt /\ told.length = n /\ k'.ok w0 (N + 1) /\ StepTo k time l k' told os2 ps ms os3) := by
 have hk := hI.book
 have hn := hI.len
 have hn2 := hI.len2
 have hkB := hk.B
 have hkm := hk.mb
 obtain ⟨er, her⟩ : ∃ er, er = jeZ k.last time l := ⟨_, rfl⟩
 rw [<- her]
 refine ja7 Tryz.func13 rfl rfl rfl (Wq (La rfl (La rfl (Rqq (Lm rfl (jcV rfl u_28 rfl rfl (Rt (Wf rfl ?_))))))))
 refine Ws (Wqq (Lmm rfl rfl (Lm rfl (Lc f_30 rfl (refused_ok k.B time k.last a n c l w (Lk.cell_of_row (hs.has _ (List.mem_cons_self ..)) rfl) hI.time (hI.pl w _ hs (hk.own.app hI.own) (fun p hp => List.mem_append_right _ hp)) hn hn2 hI.lt) ?_))))
 rintro _ w1 ⟨rfl, hs'⟩
 replace hs := hs.nil hs'
 clear hs'
 rw [<- her]
 by_cases he : er = 0
 ·
  subst he
  have hn256 : n <= 256 := by
   apply Classical.byContradiction
   intro h
   unfold jeZ at her
   rw [if_pos (by omega)] at her
   cases her
  refine La rfl (Rq (Lm rfl (jk7 rfl (jaA (by omega)) ?_)))
  refine Rt (Wf rfl (Ws (Wq (Lmm rfl rfl (Ln rfl (Lf 8 jfS rfl jaS (jaH hs (i := 0) rfl jaS rfl rfl (by rfl) (by simp [Rul.cells]) rfl ?_)))))))
  intro w hs
  dsimp only [sS, sZ, sA, sN] at hs
  refine Rt (Wsq ?_)
  obtain ⟨c1, hc1⟩ : ∃ c1 : List Value, c1 = k.r.cells ++ [.map (some k.mb), .int .i64 k.next, .float .f64 time] := ⟨_, rfl⟩
  have hs1 : HS w0 w ((k.B, Row 66 c1) :: (k.mrow :: (obs k.os ++ L))) := by rw [hc1]; exact hs
  clear hs
  have hs2 : HS w0 w (k.mrow :: ((k.B, Row 66 c1) :: (obs k.os ++ L))) := HS.re hs1 (fun c => by simp only [mpA, mpC, mpN, smA, smC, smN]; omega)
  clear hs1
  have hs := hs2
  clear hs2
  have hids : (k.os.map fun o => o.t.id).Nodup := by rw [<- k.ids]; exact hk.ents.keys
  have hkd : ∀ x ∈ k.ents, ∃ cs, (x.2.1, Row 76 cs) ∈ (k.B, Row 66 c1) :: (obs k.os ++ L) /\ cs[1]? = some (.int .i8 (kdOf k.os x)) := by
   intro x hx
   obtain ⟨o, ho, rfl⟩ := List.mem_map.1 hx
   refine ⟨o.cells, List.mem_cons_of_mem _ (List.mem_append_left _ (jr1 ho _ On.row_mem)), ?_⟩
   rw [kdOf_eq hids ho]; rfl
  refine Wr (Lm rfl (Ln rfl (Lf 6 jfS rfl i_63 ?_)))
  refine Ll o_63 rfl (by exact jb6 hs (b := k.B) (cs := c1) (List.mem_cons_of_mem _ (List.mem_cons_self ..)) (j := 6) (by rw [hc1]; rfl)) ?_
  refine Lc f_31 rfl (delete_ok w0 w k.mb k.ck k.ents (kdOf k.os) _ hs hk.ents hkd) ?_
  rintro _ w1 hs1
  clear hs
  rw [show k.ents.filter (fun x => !decide (kdOf k.os x = 2)) = (k.os.filter jcB).map jc1 from jqA hids] at hs1
  obtain ⟨os1, hos1⟩ : ∃ os1, os1 = k.os.filter jcB := ⟨_, rfl⟩
  rw [<- hos1] at hs1
  have hs2 : HS w0 w1 (obs k.os ++ ((k.B, Row 66 c1) :: (k.mb, jeY (Value.int .i64) pv (os1.map jc1) k.ck) :: L)) := HS.re hs1 (fun c => by simp only [mpA, mpC, mpN, smA, smC, smN]; omega)
  clear hs1
  have hs3 := HS.alive (p := jcB) hs2 hk.each
  clear hs2
  rw [<- hos1] at hs3
  have hs : HS w0 w1 ((k.B, Row 66 c1) :: (k.mb, jeY (Value.int .i64) pv (os1.map jc1) k.ck) :: (obs os1 ++ L)) := HS.re hs3 (fun c => by simp only [mpA, mpC, mpN, smA, smC, smN]; omega)
  clear hs3
  obtain ⟨k2, hk2⟩ : ∃ k2 : Bok, k2 = { k with last := time, os := os1 } := ⟨_, rfl⟩
  replace hs : HS w0 w1 (k2.row :: k2.mrow :: (obs k2.os ++ L)) := by rw [hk2]; rw [hc1] at hs; exact hs
  have hsub : ∀ o ∈ os1, o ∈ k.os := fun o ho => by rw [hos1] at ho; exact (List.mem_filter.1 ho).1
  have hk2o : k2.ok w0 N := by
   rw [hk2]
   refine ⟨hk.B, hk.mb, fun o ho => hk.each o (hsub o ho), ?_, fun o ho => hk.low o (hsub o ho), hk.next1, hk.next2, fun o ho => hk.hist o (hsub o ho), hk.rul, ?_⟩
   ·
    have := hk.ents.sub (fun x => !decide (kdOf k.os x = 2))
    rw [show k.ents.filter (fun x => !decide (kdOf k.os x = 2)) = (k.os.filter jcB).map jc1 from jqA hids, <- hos1] at this
    exact this
   show os1.length <= 256
   rw [hos1]; exact Nat.le_trans (List.length_filter_le ..) hk.cnt
  have e2B : k2.B = k.B := by rw [hk2]
  have e2m : k2.mb = k.mb := by rw [hk2]
  refine Rq (Lm rfl (Le jeA rfl ?_))
  obtain ⟨Y, hY⟩ : ∃ Y, Y = k2.row :: k2.mrow :: (obs k2.os ++ L) := ⟨_, rfl⟩
  rw [<- hY] at hs
  have hLY : ∀ p ∈ L, p ∈ Y := fun p hp => by rw [hY]; exact List.mem_cons_of_mem _ (List.mem_cons_of_mem _ (List.mem_append_right _ hp))
  have hYo : Own w0 Y := by rw [hY]; exact hk2o.own.app hI.own
  refine L_make rfl hs u_81 jmF rfl rfl rfl rfl (Nat.le_refl _) (by omega) (by omega) ?_
  intro b52 w hb52 _ hs
  replace hs := HS.push hs
  replace hs : HS w0 w ((b52, Row 83 (pqs (([] : List Pq) ++ List.replicate n pq0))) :: Y) := by
   have e : madeCells (Value.agg #[Value.float .f64 0, Value.float .f64 0]).cells (n * 2) = (pqs (([] : List Pq) ++ List.replicate n pq0)).toArray := by
    rw [List.nil_append, <- pqs_made, <- jpQ]; rfl
   have e2 := congrArg (fun z : Array Value => ((b52, Obj.cells z 83) : Nat × Obj)) e
   rw [show ((b52, Row 83 (pqs (([] : List Pq) ++ List.replicate n pq0))) : Nat × Obj) = (b52, Obj.cells (madeCells (Value.agg #[Value.float .f64 0, Value.float .f64 0]).cells (n * 2)) 83) from e2.symm]
   exact hs
  refine La rfl (Rqq (Lm rfl (Le jeA rfl (Lm rfl (Rt (ja4 (jcT (fun (ps : List Pq) (i : Nat) (w : World) => [(0, bv k.B), (1, .float .f64 time), (2, .slice a n c), (9, .slice (some ⟨b52, 0, none⟩) n n), (53, .slice a n c), (54, .int .i64 n), (55, .int .i64 i)]) (fun ps i w => w) (fun ps i w => (i <= n) /\ (All2 PtOk (l.take i) ps) /\ (HS w0 w ((b52, Row 83 (pqs (ps ++ List.replicate (n - i) pq0))) :: Y))) (fun ps i w => n - i) ([]) (0) (_) (is := [0, 1, 2, 9, 53, 54, 55]) rfl rfl ?_ ?_)))))))
  ·
   exact ⟨Nat.zero_le _, .nil, hs⟩
  clear hs
  intro ps i w hI
  show W _ _ _ _ [(0, bv k.B), (1, .float .f64 time), (2, .slice a n c), (9, .slice (some ⟨b52, 0, none⟩) n n), (53, .slice a n c), (54, .int .i64 n), (55, .int .i64 i)] w
  obtain ⟨hi, hps, hs⟩ := hI
  by_cases hlt2 : i < n
  ·
   have hpl := hps.len
   rw [List.length_take, Nat.min_eq_left (by omega)] at hpl
   have hsl : SlC w a (pcs l) := hI.pl w _ hs (Own.cons hb52 hYo) (fun p hp => List.mem_cons_of_mem _ (hLY p hp))
   obtain ⟨m, hm⟩ : ∃ m, n - i = m + 1 := ⟨n - i - 1, by omega⟩
   rw [hm] at hs
   refine Wq (jaZ rfl (jaF (by omega)) ?_)
   refine Rt (Wsq (Wt rfl (Ws (Wsq (ja4 (Wq (Lm rfl ?_)))))))
   refine LiN jeA jg7 rfl (ja6 _) (by omega) (hsl.ao (by rw [jf1]; omega)) ?_
   refine jb7 rfl a_42 jg7 rfl (by exact plt_at hsl (by omega)) ?_
   refine jbL rfl hs jg7 ?_; intro b11 w hb11 _ hs; replace hs := HS.push hs
   refine La rfl (jaQ hs (i := 0) rfl jg7 rfl rfl (by rfl) (by simp [Plt.cells]) (by exact Plt.one _) ?_)
   intro w hs
   dsimp only [sS, sZ, sA, sN] at hs
   refine Rr (Lmm rfl rfl ?_)
   replace hs : HS w0 w ((b11, Row 42 (l.getD i plt0).cells) :: (b52, Row 83 (pqs (ps ++ List.replicate (m + 1) pq0))) :: Y) := hs
   refine jb7 rfl a_42 jg7 rfl (by exact jaE (cs := (l.getD i plt0).cells) (hs.get (i := 0) rfl)) ?_
   refine Lc f_33 rfl (point_ok (l.getD i plt0) (hI.lt i hlt2).b w) ?_
   rintro _ w1 ⟨⟨px, py, rfl, hpx, hpy⟩, hs'⟩
   replace hs := hs.nil hs'
   clear hs'
   refine LiN u_81 jmF rfl (ja6 _) (by omega) rfl ?_
   refine jaQ hs (i := 1) rfl jmF rfl rfl (by exact jaM _ _) (by simp only [pqs_len, List.length_append, List.length_replicate, List.length_cons, List.length_nil]; omega) (by simp [Value.oneCell']) ?_
   intro w hs
   dsimp only [sS, sZ, sA, sN] at hs
   refine Rnl (jaB (Nt (Wr (jbG rfl (ja3 (by omega)) ?_))))
   refine Lm rfl (Rnl (Nq (ps ++ [⟨px, py⟩], i + 1, _) [0, 1, 2, 9, 53, 54, 55] rfl ?_ ?_))
   ·
    dsimp only
    refine ⟨by omega, ?_, ?_⟩
    ·
     rw [jcX (j := i) (x := l.getD i plt0) (by rw [List.getElem?_eq_getElem (by omega), List.getD_eq_getElem?_getD, List.getElem?_eq_getElem (by omega)]; rfl)]
     exact hps.snoc ⟨hpx, hpy⟩
    have h1 := HS.pop hs hb11
    rw [show n - (i + 1) = m by omega, <- pqs_put hpl]
    exact h1
   show n - (i + 1) < n - i; omega
  obtain rfl : n = i := by omega
  rw [Nat.sub_self] at hs
  rw [<- hn, List.take_length] at hps
  have hpl := hps.len
  replace hs : HS w0 w ((b52, Row 83 (pqs ps)) :: Y) := by rw [show pqs ps = pqs (ps ++ List.replicate 0 pq0) by simp]; exact hs
  refine Wq (jaZ rfl (jaA (by omega)) ?_)
  refine Rt (Wsq (Wf rfl (jaK (ja0 (ja8 (ja1 (Nt (Wq (Lm rfl ?_)))))))))
  have hBY : (k.B, Row 66 k2.cells) ∈ Y := by rw [hY, <- e2B]; exact List.mem_cons_self ..
  have hmY : (k.mb, jeY (Value.int .i64) pv k2.ents k2.ck) ∈ Y := by rw [hY, <- e2m]; exact List.mem_cons_of_mem _ (List.mem_cons_self ..)
  refine Lc f_29 rfl (ids_ok k.B k.mb k2.ck k2.ents w0 w _ k2.cells hs (List.mem_cons_of_mem _ hBY) (by rw [<- e2m]; rfl) (List.mem_cons_of_mem _ hmY) hk2o.ents (Own.cons hb52 hYo)) ?_
  rintro vi w1 ⟨Mi, hs1, hbi⟩
  clear hs
  have hs := hs1
  clear hs1
  rw [k2.ids, k2.ents_len] at hbi
  obtain ⟨ai, ci, rfl, hci⟩ := hbi.slice
  have hm256 := hk2o.cnt
  obtain ⟨m, hm⟩ : ∃ m, m = k2.os.length := ⟨_, rfl⟩
  rw [<- hm] at hbi hci hm256 ⊢
  refine La rfl (Rq (Lm rfl (Le jbW rfl (jdM rfl hs jd4 jd1 rfl rfl rfl rfl (Nat.le_refl _) (by omega) (by omega) rfl ?_))))
  intro b70 w hb70 _ hs
  obtain ⟨Z, hZ⟩ : ∃ Z, Z = (k.B, Row 66 k2.cells) :: (k.mb, jeY (Value.int .i64) pv k2.ents k2.ck) :: (b52, Row 83 (pqs ps)) :: (L ++ Mi) := ⟨_, rfl⟩
  replace hs : HS w0 w ((b70, Row 88 (rvs ([] : List RR) ++ List.replicate m (.slice none 0 0))) :: (rbs ([] : List RR) ++ (obs k2.os ++ Z))) := by
   have h0 : HS w0 w (((b52, Row 83 (pqs ps)) :: ((k.B, Row 66 k2.cells) :: (k.mb, jeY (Value.int .i64) pv k2.ents k2.ck) :: (obs k2.os ++ L)) ++ Mi) ++ [(b70, Row 88 (List.replicate m (.slice none 0 0)))]) := by
    rw [hY, <- e2B, <- e2m] at *
    exact hs
   show HS w0 w ((b70, Row 88 (List.replicate m (.slice none 0 0))) :: (obs k2.os ++ Z))
   rw [hZ]
   exact HS.re h0 (fun c => by simp only [mpA, mpC, mpN, smA, smC, smN]; omega)
  have hBZ : (k.B, Row 66 k2.cells) ∈ Z := by rw [hZ]; exact List.mem_cons_self ..
  have hmZ : (k.mb, jeY (Value.int .i64) pv k2.ents k2.ck) ∈ Z := by rw [hZ]; exact List.mem_cons_of_mem _ (List.mem_cons_self ..)
  have hgZ : (b52, Row 83 (pqs ps)) ∈ Z := by rw [hZ]; exact List.mem_cons_of_mem _ (List.mem_cons_of_mem _ (List.mem_cons_self ..))
  have hiZ : ∀ p ∈ Mi, p ∈ Z := fun p hp => by rw [hZ]; exact List.mem_cons_of_mem _ (List.mem_cons_of_mem _ (List.mem_cons_of_mem _ (List.mem_append_right _ hp)))
  have hLZ : ∀ p ∈ L, p ∈ Z := fun p hp => by rw [hZ]; exact List.mem_cons_of_mem _ (List.mem_cons_of_mem _ (List.mem_cons_of_mem _ (List.mem_append_left _ hp)))
  have hZo : Own w0 Z := by rw [hZ]; exact Own.cons hkB (Own.cons hkm (Own.cons hb52 (hI.own.app hbi.own)))
  clear hY hLY hYo hBY hmY
  have hpl2 : ps.length = n := by omega
  have hc6 : k2.cells[6]? = some (.map (some k.mb)) := by rw [<- e2m]; rfl
  have hc7 : k2.cells[7]? = some (.int .i64 k.next) := by rw [hk2]; rfl
  have hc0 : k2.cells[0]? = some (.float .f64 k.r.noise) := by rw [hk2]; rfl
  have hc1 : k2.cells[1]? = some (.float .f64 k.r.sway) := by rw [hk2]; rfl
  have hc2 : k2.cells[2]? = some (.float .f64 k.r.gate) := by rw [hk2]; rfl
  refine La rfl (Rqq (Lm rfl (Le jbW rfl (Lm rfl (Rt (ja4 ?_))))))
  refine jcK (fun (done : List On) (rr : List RR) (i : Nat) (w : World) => [(0, bv k.B), (1, .float .f64 time), (2, .slice a n c), (9, .slice (some ⟨b52, 0, none⟩) n n), (12, .slice ai m ci), (13, .slice (some ⟨b70, 0, none⟩) m m), (71, .slice ai m ci), (72, .int .i64 m), (73, .int .i64 i)]) (fun done rr i w => w) (fun done rr i w => (i <= m) /\ (All2 (AheadR time k.r.sway) (k2.os.take i) done) /\ (rr.map RR.xs = jbX k.r ps done) /\ ((∀ r ∈ rr, r.ok w0) /\ (∀ o ∈ done, o.ok w0)) /\ (HS w0 w ((b70, Row 88 (rvs rr ++ List.replicate (m - i) (.slice none 0 0))) :: (rbs rr ++ (obs (done ++ k2.os.drop i) ++ Z))))) (fun done rr i w => m - i) ([]) ([]) (0) (_) (is := [0, 1, 2, 9, 12, 13, 71, 72, 73]) rfl rfl ?_ ?_
  ·
   exact ⟨Nat.zero_le _, .nil, rfl, ⟨fun r hr => (by cases hr), fun o ho => (by cases ho)⟩, hs⟩
  clear hs
  intro done rr i w hI
  show W _ _ _ _ [(0, bv k.B), (1, .float .f64 time), (2, .slice a n c), (9, .slice (some ⟨b52, 0, none⟩) n n), (12, .slice ai m ci), (13, .slice (some ⟨b70, 0, none⟩) m m), (71, .slice ai m ci), (72, .int .i64 m), (73, .int .i64 i)] w
  obtain ⟨hi, hah, hrx, ⟨hro, hdo⟩, hs⟩ := hI
  by_cases hlt2 : i < m
  ·
   have ho : k2.os.getD i on0 ∈ k2.os := jc6 (by omega)
   obtain ⟨o, hoe⟩ : ∃ o, o = k2.os.getD i on0 := ⟨_, rfl⟩
   rw [<- hoe] at ho
   have hid : (k2.os.map fun o => o.t.id)[i]? = some o.t.id := by rw [hoe]; exact jm8 rfl (by omega)
   have hok := hk2o.each o ho
   have hdr : k2.os.drop i = o :: k2.os.drop (i + 1) := by
    rw [hoe, List.getD_eq_getElem?_getD, List.getElem?_eq_getElem (by omega), Option.getD_some, List.getElem_cons_drop]
   have hdl := hah.len
   rw [List.length_take, Nat.min_eq_left (by omega)] at hdl
   have hrl : rr.length = i := by have := congrArg List.length hrx; rw [List.length_map, jdG] at this; omega
   obtain ⟨q, hq⟩ : ∃ q, m - i = q + 1 := ⟨m - i - 1, by omega⟩
   rw [hq, hdr, jfG] at hs
   obtain ⟨X, hX⟩ : ∃ X, X = o.Mx ++ (o.My ++ (obs (done ++ k2.os.drop (i + 1)) ++ Z)) := ⟨_, rfl⟩
   have hXZ : ∀ p ∈ Z, p ∈ X := fun p hp => by rw [hX]; exact List.mem_append_right _ (List.mem_append_right _ (List.mem_append_right _ hp))
   replace hs : HS w0 w ((o.p, Row 76 (jf5 o o.t)) :: (b70, Row 88 (rvs rr ++ List.replicate (q + 1) (.slice none 0 0))) :: (rbs rr ++ X)) := by
    have h0 : HS w0 w ((b70, Row 88 (rvs rr ++ List.replicate (q + 1) (.slice none 0 0))) :: (rbs rr ++ ((obs done ++ (((o.p, Row 76 (jf5 o o.t)) :: (o.Mx ++ o.My)) ++ obs (k2.os.drop (i + 1)))) ++ Z))) := hs
    rw [hX, jfG]
    exact HS.re h0 (fun c => by simp only [mpA, mpC, mpN, smA, smC, smN]; omega)
   have hsi : SlC w ai (il (k2.os.map fun o => o.t.id)) := Bl.slcM hbi hs (fun p hp => List.mem_cons_of_mem _ (List.mem_cons_of_mem _ (List.mem_append_right _ (hXZ _ (hiZ p hp)))))
   have hai := hsi.ao (by rw [il_length, List.length_map]; omega)
   have hcell : w.cell? ((aD ai).add i) = some (.int .i64 o.t.id) := hsi.2 i _ (by unfold il; rw [List.getElem?_map, hid]; rfl)
   have hmem : ∀ p ∈ Z, p ∈ (o.p, Row 76 (jf5 o o.t)) :: (b70, Row 88 (rvs rr ++ List.replicate (q + 1) (.slice none 0 0))) :: (rbs rr ++ X) := fun p hp => List.mem_cons_of_mem _ (List.mem_cons_of_mem _ (List.mem_append_right _ (hXZ _ hp)))
   have hgo := Bok.get hk2o ho
   refine Wq (jaZ rfl (jaF (by omega)) ?_)
   refine Rt (Wsq (Wt rfl (Ws (Wsq (ja4 (Wq (Lm rfl (Li jbW i_3 rfl (ja6 _) (by omega) hai ?_))))))))
   refine Ll o_3 rfl (by exact hcell) ?_
   refine La rfl (La rfl (Rq (Lm rfl (Ln rfl (Lf 6 jfS rfl i_63 (Ll o_63 rfl (by exact jb6 hs (hmem _ hBZ) (j := 6) hc6) ?_))))))
   refine Lm rfl ?_
   refine jf4 (k := o.t.id) (ev := pv) (z := .pointer none) rfl K3 jpY i_77 (hs.has _ (hmem _ hmZ)) rfl rfl ?_; rw [hgo]
   refine Ln rfl (Lf 0 jpM rfl jcE (La rfl (Rt (Wsq (jcG 16 (v' := .pointer (some ⟨o.p, 0, none⟩)) rfl (rfl) (Wr (Lmm rfl rfl (Ln rfl (Lf 14 jcC rfl jaS (Ll jb5 rfl (by exact hs.cellA (i := 0) (j := 14) rfl rfl) ?_))))))))))
   refine jaC rfl (op := .sub) rfl rfl rfl ?_
   intro r91 k91 hr91
   replace hs := hs.drewN k91
   refine La rfl (Rt (Wsq (jqD Tryz.mixed ?_)))
   replace hs := hs.drewN 1
   refine jbR [0, 1, 2, 3, 4, 6, 7, 8, 9, 10, 13, 14, 15, 17, 18, 19, 20, 21] [5, 11, 12, 16, 22, 23, 24, 25] [26, 27, 28, 29] (jmZ SPC) (g' := 0) (by kernel_rfl) (by kernel_rfl) (fun _ _ _ _ _ h => h) hs ?_
   refine Pm rfl (Pm rfl (Pm rfl (Pn rfl (Pfa 2 jcC rfl jbP (Pm rfl (Pm rfl (Pn rfl (Pfa 0 jfS rfl jfP (Pfa 1 jbM rfl jaS (Pm rfl (Pn rfl (Pfa 7 jcC rfl jbP (Pm rfl (Pm rfl (Pn rfl (Pfa 0 jfS rfl jfP (Pfa 1 jbM rfl jaS (jd0 (jaP rfl (fun w R hR hs => jcL jfY jbP rfl (by exact jaX (n := 5) (cs := o.t.x.cells) (hs.get (i := 0) rfl) rfl)) ?_)))))))))))))))))))
   refine jaP rfl (fun w R hR hs => jaN jb5 rfl (by exact jb6 hs (List.mem_append_left _ (hmem _ hBZ)) (j := 1) hc1)) ?_
   refine jc5 rfl f_34 rfl (fun w R hR hs => aheadH hs o.t.x r91 k.r.sway) ?_
   rintro _ hd
   obtain ⟨ux, rfl, hux⟩ := hd _ rfl
   refine jaP rfl (fun w R hR hs => jcL jfY jbP rfl (by exact jaX (n := 5) (cs := o.t.y.cells) (hs.get (i := 0) rfl) rfl)) ?_
   refine jaP rfl (fun w R hR hs => jaN jb5 rfl (by exact jb6 hs (List.mem_append_left _ (hmem _ hBZ)) (j := 1) hc1)) ?_
   refine jc5 rfl f_34 rfl (fun w R hR hs => aheadH hs o.t.y r91 k.r.sway) ?_
   rintro _ hd
   obtain ⟨uy, rfl, huy⟩ := hd _ rfl
   refine jaP rfl (fun w R hR hs => jcN rfl) ?_
   refine jaP rfl (fun w R hR hs => jbA (off := 2) jcC rfl rfl jbP rfl) ?_
   refine jcU ?_
   intro w hs
   refine jaQ hs (i := 0) rfl jbP rfl rfl (by rfl) (by simp [On.cells, Stt.cells]) (by simp [Stt.cells, Value.oneCell']) ?_
   intro w hs
   dsimp only [sS, sZ, sA, sN] at hs
   refine Ln rfl (Lf 7 jcC rfl jbP (jaQ hs (i := 0) rfl jbP rfl rfl (by rfl) (by simp [On.cells, Stt.cells]) (by simp [Stt.cells, Value.oneCell']) ?_))
   intro w hs
   dsimp only [sS, sZ, sA, sN] at hs
   refine jg5 (jdW (by kernel_rfl) ?_)
   refine Nt (Wsq ?_)
   obtain ⟨o1, ho1⟩ : ∃ o1 : On, o1 = { o with t := { o.t with x := ux, y := uy } } := ⟨_, rfl⟩
   replace hs : HS w0 w ((o1.p, Row 76 (jf5 o1 o1.t)) :: (b70, Row 88 (rvs rr ++ List.replicate (q + 1) (.slice none 0 0))) :: (rbs rr ++ X)) := by
    rw [List.append_nil] at hs
    rw [ho1]; exact hs
   obtain ⟨V1, hV1⟩ : ∃ V1, V1 = (o1.p, Row 76 (jf5 o1 o1.t)) :: (rbs rr ++ X) := ⟨_, rfl⟩
   replace hs : HS w0 w ((b70, Row 88 (rvs rr ++ (Value.slice none 0 0) :: List.replicate q (.slice none 0 0))) :: ([] ++ V1)) := by
    rw [hV1]
    exact HS.swp2 hs
   have ho1p : o1.p = o.p := by rw [ho1]
   have hrowV : (o.p, Row 76 (jf5 o1 o1.t)) ∈ V1 := by rw [hV1, ho1p]; exact List.mem_cons_self ..
   have hZV : ∀ p ∈ Z, p ∈ V1 := fun p hp => by rw [hV1]; exact List.mem_cons_of_mem _ (List.mem_append_right _ (hXZ _ hp))
   have hrvl : (rvs rr).length = i := by unfold rvs; rw [List.length_map, hrl]
   clear hmem hsi hcell
   refine Wr (Lm rfl (Le u_81 rfl (Lm rfl (Rt (ja4 ?_)))))
   refine jcK (fun (v : Value) (M : Bks) (j : Nat) (w : World) => [(0, bv k.B), (1, .float .f64 time), (2, .slice a n c), (9, .slice (some ⟨b52, 0, none⟩) n n), (12, .slice ai m ci), (13, .slice (some ⟨b70, 0, none⟩) m m), (14, .int .i64 i), (16, .pointer (some ⟨o.p, 0, none⟩)), (71, .slice ai m ci), (72, .int .i64 m), (73, .int .i64 i), (120, .slice (some ⟨b52, 0, none⟩) n n), (121, .int .i64 n), (122, .int .i64 j)]) (fun v M j w => w) (fun v M j w => (j <= n) /\ (Bl w0 2 1 v j (il (jc2 k.r (ps.take j) o1)) M) /\ (HS w0 w ((b70, Row 88 (rvs rr ++ v :: List.replicate q (.slice none 0 0))) :: (M ++ V1)))) (fun v M j w => n - j) ((.slice none 0 0)) ([]) (0) (_) (is := [0, 1, 2, 9, 12, 13, 14, 16, 71, 72, 73, 120, 121, 122]) rfl rfl ?_ ?_
   ·
    exact ⟨Nat.zero_le _, .nil, hs⟩
   clear hs
   intro v M j w hI
   show W _ _ _ _ [(0, bv k.B), (1, .float .f64 time), (2, .slice a n c), (9, .slice (some ⟨b52, 0, none⟩) n n), (12, .slice ai m ci), (13, .slice (some ⟨b70, 0, none⟩) m m), (14, .int .i64 i), (16, .pointer (some ⟨o.p, 0, none⟩)), (71, .slice ai m ci), (72, .int .i64 m), (73, .int .i64 i), (120, .slice (some ⟨b52, 0, none⟩) n n), (121, .int .i64 n), (122, .int .i64 j)] w
   obtain ⟨hj, hbv, hs⟩ := hI
   by_cases hlt3 : j < n
   ·
    obtain ⟨p, hp⟩ : ∃ p, p = ps.getD j pq0 := ⟨_, rfl⟩
    have hsp : SlC w (some ⟨b52, 0, none⟩) (pqs ps) := SlC.of_row (sp := []) (by rw [List.append_nil]; exact hs.has _ (List.mem_cons_of_mem _ (List.mem_append_right _ (hZV _ hgZ))))
    refine Wq (jaZ rfl (jaF (by omega)) ?_)
    refine Rt (Wsq (Wt rfl (Ws (Wsq (ja4 (Wq (LiN u_81 jmF rfl (ja6 _) (by omega) rfl ?_)))))))
    refine jb7 rfl a_83 jmF rfl (by exact (hsp.sub fun _ _ hv => jqU (by omega) (by rw [<- hp]; exact hv) : jbF w ((aD (some (Addr.mk b52 0 none))).add (j * 2)) p.cells)) ?_
    refine jbL rfl hs jmF ?_; intro b19 w hb19 _ hs; replace hs := HS.push hs
    refine jaQ hs (i := 0) rfl jmF rfl rfl (by rfl) (by simp [Pq.cells]) (by simp [Pq.cells, Value.oneCell']) ?_
    intro w hs
    dsimp only [sS, sZ, sA, sN] at hs
    refine Rt ?_
    replace hs : HS w0 w ((b19, Row 83 p.cells) :: (b70, Row 88 (rvs rr ++ v :: List.replicate q (.slice none 0 0))) :: (M ++ V1)) := hs
    have hVm : ∀ z ∈ V1, z ∈ (b19, Row 83 p.cells) :: (b70, Row 88 (rvs rr ++ v :: List.replicate q (.slice none 0 0))) :: (M ++ V1) := fun z hz => List.mem_cons_of_mem _ (List.mem_cons_of_mem _ (List.mem_append_right _ hz))
    refine jqD Tryz.mixed ?_
    replace hs := hs.drewN 1
    refine jbR [0, 1, 2, 3, 4, 6, 7, 8] [5, 9, 10, 11, 12] [13, 14, 15] (jmZ (SPK k.r.noise k.r.gate)) (g' := 0) (by kernel_rfl) (by kernel_rfl) (fun _ _ _ _ _ h => h) hs ?_
    refine Pm rfl (Pm rfl (Pm rfl (Pm rfl (Pv rfl (fun w => jdC jd4 jd1 rfl rfl (ja6 _) (by omega) rfl) ?_))))
    refine Pm rfl (Pm rfl (Pn rfl (jd0 (jaP rfl (fun w R hR hs => jaN jdR rfl (by exact jb6 hs (List.mem_append_left _ (List.mem_cons_of_mem _ (List.mem_cons_self ..))) (get_mid _ _ v i hrvl))) ?_))))
    refine jaP rfl (fun w R hR hs => jcL a_51 jcE rfl (by exact jfM (j := 0) (n := 15) (cs := o1.t.cells) (hs.has _ (List.mem_append_left _ (hVm _ hrowV))) rfl)) ?_
    refine jaP rfl (fun w R hR hs => jcL a_83 jmF rfl (by exact jaE (cs := p.cells) (hs.get (i := 0) rfl))) ?_
    refine jc5 rfl f_35 rfl (fun w R hR hs => costH hs k.B k.r.noise k.r.gate k2.cells o1.t p hk.rul.gate (List.mem_append_left _ (hVm _ (hZV _ hBZ))) hc0 hc2) ?_
    rintro _ hd
    obtain rfl := hd _ _ rfl rfl
    obtain ⟨ct, hct⟩ : ∃ ct, ct = jdV k.r.noise k.r.gate o1.t.x o1.t.y p.x p.y := ⟨_, rfl⟩
    rw [<- hct]
    refine jpV rfl jbK i_2 rfl (by decide) rfl rfl ?_
    intro b138 hb138
    refine jcU ?_
    intro w hs
    have h0 : HS w0 w (((b19, Row 83 p.cells) :: (b70, Row 88 (rvs rr ++ v :: List.replicate q (.slice none 0 0))) :: (M ++ V1)) ++ [(b138, Row 2 [.int .i64 ct])]) := hs
    clear hs
    have hs : HS w0 w ((((b19, Row 83 p.cells) :: (b70, Row 88 (rvs rr ++ v :: List.replicate q (.slice none 0 0))) :: V1) ++ M) ++ [(b138, Row 2 [.int .i64 ct])]) := HS.re h0 (fun c => by simp only [mpA, mpC, mpN, smA, smC, smN]; omega)
    clear h0
    refine jb8 (L := (b19, Row 83 p.cells) :: (b70, Row 88 (rvs rr ++ v :: List.replicate q (.slice none 0 0))) :: V1) rfl jbK i_2 rfl hs hb138 hbv rfl rfl rfl (by simp [Value.oneCell']) (by omega) (by omega) ?_
    intro v' w M' hs hb'
    obtain ⟨a', c', rfl, hc'⟩ := hb'.slice
    refine Li jd4 jd1 rfl (ja6 _) (by omega) rfl ?_
    refine jaH hs (i := 1) rfl jd1 rfl rfl (by exact jaM _ _) (by simp only [List.length_append, List.length_cons, hrvl]; omega) rfl ?_
    intro w hs
    dsimp only [sS, sZ, sA, sN] at hs
    refine jg5 (jdW (by kernel_rfl) ?_)
    refine jaB (Nt (Wr (jbG rfl (ja3 (by omega)) ?_)))
    refine Lm rfl (Rnl (Nq (.slice a' (j + 1) c', M', j + 1, _) [0, 1, 2, 9, 12, 13, 14, 16, 71, 72, 73, 120, 121, 122] rfl ?_ ?_))
    ·
     dsimp only
     refine ⟨by omega, ?_, ?_⟩
     ·
      have e : jc2 k.r (ps.take (j + 1)) o1 = jc2 k.r (ps.take j) o1 ++ [ct] := by
       unfold jc2
       rw [jcX (j := j) (x := p) (by rw [hp, List.getElem?_eq_getElem (by omega), List.getD_eq_getElem?_getD, List.getElem?_eq_getElem (by omega)]; rfl), List.map_append, hct]; rfl
      rw [e, <- jeD]
      exact hb'
     have h1 := HS.pop hs hb19
     rw [set_mid' _ _ _ _ i hrvl] at h1
     have h2 : HS w0 w ((b70, Row 88 (rvs rr ++ Value.slice a' (j + 1) c' :: List.replicate q (.slice none 0 0))) :: (M' ++ V1)) := HS.re h1 (fun c => by simp only [mpA, mpC, mpN, smA, smC, smN]; omega)
     exact h2
    show n - (j + 1) < n - j; omega
   obtain rfl : n = j := by omega
   have e : ps.take n = ps := by rw [<- hpl2, List.take_length]
   rw [e] at hbv
   refine Wq (jaZ rfl (jaA (by omega)) ?_)
   refine Rt (Wsq (Wf rfl (jaK (ja0 (ja8 (ja1 (jaB (Nt (Wr (jbG rfl (ja3 (by omega)) ?_))))))))))
   refine Lm rfl (Rnl (Nq (done ++ [o1], rr ++ [⟨jc2 k.r ps o1, v, M⟩], i + 1, _) [0, 1, 2, 9, 12, 13, 71, 72, 73] rfl ?_ ?_))
   ·
    dsimp only
    refine ⟨by omega, ?_, ?_, ⟨fun r hr => ?_, fun u hu => ?_⟩, ?_⟩
    ·
     rw [jcX (j := i) (x := o) (by rw [hoe, List.getElem?_eq_getElem (by omega), List.getD_eq_getElem?_getD, List.getElem?_eq_getElem (by omega)]; rfl)]
     have et : cn r91 = cn (fop .sub time o.t.last) := (Fs.cn hr91).trans (jaL ..).symm
     exact hah.snoc ⟨ux, uy, hux.trans (jd3 rfl et), huy.trans (jd3 rfl et), ho1⟩
    ·
     rw [List.map_append, hrx]; unfold jbX; rw [List.map_append]; rfl
    ·
     rcases List.mem_append.1 hr with hr | hr
     ·
      exact hro r hr
     rw [List.mem_singleton.1 hr]
     show Bl w0 2 1 v (jc2 k.r ps o1).length (il (jc2 k.r ps o1)) M
     rw [show (jc2 k.r ps o1).length = n by unfold jc2; rw [List.length_map, hpl2]]
     exact hbv
    ·
     rcases List.mem_append.1 hu with hu | hu
     ·
      exact hdo u hu
     rw [List.mem_singleton.1 hu, ho1]
     exact ⟨hok.p, hok.bx, hok.by', hok.seen, hok.lx, hok.ly⟩
    have e1 : rvs (rr ++ [⟨jc2 k.r ps o1, v, M⟩]) ++ List.replicate (m - (i + 1)) (Value.slice none 0 0) = rvs rr ++ v :: List.replicate q (Value.slice none 0 0) := by
     rw [show m - (i + 1) = q by omega]; unfold rvs; rw [List.map_append, List.append_assoc]; rfl
    have e2 : rbs (rr ++ [⟨jc2 k.r ps o1, v, M⟩]) = rbs rr ++ M := by unfold rbs; rw [List.flatMap_append]; simp
    have e3 : obs ((done ++ [o1]) ++ k2.os.drop (i + 1)) = obs done ++ (((o1.p, Row 76 (jf5 o1 o1.t)) :: (o.Mx ++ o.My)) ++ obs (k2.os.drop (i + 1))) := by
     rw [jfG, jfG, List.append_assoc]
     have e4 : obs [o1] = (o1.p, Row 76 (jf5 o1 o1.t)) :: (o.Mx ++ o.My) := by unfold obs; rw [List.flatMap_cons, List.flatMap_nil, List.append_nil, ho1]; rfl
     rw [e4]
    rw [e1, e2, e3]
    rw [hV1, hX, jfG] at hs
    exact HS.re hs (fun c => by simp only [mpA, mpC, mpN, smA, smC, smN]; omega)
   show m - (i + 1) < m - i; omega
  obtain rfl : m = i := by omega
  have hm2 : m = k2.os.length := hm
  rw [show k2.os.take m = k2.os by rw [hm2, List.take_length]] at hah
  rw [show done ++ k2.os.drop m = done by rw [hm2, List.drop_length, List.append_nil], Nat.sub_self, List.replicate_zero, List.append_nil] at hs
  have hdl : done.length = m := by rw [hah.len, hm2]
  have hrl : rr.length = m := by have := congrArg List.length hrx; rw [List.length_map, jdG] at this; omega
  have hdA : ∀ j, j < m -> AheadR time k.r.sway (k2.os.getD j on0) (done.getD j on0) := fun j hj => hah.at (by omega)
  refine Wq (jaZ rfl (jaA (by omega)) ?_)
  refine Rt (Wsq (Wf rfl (jaK (ja0 (ja8 (ja1 (Nt (Wq (Lm rfl ?_)))))))))
  have hrI : RowsI w (some ⟨b70, 0, none⟩) (rr.map RR.xs) (rvs rr) :=
   rowsI_sl (n := n) hs (SlC.of_row (sp := []) (by rw [List.append_nil]; exact hs.get (i := 0) rfl)) hro (fun p hp => List.mem_cons_of_mem _ (List.mem_append_left _ hp)) (fun r hr => by
    have h1 : r.xs ∈ jbX k.r ps done := by rw [<- hrx]; exact List.mem_map.2 ⟨r, hr, rfl⟩
    have h2 := je0 _ h1
    omega) (by omega)
  rw [hrx] at hrI
  refine Lc f_36 rfl (most_ok (some ⟨b70, 0, none⟩) m m (jbX k.r ps done) (rvs rr) w hrI (by rw [jdG, hdl]) (by omega)) ?_
  rintro _ w1 ⟨vm, Nm, ms, cnt, tt, e0, rfl, hs', hbm, hans⟩
  obtain ⟨rfl, hml, hmr⟩ := jr3 hk.rul.gate (by omega) (by omega) hans
  have hs1 := hs.call hs' hbm.own
  replace hbm := hbm.mono hs.size
  clear hs hs' hrI
  obtain ⟨Z3, hZ3⟩ : ∃ Z3, Z3 = Z ++ Nm := ⟨_, rfl⟩
  have hs : HS w0 w1 (obs done ++ Z3) := by
   have h1 : HS w0 w1 (((b70, Row 88 (rvs rr)) :: rbs rr) ++ (obs done ++ Z3)) := by rw [hZ3]; exact HS.re hs1 (fun c => by simp only [mpA, mpC, mpN, smA, smC, smN]; omega)
   exact HS.dropL h1 (Own.cons hb70 (rbs_own hro))
  clear hs1
  have hZ33 : ∀ p ∈ Z, p ∈ Z3 := fun p hp => by rw [hZ3]; exact List.mem_append_left _ hp
  have hNZ3 : ∀ p ∈ Nm, p ∈ Z3 := fun p hp => by rw [hZ3]; exact List.mem_append_right _ hp
  have hZ3o : Own w0 Z3 := by rw [hZ3]; exact hZo.app hbm.own
  rw [hml, hdl] at hbm
  rw [hdl] at hml
  obtain ⟨am, cm, rfl, hcm⟩ := hbm.slice
  clear hrx hro hrl
  refine Lm rfl (Lx rfl rfl (Lx rfl rfl (Lx rfl rfl (Lx rfl rfl (La rfl (La rfl (La rfl (La rfl (Rq (Lm rfl (Le jeA rfl (jdM rfl hs jbW i_3 rfl rfl rfl rfl (Nat.le_refl _) (by omega) (by omega) rfl ?_))))))))))))
  intro b152 w hb152 _ hs
  rw [jgV] at hs
  replace hs := HS.push hs
  refine La rfl (Rqq (Lm rfl (Le jbW rfl (Lm rfl (Rt (ja4 ?_))))))
  refine jcK (fun (hit : List On) (told : List Int) (i : Nat) (w : World) => [(0, bv k.B), (1, .float .f64 time), (6, .slice (some ⟨b152, 0, none⟩) n n), (9, .slice (some ⟨b52, 0, none⟩) n n), (20, .slice am m cm), (153, .slice ai m ci), (154, .int .i64 m), (155, .int .i64 i)]) (fun hit told i w => w) (fun hit told i w => (i <= m) /\ (All2 (HitR k.r time ps) ((done.zip ms).take i) hit) /\ (told = ((done.zip ms).take i).foldl jmT (List.replicate n 0)) /\ (∀ o ∈ hit, o.ok w0) /\ (HS w0 w ((b152, Row 3 (il told)) :: (obs (hit ++ done.drop i) ++ Z3)))) (fun hit told i w => m - i) ([]) ((List.replicate n 0)) (0) (_) (is := [0, 1, 6, 9, 20, 153, 154, 155]) rfl rfl ?_ ?_
  ·
   exact ⟨Nat.zero_le _, .nil, rfl, fun o ho => (by cases ho), hs⟩
  clear hs
  intro hit told i w hI
  show W _ _ _ _ [(0, bv k.B), (1, .float .f64 time), (6, .slice (some ⟨b152, 0, none⟩) n n), (9, .slice (some ⟨b52, 0, none⟩) n n), (20, .slice am m cm), (153, .slice ai m ci), (154, .int .i64 m), (155, .int .i64 i)] w
  obtain ⟨hi, hhi, htl, hho, hs⟩ := hI
  by_cases hlt2 : i < m
  ·
   have ho : done.getD i on0 ∈ done := jc6 (by omega)
   obtain ⟨o, hoe⟩ : ∃ o, o = done.getD i on0 := ⟨_, rfl⟩
   have hA := hdA i hlt2
   rw [<- hoe] at ho hA
   have hok := hdo o ho
   obtain ⟨ux, uy, _, _, hoA⟩ := hA
   have hb0 : k2.os.getD i on0 ∈ k2.os := jc6 (by omega)
   have hidE : o.t.id = (k2.os.getD i on0).t.id := by rw [hoA]
   have hpE : o.p = (k2.os.getD i on0).p := by rw [hoA]
   have hxE : o.xs = (k2.os.getD i on0).xs := by rw [hoA]
   have hyE : o.ys = (k2.os.getD i on0).ys := by rw [hoA]
   have hsE : o.t.steps = (k2.os.getD i on0).t.steps := by rw [hoA]
   clear hoA
   have hhist := hk2o.hist _ hb0
   rw [<- hxE, <- hyE, <- hsE] at hhist
   have hid : (k2.os.map fun o => o.t.id)[i]? = some o.t.id := by rw [hidE]; exact jm8 rfl (by omega)
   have hdr : done.drop i = o :: done.drop (i + 1) := by
    rw [hoe, List.getD_eq_getElem?_getD, List.getElem?_eq_getElem (by omega), Option.getD_some, List.getElem_cons_drop]
   have hhl := hhi.len
   rw [List.length_take, List.length_zip, Nat.min_eq_left (by omega)] at hhl
   have htlen : told.length = n := by rw [htl, jp2, List.length_replicate]
   rw [hdr, jfG] at hs
   obtain ⟨X, hX⟩ : ∃ X, X = o.Mx ++ (o.My ++ (obs (hit ++ done.drop (i + 1)) ++ Z3)) := ⟨_, rfl⟩
   have hXZ : ∀ p ∈ Z3, p ∈ X := fun p hp => by rw [hX]; exact List.mem_append_right _ (List.mem_append_right _ (List.mem_append_right _ hp))
   replace hs : HS w0 w ((o.p, Row 76 (jf5 o o.t)) :: (b152, Row 3 (il told)) :: X) := by
    have h0 : HS w0 w ((b152, Row 3 (il told)) :: ((obs hit ++ (((o.p, Row 76 (jf5 o o.t)) :: (o.Mx ++ o.My)) ++ obs (done.drop (i + 1)))) ++ Z3)) := hs
    rw [hX, jfG]
    exact HS.re h0 (fun c => by simp only [mpA, mpC, mpN, smA, smC, smN]; omega)
   have hmem : ∀ {v1 v2 : Nat × Obj}, ∀ p ∈ Z3, p ∈ v1 :: v2 :: X := fun p hp => List.mem_cons_of_mem _ (List.mem_cons_of_mem _ (hXZ _ hp))
   have hsi : SlC w ai (il (k2.os.map fun o => o.t.id)) := Bl.slcM hbi hs (fun p hp => hmem _ (hZ33 _ (hiZ p hp)))
   have hai := hsi.ao (by rw [il_length, List.length_map]; omega)
   have hcell : w.cell? ((aD ai).add i) = some (.int .i64 o.t.id) := hsi.2 i _ (by unfold il; rw [List.getElem?_map, hid]; rfl)
   have hgo : mget o.t.id k2.ents = some o.p := by rw [hidE, hpE]; exact Bok.get hk2o hb0
   refine Wq (jaZ rfl (jaF (by omega)) ?_)
   refine Rt (Wsq (Wt rfl (Ws (Wsq (ja4 (Wq (Lm rfl (Li jbW i_3 rfl (ja6 _) (by omega) hai ?_))))))))
   refine Ll o_3 rfl (by exact hcell) ?_
   refine La rfl (La rfl (Rq (Lm rfl (Ln rfl (Lf 6 jfS rfl i_63 (Ll o_63 rfl (by exact jb6 hs (hmem _ (hZ33 _ hBZ)) (j := 6) hc6) ?_))))))
   refine Lm rfl ?_
   refine jf4 (k := o.t.id) (ev := pv) (z := .pointer none) rfl K3 jpY i_77 (hs.has _ (hmem _ (hZ33 _ hmZ))) rfl rfl ?_; rw [hgo]
   refine La rfl (Rt (Wsq (jcG 26 (v' := .pointer (some ⟨o.p, 0, none⟩)) rfl (rfl) (Wr (Lm rfl (Ln rfl (Lf 0 jpM rfl jcE (Lf 12 jcC rfl i_49 (Ll o_49 rfl (by exact hs.cellA (i := 0) (j := 12) rfl rfl) ?_)))))))))
   refine jaT rfl (R_shl rfl rfl (by omega) (shl16_ok _ hok.seen)) ?_
   refine Ln rfl (Lf 0 jpM rfl jcE (Lf 12 jcC rfl i_49 (jaH hs (i := 0) rfl i_49 rfl rfl (by rfl) (by exact (by decide : (12 : Nat) < 17)) rfl ?_)))
   intro w hs
   dsimp only [sS, sZ, sA, sN] at hs
   refine Rt (Wsq (Wsq ?_))
   obtain ⟨t0, ht0⟩ : ∃ t0 : Trk, t0 = { o.t with seen := jcF o.t.seen } := ⟨_, rfl⟩
   have hs1 : HS w0 w ((o.p, Row 76 (jf5 o t0)) :: (b152, Row 3 (il told)) :: X) := by rw [ht0]; exact hs
   clear hs
   have hs := hs1
   clear hs1 hsi hcell
   have ht0x : t0.x = o.t.x := by rw [ht0]
   have ht0y : t0.y = o.t.y := by rw [ht0]
   have ht0s : t0.seen < 65536 := by rw [ht0]; exact jhE _
   have ht0i : t0.id = o.t.id := by rw [ht0]
   have ht0p : t0.steps = o.t.steps := by rw [ht0]
   obtain ⟨mi, hmi⟩ : ∃ mi, mi = ms.getD i 0 := ⟨_, rfl⟩
   have hmi1 : ms[i]? = some mi := by rw [hmi, List.getD_eq_getElem?_getD, List.getElem?_eq_getElem (by omega)]; rfl
   have hmiR := hmr mi (List.mem_of_getElem? hmi1)
   rw [hpl2] at hmiR
   have hsm : SlC w am (il ms) := Bl.slcM hbm hs (fun p hp => hmem _ (hNZ3 p hp))
   have ham := hsm.ao (by rw [il_length]; omega)
   refine Wr (Lmm rfl rfl (Li jbW i_3 rfl (ja6 _) (by omega) ham ?_))
   refine Ll o_3 rfl (by exact (hsm.2 i _ (by unfold il; rw [List.getElem?_map, hmi1]; rfl) : w.cell? ((aD am).add i) = some (.int .i64 mi))) ?_
   refine La rfl (Rq (Lm rfl (jgM rfl rfl (Rt (jpF (fun (t1 : Trk) (told' : List Int) (w : World) => [(0, bv k.B), (1, .float .f64 time), (6, .slice (some ⟨b152, 0, none⟩) n n), (9, .slice (some ⟨b52, 0, none⟩) n n), (20, .slice am m cm), (26, .pointer (some ⟨o.p, 0, none⟩)), (153, .slice ai m ci), (154, .int .i64 m), (155, .int .i64 i)]) (fun t1 told' w => w) (fun t1 told' w => (told' = jmT told (o, mi)) /\ (if 0 <= mi then ∃ x y : Stt, x.c = (jcY o.t.x (ps.getD mi.toNat pq0).x k.r.noise).c /\ y.c = (jcY o.t.y (ps.getD mi.toNat pq0).y k.r.noise).c /\ t1 = { o.t with x := x, y := y, seen := jnS (jcF o.t.seen) } else t1 = { o.t with seen := jcF o.t.seen }) /\ (HS w0 w ((o.p, Row 76 (jf5 o t1)) :: (b152, Row 3 (il told')) :: X))) ?_ ?_)))))
   ·
    by_cases hmp : 0 <= mi
    ·
     obtain ⟨z, hz⟩ : ∃ z : Nat, mi = (z : Int) := ⟨mi.toNat, by omega⟩
     have hzn : z < n := by omega
     obtain ⟨p, hp⟩ : ∃ p, p = ps.getD z pq0 := ⟨_, rfl⟩
     have hsp : SlC w (some ⟨b52, 0, none⟩) (pqs ps) := SlC.of_row (sp := []) (by rw [List.append_nil]; exact hs.has _ (hmem _ (hZ33 _ hgZ)))
     refine jcG 180 (v' := .bool true) rfl ((congrArg Value.bool (decide_eq_true hmp))) (jcG 27 (v' := .int .i64 (z : Int)) rfl ((by rw [hz])) ?_)
     refine Wt rfl (Wq (Lmm rfl rfl (LiN u_81 jmF rfl (ja6 _) (by omega) rfl ?_)))
     refine jb7 rfl a_83 jmF rfl (by exact (hsp.sub fun _ _ hv => jqU (by omega) (by rw [<- hp]; exact hv) : jbF w ((aD (some (Addr.mk b52 0 none))).add (z * 2)) p.cells)) ?_
     refine jbL rfl hs jmF ?_; intro b28 w hb28 _ hs; replace hs := HS.push hs
     refine jaQ hs (i := 0) rfl jmF rfl rfl (by rfl) (by simp [Pq.cells]) (by simp [Pq.cells, Value.oneCell']) ?_
     intro w hs
     dsimp only [sS, sZ, sA, sN] at hs
     refine Rt (Wsq ?_)
     replace hs : HS w0 w ((b28, Row 83 p.cells) :: (o.p, Row 76 (jf5 o t0)) :: (b152, Row 3 (il told)) :: X) := hs
     have hmem3 : ∀ {v1 v2 v3 : Nat × Obj}, ∀ p ∈ Z3, p ∈ v1 :: v2 :: v3 :: X := fun p hp => List.mem_cons_of_mem _ (hmem p hp)
     refine jqD Tryz.mixed ?_
     replace hs := hs.drewN 1
     refine jbR [0, 1, 2, 3, 4, 5, 7, 9, 10, 11, 12, 15, 16, 17, 18, 20, 22, 23, 24, 25] [6, 8, 13, 14, 19, 21, 26, 27, 28, 29, 30] [31, 32, 33, 34, 35] (jmZ SPC) (g' := 0) (by kernel_rfl) (by kernel_rfl) (fun _ _ _ _ _ h => h) hs ?_
     refine Pm rfl (Pm rfl (Pm rfl (Pn rfl (Pfa 0 jpM rfl jcE (Pfa 2 jcC rfl jbP (Pfa 0 u_83 rfl jaS (Pm rfl (Pn rfl (Pfa 0 jfS rfl jfP (Pfa 0 jbM rfl jaS (Pm rfl (Pn rfl (Pfa 0 jpM rfl jcE (Pfa 7 jcC rfl jbP (Pfa 1 u_83 rfl jaS (Pm rfl (Pn rfl (Pfa 0 jfS rfl jfP (Pfa 0 jbM rfl jaS (jd0 ?_))))))))))))))))))))
     refine jaP rfl (fun w R hR hs => jcL jfY jbP rfl (by (rw [jaR]; exact jaX (n := 5) (cs := t0.x.cells) (hs.get (i := 1) rfl) rfl))) ?_
     refine jaP rfl (fun w R hR hs => jaN jb5 rfl (by exact hs.cellA (i := 0) (j := 0) rfl rfl)) ?_
     refine jaP rfl (fun w R hR hs => jaN jb5 rfl (by exact jb6 hs (List.mem_append_left _ (hmem3 _ (hZ33 _ hBZ))) (j := 0) hc0)) ?_
     refine jc5 rfl f_37 rfl (fun w R hR hs => seenH' hs t0.x p.x k.r.noise) ?_
     rintro _ hd
     obtain ⟨sx, rfl, hsx⟩ := hd _ rfl
     refine jaP rfl (fun w R hR hs => jcL jfY jbP rfl (by (rw [jaR]; exact jaX (n := 5) (cs := t0.y.cells) (hs.get (i := 1) rfl) rfl))) ?_
     refine jaP rfl (fun w R hR hs => jaN jb5 rfl (by exact hs.cellA (i := 0) (j := 1) rfl rfl)) ?_
     refine jaP rfl (fun w R hR hs => jaN jb5 rfl (by exact jb6 hs (List.mem_append_left _ (hmem3 _ (hZ33 _ hBZ))) (j := 0) hc0)) ?_
     refine jc5 rfl f_37 rfl (fun w R hR hs => seenH' hs t0.y p.y k.r.noise) ?_
     rintro _ hd
     obtain ⟨sy, rfl, hsy⟩ := hd _ rfl
     refine jaP rfl (fun w R hR hs => jcN rfl) ?_
     refine jaP rfl (fun w R hR hs => jbA (off := 0) jpM rfl rfl jcE rfl) ?_
     refine jaP rfl (fun w R hR hs => jbA (off := 2) jcC rfl rfl jbP rfl) ?_
     refine jcU ?_
     intro w hs
     refine jaQ hs (i := 1) rfl jbP rfl rfl (by rfl) (by exact (by decide : (7 : Nat) <= 17)) (by simp [Stt.cells, Value.oneCell']) ?_
     intro w hs
     dsimp only [sS, sZ, sA, sN] at hs
     refine Ln rfl (Lf 0 jpM rfl jcE (Lf 7 jcC rfl jbP (jaQ hs (i := 1) rfl jbP rfl rfl (by rfl) (by exact (by decide : (12 : Nat) <= 17)) (by simp [Stt.cells, Value.oneCell']) ?_)))
     intro w hs
     dsimp only [sS, sZ, sA, sN] at hs
     refine jg5 (jdW (by kernel_rfl) ?_)
     refine Nt (Wsq ?_)
     obtain ⟨t2, ht2⟩ : ∃ t2 : Trk, t2 = { t0 with x := sx, y := sy } := ⟨_, rfl⟩
     replace hs : HS w0 w ((b28, Row 83 p.cells) :: (o.p, Row 76 (jf5 o t2)) :: (b152, Row 3 (il told)) :: X) := by
      rw [List.append_nil] at hs
      rw [ht2]; exact hs
     have ht2s : t2.seen = t0.seen := by rw [ht2]
     refine Wr (Lm rfl (Ln rfl (Lf 0 jpM rfl jcE (Lf 12 jcC rfl i_49 (Ll o_49 rfl (by exact hs.cellA (i := 1) (j := 12) rfl rfl) ?_)))))
     refine jaT rfl (jk5 (by simp) rfl rfl (show bits .or .u16 (t2.seen : Int) 1 = ((jnS t2.seen : Nat) : Int) from u16_or_nat _ 1 (by omega) (by decide))) ?_
     refine Ln rfl (Lf 0 jpM rfl jcE (Lf 12 jcC rfl i_49 (jaH hs (i := 1) rfl i_49 rfl rfl (by rfl) (by exact (by decide : (12 : Nat) < 17)) rfl ?_)))
     intro w hs
     dsimp only [sS, sZ, sA, sN] at hs
     refine Rr (Lmm rfl rfl (Lm rfl (Li jbW i_3 rfl (ja6 _) (by omega) rfl ?_)))
     refine jaH hs (i := 2) rfl i_3 rfl rfl (by exact jaM _ _) (by rw [il_length]; omega) rfl ?_
     intro w hs
     dsimp only [sS, sZ, sA, sN] at hs
     refine Rnl (jbD ({ t2 with seen := jnS t2.seen }, told.set z o.t.id, _) (is := [0, 1, 6, 9, 20, 26, 153, 154, 155]) (I' := (fun (t1 : Trk) (told' : List Int) (w : World) => (told' = jmT told (o, mi)) /\ (if 0 <= mi then ∃ x y : Stt, x.c = (jcY o.t.x (ps.getD mi.toNat pq0).x k.r.noise).c /\ y.c = (jcY o.t.y (ps.getD mi.toNat pq0).y k.r.noise).c /\ t1 = { o.t with x := x, y := y, seen := jnS (jcF o.t.seen) } else t1 = { o.t with seen := jcF o.t.seen }) /\ (HS w0 w ((o.p, Row 76 (jf5 o t1)) :: (b152, Row 3 (il told')) :: X))) ({ t2 with seen := jnS t2.seen }) (told.set z o.t.id) (_)) rfl rfl rfl ?_)
     refine ⟨?_, ?_, ?_⟩
     ·
      unfold jmT; rw [if_pos hmp, hz]; rfl
     ·
      rw [if_pos hmp]
      have hzt : mi.toNat = z := by rw [hz]; rfl
      rw [hzt, <- hp]
      refine ⟨sx, sy, by rw [ht0x] at hsx; exact hsx, by rw [ht0y] at hsy; exact hsy, ?_⟩
      rw [ht2, ht0]
     have h1 := HS.pop hs hb28
     rw [<- jc3]
     exact h1
    refine jcG 180 (v' := .bool false) rfl ((congrArg Value.bool (decide_eq_false hmp))) (Wf rfl (jaY (jbD (t0, told, _) (is := [0, 1, 6, 9, 20, 26, 153, 154, 155]) (I' := (fun (t1 : Trk) (told' : List Int) (w : World) => (told' = jmT told (o, mi)) /\ (if 0 <= mi then ∃ x y : Stt, x.c = (jcY o.t.x (ps.getD mi.toNat pq0).x k.r.noise).c /\ y.c = (jcY o.t.y (ps.getD mi.toNat pq0).y k.r.noise).c /\ t1 = { o.t with x := x, y := y, seen := jnS (jcF o.t.seen) } else t1 = { o.t with seen := jcF o.t.seen }) /\ (HS w0 w ((o.p, Row 76 (jf5 o t1)) :: (b152, Row 3 (il told')) :: X))) (t0) (told) (_)) rfl rfl rfl ?_)))
    refine ⟨?_, ?_, hs⟩
    ·
     unfold jmT; rw [if_neg hmp]
    rw [if_neg hmp]; exact ht0
   clear hs
   intro t1 told' w hI
   show W _ _ _ _ [(0, bv k.B), (1, .float .f64 time), (6, .slice (some ⟨b152, 0, none⟩) n n), (9, .slice (some ⟨b52, 0, none⟩) n n), (20, .slice am m cm), (26, .pointer (some ⟨o.p, 0, none⟩)), (153, .slice ai m ci), (154, .int .i64 m), (155, .int .i64 i)] w
   obtain ⟨htl', ht1, hs⟩ := hI
   have hst1 : t1.steps = o.t.steps /\ t1.seen < 65536 /\ t1.id = o.t.id := by
    split at ht1
    ·
     obtain ⟨x, y, _, _, rfl⟩ := ht1; exact ⟨rfl, or16_lt (jhE _), rfl⟩
    rw [ht1]; exact ⟨rfl, jhE _, rfl⟩
   obtain ⟨o1, ho1⟩ : ∃ o1 : On, o1 = { o with t := t1 } := ⟨_, rfl⟩
   have ho1k : o1.ok w0 := by rw [ho1]; exact ⟨hok.p, hok.bx, hok.by', hst1.2.1, hok.lx, hok.ly⟩
   obtain ⟨U, hU⟩ : ∃ U, U = (b152, Row 3 (il told')) :: (obs (hit ++ done.drop (i + 1)) ++ Z3) := ⟨_, rfl⟩
   replace hs : HS w0 w (U ++ o1.bks) := by
    have h1 : HS w0 w ((o.p, Row 76 (jf5 o t1)) :: (b152, Row 3 (il told')) :: (o.Mx ++ (o.My ++ (obs (hit ++ done.drop (i + 1)) ++ Z3)))) := by rw [<- hX]; exact hs
    have e : o1.bks = (o.p, Row 76 (jf5 o t1)) :: (o.Mx ++ o.My) := by rw [ho1]; rfl
    rw [e, hU]
    exact HS.re h1 (fun c => by simp only [mpA, mpC, mpN, smA, smC, smN]; omega)
   have hBU : (k.B, Row 66 (k.r.cells ++ [.map (some k2.mb), .int .i64 k2.next, .float .f64 k2.last])) ∈ U := by
    have e : k2.cells = k.r.cells ++ [.map (some k2.mb), .int .i64 k2.next, .float .f64 k2.last] := by rw [hk2]
    rw [<- e, hU]; exact List.mem_cons_of_mem _ (List.mem_append_right _ (hZ33 _ hBZ))
   have hUo : Own w0 U := by
    rw [hU]
    refine Own.cons hb152 (Own.app (fun p hp => ?_) hZ3o)
    obtain ⟨u, hu, hp⟩ := List.mem_flatMap.1 hp
    rcases List.mem_append.1 hu with hu | hu
    ·
     exact (hho u hu).own p hp
    exact (hdo u (List.mem_of_mem_drop hu)).own p hp
   have hNN := hI.N
   have hcall := ends_ok w0 w k.B time k.r [.map (some k2.mb), .int .i64 k2.next, .float .f64 k2.last] o1 U hs ho1k hBU hk.rul (by rw [ho1]; show 0 <= t1.steps /\ t1.steps <= 1000000; omega) hUo
   rw [show o1.p = o.p by rw [ho1]] at hcall
   refine Wr (Lmm rfl rfl (Lm rfl (Lc f_38 rfl (hcall) ?_)))
   rintro _ w1 ⟨o2, h2p, h2c, h2t, h2x, h2y, hs1, h2k⟩
   clear hs
   have hs := hs1
   clear hs1
   refine Rnl (jaB (Nt (Wr (jbG rfl (ja3 (by omega)) ?_))))
   refine Lm rfl (Rnl (Nq (hit ++ [o2], told', i + 1, _) [0, 1, 6, 9, 20, 153, 154, 155] rfl ?_ ?_))
   ·
    dsimp only
    have hzi : (done.zip ms)[i]? = some (o, mi) := by rw [zip_get (da := on0) (db := 0) (by omega) (by omega), <- hoe, <- hmi]
    refine ⟨by omega, ?_, ?_, fun u hu => ?_, ?_⟩
    ·
     rw [jcX hzi]
     refine hhi.snoc ⟨t1, ?_, ?_, ?_, ?_, ?_, ?_⟩
     ·
      exact ht1
     ·
      exact h2p
     ·
      rw [h2c, ho1]
     ·
      rw [h2t, ho1]
     ·
      rw [h2x, ho1]
     rw [h2y, ho1]
    ·
     rw [jcX hzi, List.foldl_append, <- htl, htl']; rfl
    ·
     rcases List.mem_append.1 hu with hu | hu
     ·
      exact hho u hu
     rw [List.mem_singleton.1 hu]; exact h2k
    have e3 : obs ((hit ++ [o2]) ++ done.drop (i + 1)) = obs hit ++ (o2.bks ++ obs (done.drop (i + 1))) := by
     rw [jfG, jfG, List.append_assoc]
     have e4 : obs [o2] = o2.bks := by unfold obs; rw [List.flatMap_cons, List.flatMap_nil, List.append_nil]
     rw [e4]
    rw [hU, jfG] at hs
    have h2 : HS w0 w1 ((b152, Row 3 (il told')) :: ((obs hit ++ (o2.bks ++ obs (done.drop (i + 1)))) ++ Z3)) := HS.re hs (fun c => by simp only [mpA, mpC, mpN, smA, smC, smN]; omega)
    rw [<- e3] at h2
    exact h2
   show m - (i + 1) < m - i; omega
  obtain rfl : m = i := by omega
  have hzl : (done.zip ms).length = m := by rw [List.length_zip]; omega
  rw [show (done.zip ms).take m = done.zip ms by rw [<- hzl, List.take_length]] at hhi htl
  rw [show hit ++ done.drop m = hit by rw [<- hdl, List.drop_length, List.append_nil]] at hs
  have hhl := hhi.len
  rw [hzl] at hhl
  have htlen : told.length = n := by rw [htl, jp2, List.length_replicate]
  have hent : hit.map jc1 = k2.ents := by
   rw [hhi.map_eq (f := fun z => jc1 z.1) (fun _ _ h => HitR.ent h), zip_fst jc1 (by omega), hah.map_eq (f := jc1) (fun _ _ h => AheadR.ent h)]; rfl
  have hhit : ∀ u ∈ hit, u.xs.length <= N + 1 /\ u.ys.length <= N + 1 /\ 0 <= u.t.steps /\ u.t.steps <= (N + 1 : Nat) := by
   intro u hu
   obtain ⟨j, hj, rfl⟩ := List.getElem_of_mem hu
   have h1 := hhi.at (i := j) (da := (on0, 0)) (db := on0) (by omega)
   have h2 := hdA j (by omega)
   have h3 := hk2o.hist _ (jc6 (l := k2.os) (i := j) (d := on0) (by omega))
   have e1 : hit.getD j on0 = hit[j] := by rw [List.getD_eq_getElem?_getD, List.getElem?_eq_getElem hj]; rfl
   have e2 : (done.zip ms).getD j (on0, 0) = (done.getD j on0, ms.getD j 0) := by rw [List.getD_eq_getElem?_getD, zip_get (da := on0) (db := 0) (by omega) (by omega)]; rfl
   rw [e1, e2] at h1
   obtain ⟨t, g1, g2, g3, g4, g5, g6⟩ := h1
   obtain ⟨x, y, _, _, h2⟩ := h2
   have gt : t.steps = (done.getD j on0).t.steps := by
    split at g1
    ·
     obtain ⟨x, y, _, _, rfl⟩ := g1; rfl
    rw [g1]
   have gcx := jhN (done.getD j on0).xs t.x
   have gcy := jhN (done.getD j on0).ys t.y
   rw [g4, g5, g6]
   show (jeX ((done.getD j on0).xs ++ [t.x])).length <= _ /\ (jeX ((done.getD j on0).ys ++ [t.y])).length <= _ /\ 0 <= t.steps + 1 /\ t.steps + 1 <= _
   rw [gt]
   have gx : (done.getD j on0).xs = (k2.os.getD j on0).xs := by rw [h2]
   have gy : (done.getD j on0).ys = (k2.os.getD j on0).ys := by rw [h2]
   have gs : (done.getD j on0).t.steps = (k2.os.getD j on0).t.steps := by rw [h2]
   rw [gx] at gcx
   rw [gy] at gcy
   rw [gx, gy, gs]
   omega
  have hlow : ∀ u ∈ hit, 1 <= u.t.id /\ u.t.id < k.next := by
   intro u hu
   have h1 : jc1 u ∈ k2.ents := by rw [<- hent]; exact List.mem_map.2 ⟨u, hu, rfl⟩
   obtain ⟨v, hv, hve⟩ := List.mem_map.1 h1
   have h2 := hk2o.low v hv
   have h3 : v.t.id = u.t.id := congrArg Prod.fst hve
   rw [<- h3]
   have h4 : k2.next = k.next := by rw [hk2]
   rw [<- h4]; exact h2
  obtain ⟨Z4, hZ4⟩ : ∃ Z4, Z4 = (b52, Row 83 (pqs ps)) :: (L ++ (Mi ++ Nm)) := ⟨_, rfl⟩
  have hgZ4 : (b52, Row 83 (pqs ps)) ∈ Z4 := by rw [hZ4]; exact List.mem_cons_self ..
  have hZ4o : Own w0 Z4 := by rw [hZ4]; exact Own.cons hb52 (hI.own.app (hbi.own.app hbm.own))
  have ek : ∀ {u : NS}, (⟨k.B, k.mb, k.r, u.os, u.ck, u.next, time⟩ : Bok).bks = (k.B, Row 66 (k.r.cells ++ [.map (some k.mb), .int .i64 u.next, .float .f64 time])) :: (k.mb, jeY (Value.int .i64) pv (u.os.map jc1) u.ck) :: obs u.os := rfl
  replace hs : HS w0 w ((b152, Row 3 (il told)) :: ((k.B, Row 66 (k.r.cells ++ [.map (some k.mb), .int .i64 k.next, .float .f64 time])) :: (k.mb, jeY (Value.int .i64) pv (hit.map jc1) k.ck) :: (obs hit ++ Z4))) := by
   have e1 : k2.cells = k.r.cells ++ [.map (some k.mb), .int .i64 k.next, .float .f64 time] := by rw [hk2]
   have e2 : k2.ck = k.ck := by rw [hk2]
   rw [hZ3, hZ, e1, e2, <- hent] at hs
   rw [hZ4]
   exact HS.re hs (fun c => by simp only [mpA, mpC, mpN, smA, smC, smN]; omega)
  have hkk : (⟨k.B, k.mb, k.r, hit, k.ck, k.next, time⟩ : Bok).ok w0 (N + 1) := by
   refine ⟨hkB, hkm, hho, ?_, hlow, hk.next1, hk.next2, hhit, hk.rul, by show hit.length <= 256; omega⟩
   show EntOk (hit.map jc1) k.ck
   rw [hent]
   have e2 : k2.ck = k.ck := by rw [hk2]
   rw [<- e2]; exact hk2o.ents
  have hnx := hI.next
  refine Wq (jaZ rfl (jaA (by omega)) ?_)
  refine Rt (Wsq (Wf rfl (jaK (ja0 (ja8 (ja1 (Nt (Wqq (Lm rfl (Le u_81 rfl (Lm rfl (Rt (ja4 ?_)))))))))))))
  refine jcT (fun (u : NS) (j : Nat) (w : World) => [(0, bv k.B), (1, .float .f64 time), (6, .slice (some ⟨b152, 0, none⟩) n n), (237, .slice (some ⟨b52, 0, none⟩) n n), (238, .int .i64 n), (239, .int .i64 j)]) (fun u j w => w) (fun u j w => (j <= n) /\ (NewsTo k.r time ps ⟨hit, k.ck, k.next, told⟩ j u) /\ (u.told.length = n) /\ (u.next <= k.next + j) /\ ((⟨k.B, k.mb, k.r, u.os, u.ck, u.next, time⟩ : Bok).ok w0 (N + 1)) /\ (HS w0 w ((b152, Row 3 (il u.told)) :: ((k.B, Row 66 (k.r.cells ++ [.map (some k.mb), .int .i64 u.next, .float .f64 time])) :: (k.mb, jeY (Value.int .i64) pv (u.os.map jc1) u.ck) :: (obs u.os ++ Z4))))) (fun u j w => n - j) (⟨hit, k.ck, k.next, told⟩) (0) (_) (is := [0, 1, 6, 237, 238, 239]) rfl rfl ?_ ?_
  ·
   exact ⟨Nat.zero_le _, .zero, htlen, by show k.next <= k.next + ((0 : Nat) : Int); omega, hkk, hs⟩
  clear hs hkk
  intro u j w hI
  show W _ _ _ _ [(0, bv k.B), (1, .float .f64 time), (6, .slice (some ⟨b152, 0, none⟩) n n), (237, .slice (some ⟨b52, 0, none⟩) n n), (238, .int .i64 n), (239, .int .i64 j)] w
  obtain ⟨hj, hnt, hul, hun, huk, hs⟩ := hI
  by_cases hlt3 : j < n
  ·
   obtain ⟨p, hp⟩ : ∃ p, p = ps.getD j pq0 := ⟨_, rfl⟩
   have hsp : SlC w (some ⟨b52, 0, none⟩) (pqs ps) := SlC.of_row (sp := []) (by rw [List.append_nil]; exact hs.has _ (List.mem_cons_of_mem _ (List.mem_cons_of_mem _ (List.mem_cons_of_mem _ (List.mem_append_right _ hgZ4)))))
   obtain ⟨tj, htj⟩ : ∃ tj, tj = u.told.getD j 0 := ⟨_, rfl⟩
   have htj1 : (il u.told)[j]? = some (.int .i64 tj) := by rw [htj]; exact jaV (by omega)
   refine Wq (jaZ rfl (jaF (by omega)) ?_)
   refine Rt (Wsq (Wt rfl (Ws (Wsq (ja4 (Wq (Lm rfl (LiN u_81 jmF rfl (ja6 _) (by omega) rfl ?_))))))))
   refine jb7 rfl a_83 jmF rfl (by exact (hsp.sub fun _ _ hv => jqU (by omega) (by rw [<- hp]; exact hv) : jbF w ((aD (some (Addr.mk b52 0 none))).add (j * 2)) p.cells)) ?_
   refine jbL rfl hs jmF ?_; intro b30 w hb30 _ hs; replace hs := HS.push hs
   refine La rfl (jaQ hs (i := 0) rfl jmF rfl rfl (by rfl) (by simp [Pq.cells]) (by simp [Pq.cells, Value.oneCell']) ?_)
   intro w hs
   dsimp only [sS, sZ, sA, sN] at hs
   refine Rt (Wsq (Wsq ?_))
   replace hs : HS w0 w ((b30, Row 83 p.cells) :: (b152, Row 3 (il u.told)) :: ((k.B, Row 66 (k.r.cells ++ [.map (some k.mb), .int .i64 u.next, .float .f64 time])) :: (k.mb, jeY (Value.int .i64) pv (u.os.map jc1) u.ck) :: (obs u.os ++ Z4))) := hs
   by_cases hc1 : 0 < tj
   ·
    refine Wr (Lmm rfl rfl (Li jbW i_3 rfl (ja6 _) (by omega) rfl ?_))
    refine Ll o_3 rfl (by exact hs.cellA (i := 1) (j := j) rfl htj1) ?_
    refine jgY rfl (jaF (by omega)) ?_
    refine Lm rfl (Rs rfl (Rs rfl (Rs rfl (Rs rfl (Rs rfl (Rs rfl (Lpt rfl (Rt (Wt rfl (jaK (ja0 (ja1 (Nt (Wr (jbG rfl (ja3 (by omega)) ?_)))))))))))))))
    refine Lm rfl (Rnl (Nq (u, j + 1, _) [0, 1, 6, 237, 238, 239] rfl ?_ ?_))
    ·
     dsimp only
     exact ⟨by omega, .old hnt (.inl (by rw [<- htj]; exact hc1)), hul, by omega, huk, HS.pop hs hb30⟩
    show n - (j + 1) < n - j; omega
   by_cases hc2 : 256 <= u.os.length
   ·
    refine Wr (Lmm rfl rfl (Li jbW i_3 rfl (ja6 _) (by omega) rfl ?_))
    refine Ll o_3 rfl (by exact hs.cellA (i := 1) (j := j) rfl htj1) ?_
    refine jgY rfl (jaA (by omega)) ?_
    refine Lm rfl (Gm rfl rfl (Rw rfl (Ln rfl (Rw rfl (Lf 6 jfS rfl i_63 (Rw rfl (Ll o_63 rfl (by exact hs.cellA (i := 2) (j := 6) rfl rfl) ?_)))))))
    refine Rw rfl (L_mlen rfl jpY (hs.get (i := 3) rfl) rfl ?_)
    rw [List.length_map]
    refine Rw rfl (jgM rfl (jaF (by omega)) ?_)
    refine Lpf rfl (Rt (Wt rfl (jaK (ja0 (ja1 (Nt (Wr (jbG rfl (ja3 (by omega)) ?_))))))))
    refine Lm rfl (Rnl (Nq (u, j + 1, _) [0, 1, 6, 237, 238, 239] rfl ?_ ?_))
    ·
     dsimp only
     exact ⟨by omega, .old hnt (.inr hc2), hul, by omega, huk, HS.pop hs hb30⟩
    show n - (j + 1) < n - j; omega
   refine Wr (Lmm rfl rfl (Li jbW i_3 rfl (ja6 _) (by omega) rfl ?_))
   refine Ll o_3 rfl (by exact hs.cellA (i := 1) (j := j) rfl htj1) ?_
   refine jgY rfl (jaA (by omega)) ?_
   refine Lm rfl (Gm rfl rfl (Rw rfl (Ln rfl (Rw rfl (Lf 6 jfS rfl i_63 (Rw rfl (Ll o_63 rfl (by exact hs.cellA (i := 2) (j := 6) rfl rfl) ?_)))))))
   refine Rw rfl (L_mlen rfl jpY (hs.get (i := 3) rfl) rfl ?_)
   rw [List.length_map]
   refine Rw rfl (jgM rfl (jaA (by omega)) ?_)
   refine Lpf rfl (Rt (Wf rfl (Ws (Wq (Lm rfl (Ln rfl (Lf 7 jfS rfl i_3 (Ll o_3 rfl (by exact hs.cellA (i := 2) (j := 7) rfl rfl) ?_))))))))
   refine jbE rfl rfl (Pl.builtN Tryz.pl51 rfl) (jbE rfl rfl (Pl.builtN Tryz.pl76 rfl) ?_)
   refine jeH rfl hs rfl ?_; intro b263 w hb263 _ hs; replace hs := HS.push hs
   refine La rfl (Rt (Wsq ?_))
   obtain ⟨t0, ht0⟩ : ∃ t0 : Trk, t0 = ⟨u.next, 0, stt0, stt0, 1, 0, 0⟩ := ⟨_, rfl⟩
   obtain ⟨o0, ho0⟩ : ∃ o0 : On, o0 = ⟨b263, t0, .slice none 0 0, [], [], .slice none 0 0, [], [], u.ck⟩ := ⟨_, rfl⟩
   obtain ⟨U, hU⟩ : ∃ U, U = (b30, Row 83 p.cells) :: (b152, Row 3 (il u.told)) :: ((k.B, Row 66 (k.r.cells ++ [.map (some k.mb), .int .i64 u.next, .float .f64 time])) :: (k.mb, jeY (Value.int .i64) pv (u.os.map jc1) u.ck) :: (obs u.os ++ Z4)) := ⟨_, rfl⟩
   replace hs : HS w0 w ((b263, Row 76 (jf5 o0 t0)) :: U) := by rw [hU, ho0, ht0]; exact hs
   have hpU : (b30, Row 83 p.cells) ∈ U := by rw [hU]; exact List.mem_cons_self ..
   have hBU : (k.B, Row 66 (k.r.cells ++ [.map (some k.mb), .int .i64 u.next, .float .f64 time])) ∈ U := by rw [hU]; exact List.mem_cons_of_mem _ (List.mem_cons_of_mem _ (List.mem_cons_self ..))
   have hUo : Own w0 U := by
    rw [hU]
    exact Own.cons hb30 (Own.cons hb152 (Own.cons hkB (Own.cons hkm (Own.app (fun q hq => by
     obtain ⟨x, hx, hq⟩ := List.mem_flatMap.1 hq
     exact (huk.each x hx).own q hq) hZ4o))))
   refine jqD Tryz.mixed ?_
   replace hs := hs.drewN 1
   refine jbR [0, 1, 2, 4, 5, 6, 7, 9, 10, 11, 12, 15, 17, 18, 19, 20, 22, 23, 24, 25] [3, 8, 13, 14, 16, 21, 26, 27, 28, 29, 30] [31, 32, 33, 34, 35] (jmZ SPC) (g' := 0) (by kernel_rfl) (by kernel_rfl) (fun _ _ _ _ _ h => h) hs ?_
   refine Pm rfl (Pm rfl (Pfa 0 u_83 rfl jaS (Pm rfl (Pn rfl (Pfa 0 jfS rfl jfP (Pfa 0 jbM rfl jaS (Pm rfl (Pn rfl (Pfa 0 jfS rfl jfP (Pfa 1 jbM rfl jaS (Pfa 1 u_83 rfl jaS (Pm rfl (Pn rfl (Pfa 0 jfS rfl jfP (Pfa 0 jbM rfl jaS (Pm rfl (Pn rfl (Pfa 0 jfS rfl jfP (Pfa 1 jbM rfl jaS (jd0 (jaP rfl (fun w R hR hs => jaN jb5 rfl (by exact jb6 hs (List.mem_append_left _ (List.mem_cons_of_mem _ hpU)) (j := 0) rfl)) ?_)))))))))))))))))))))
   refine jaP rfl (fun w R hR hs => jaN jb5 rfl (by exact jb6 hs (List.mem_append_left _ (List.mem_cons_of_mem _ hBU)) (j := 0) rfl)) ?_
   refine jaP rfl (fun w R hR hs => jaN jb5 rfl (by exact jb6 hs (List.mem_append_left _ (List.mem_cons_of_mem _ hBU)) (j := 1) rfl)) ?_
   refine jc5 rfl f_39 rfl (fun w R hR hs => startH hs p.x k.r.noise k.r.sway) ?_
   rintro _ hd
   obtain rfl := hd
   refine jaP rfl (fun w R hR hs => jaN jb5 rfl (by exact jb6 hs (List.mem_append_left _ (List.mem_cons_of_mem _ hpU)) (j := 1) rfl)) ?_
   refine jaP rfl (fun w R hR hs => jaN jb5 rfl (by exact jb6 hs (List.mem_append_left _ (List.mem_cons_of_mem _ hBU)) (j := 0) rfl)) ?_
   refine jaP rfl (fun w R hR hs => jaN jb5 rfl (by exact jb6 hs (List.mem_append_left _ (List.mem_cons_of_mem _ hBU)) (j := 1) rfl)) ?_
   refine jc5 rfl f_39 rfl (fun w R hR hs => startH hs p.y k.r.noise k.r.sway) ?_
   rintro _ hd
   obtain rfl := hd
   refine jaP rfl (fun w R hR hs => jcN rfl) ?_
   refine jaP rfl (fun w R hR hs => jbA (off := 0) jpM rfl rfl jcE rfl) ?_
   refine jaP rfl (fun w R hR hs => jbA (off := 2) jcC rfl rfl jbP rfl) ?_
   refine jcU ?_
   intro w hs
   refine jaQ hs (i := 0) rfl jbP rfl rfl (by rfl) (by exact (by decide : (7 : Nat) <= 17)) (by simp [Stt.cells, Value.oneCell']) ?_
   intro w hs
   dsimp only [sS, sZ, sA, sN] at hs
   refine Ln rfl (Lf 0 jpM rfl jcE (Lf 7 jcC rfl jbP (jaQ hs (i := 0) rfl jbP rfl rfl (by rfl) (by exact (by decide : (12 : Nat) <= 17)) (by simp [Stt.cells, Value.oneCell']) ?_)))
   intro w hs
   dsimp only [sS, sZ, sA, sN] at hs
   refine jg5 (jdW (by kernel_rfl) ?_)
   refine Nt (Wsq ?_)
   obtain ⟨o1, ho1⟩ : ∃ o1 : On, o1 = { o0 with t := jmR k.r u.next p } := ⟨_, rfl⟩
   have ho1p : o1.p = b263 := by rw [ho1, ho0]
   have ho1k : o1.ok w0 := by rw [ho1, ho0]; exact ⟨hb263, .nil, .nil, by show (1 : Nat) < 65536; decide, by show (0 : Nat) <= 1024; decide, rfl⟩
   replace hs : HS w0 w (U ++ o1.bks) := by
    rw [List.append_nil] at hs
    have h1 : HS w0 w (o1.bks ++ U) := by rw [ho1, ho0]; rw [ho0, ht0] at hs; exact hs
    exact HS.re h1 (fun c => by simp only [mpA, mpC, mpN, smA, smC, smN]; omega)
   have hcall := ends_ok w0 w k.B time k.r [.map (some k.mb), .int .i64 u.next, .float .f64 time] o1 U hs ho1k hBU hk.rul (by rw [ho1]; show (0 : Int) <= 0 /\ (0 : Int) <= 1000000; decide) hUo
   rw [ho1p] at hcall
   refine Wr (Lmm rfl rfl (Lm rfl (Lc f_38 rfl (hcall) ?_)))
   rintro _ w1 ⟨o2, h2p, h2c, h2t, h2x, h2y, hs1, h2k⟩
   clear hs
   have hs : HS w0 w1 ((b30, Row 83 p.cells) :: (b152, Row 3 (il u.told)) :: ((k.B, Row 66 (k.r.cells ++ [.map (some k.mb), .int .i64 u.next, .float .f64 time])) :: (k.mb, jeY (Value.int .i64) pv (u.os.map jc1) u.ck) :: ((obs u.os ++ Z4) ++ o2.bks))) := by rw [hU] at hs1; exact hs1
   clear hs1
   refine Rt (Wsq (jqD Tryz.mixed ?_))
   replace hs := hs.drewN 1
   refine jbR [0, 1, 2, 4, 5, 6, 8] [3, 7] [9] (jmZ SPC) (g' := 0) (by kernel_rfl) (by kernel_rfl) (fun _ _ _ _ _ h => h) hs ?_
   refine Pm rfl (Pn rfl (Pfa 6 jfS rfl i_63 (Pm rfl (Pn rfl (Pfa 7 jfS rfl i_3 (Pm rfl (jd0 (jaP rfl (fun w R hR hs => jaN o_63 rfl (by exact jb6 hs (List.mem_append_left _ (List.mem_cons_of_mem _ (List.mem_cons_of_mem _ (List.mem_cons_self ..)))) (j := 6) rfl)) ?_))))))))
   refine jaP rfl (fun w R hR hs => jaN o_3 rfl (by exact jb6 hs (List.mem_append_left _ (List.mem_cons_of_mem _ (List.mem_cons_of_mem _ (List.mem_cons_self ..)))) (j := 7) rfl)) ?_
   refine jcU ?_
   intro w hs
   refine L_mput hs (i := 3) (k := u.next) (v := b263) (ev := pv) rfl K3 jpY rfl rfl rfl ?_; intro w hs
   refine jg5 (jdW (by kernel_rfl) ?_)
   refine Nt (Wsq ?_)
   have hne : ∀ x ∈ u.os.map jc1, x.1 < u.next := fun x hx => by
    obtain ⟨v, hv, rfl⟩ := List.mem_map.1 hx
    exact (huk.low v hv).2
   obtain ⟨hmp, hmc⟩ := mput_new (es := u.os.map jc1) (k := u.next) (v := b263) (ck := u.ck) (fun x hx => Int.ne_of_lt (hne x hx))
   rw [hmp, hmc] at hs
   have hs1 : HS w0 w ((b30, Row 83 p.cells) :: (b152, Row 3 (il u.told)) :: ((k.B, Row 66 (k.r.cells ++ [.map (some k.mb), .int .i64 u.next, .float .f64 time])) :: (k.mb, jeY (Value.int .i64) pv (u.os.map jc1 ++ [(u.next, b263, u.ck)]) (u.ck + 1)) :: ((obs u.os ++ Z4) ++ o2.bks))) := by rw [List.append_nil] at hs; exact hs
   clear hs
   have h9n : (1 : Int) <= u.next := huk.next1
   have hs := hs1
   clear hs1
   refine Wr (Lmm rfl rfl (Lm rfl (Ln rfl (Lf 7 jfS rfl i_3 (Ll o_3 rfl (by exact hs.cellA (i := 2) (j := 7) rfl rfl) ?_)))))
   refine Li jbW i_3 rfl (ja6 _) (by omega) rfl ?_
   refine jaH hs (i := 1) rfl i_3 rfl rfl (by exact jaM _ _) (by rw [il_length]; omega) rfl ?_
   intro w hs
   dsimp only [sS, sZ, sA, sN] at hs
   refine Rr (Lm rfl (Ln rfl (Lf 7 jfS rfl i_3 (Ll o_3 rfl (by exact hs.cellA (i := 2) (j := 7) rfl rfl) ?_))))
   refine jbG rfl (ja3 (by omega)) ?_
   refine Ln rfl (Lf 7 jfS rfl i_3 (jaH hs (i := 2) rfl i_3 rfl rfl (by rfl) (by exact (by decide : (7 : Nat) < 9)) rfl ?_))
   intro w hs
   dsimp only [sS, sZ, sA, sN] at hs
   refine Rnl (jaB (Nt (Wr (jbG rfl (ja3 (by omega)) ?_))))
   refine Lm rfl (Rnl ?_)
   have h1n := huk.next1
   have h2p' : o2.p = b263 := h2p
   have h2i : o2.t.id = u.next := by rw [h2t, ho1]; rfl
   refine Nq (⟨u.os ++ [o2], u.ck + 1, u.next + 1, u.told.set j u.next⟩, j + 1, _) [0, 1, 6, 237, 238, 239] rfl ?_ ?_
   ·
    dsimp only
    have hent : (u.os ++ [o2]).map jc1 = u.os.map jc1 ++ [(u.next, b263, u.ck)] := by
     rw [List.map_append, List.map_cons, List.map_nil]
     unfold jc1
     rw [h2i, h2p', h2c, ho1, ho0]
    refine ⟨by omega, ?_, ?_, ?_, ?_, ?_⟩
    ·
     refine .new hnt (fun h => ?_) ?_ ?_ ?_ ?_
     ·
      rw [<- htj] at h; omega
     ·
      rw [h2c, ho1, ho0]
     ·
      rw [h2t, ho1, <- hp]
     ·
      rw [h2x, ho1, ho0, <- hp]; exact jn5 _
     rw [h2y, ho1, ho0, <- hp]; exact jn5 _
    ·
     show (u.told.set j u.next).length = n
     rw [List.length_set, hul]
    ·
     show u.next + 1 <= k.next + ((j + 1 : Nat) : Int); omega
    ·
     refine ⟨hkB, hkm, fun v hv => ?_, ?_, fun v hv => ?_, ?_, ?_, fun v hv => ?_, hk.rul, ?_⟩
     ·
      rcases List.mem_append.1 hv with hv | hv
      ·
       exact huk.each v hv
      rw [List.mem_singleton.1 hv]; exact h2k
     ·
      show EntOk ((u.os ++ [o2]).map jc1) (u.ck + 1)
      rw [hent]
      exact huk.ents.push hne (by have h9 : (1 : Int) <= u.next := h1n; omega) (by omega) (by show (u.os.map jc1).length <= 999; rw [List.length_map]; omega)
     ·
      show 1 <= v.t.id /\ v.t.id < u.next + 1
      rcases List.mem_append.1 hv with hv | hv
      ·
       have h9 : 1 <= v.t.id /\ v.t.id < u.next := huk.low v hv
       omega
      rw [List.mem_singleton.1 hv, h2i]
      have h9 : (1 : Int) <= u.next := h1n
      omega
     ·
      show 1 <= u.next + 1
      have h9 : (1 : Int) <= u.next := h1n
      omega
     ·
      show u.next + 1 <= 1000000; omega
     ·
      rcases List.mem_append.1 hv with hv | hv
      ·
       exact huk.hist v hv
      rw [List.mem_singleton.1 hv, h2x, h2y, h2t, ho1, ho0]
      refine ⟨Nat.le_trans (jhN _ _) (by show 0 + 1 <= N + 1; omega), Nat.le_trans (jhN _ _) (by show 0 + 1 <= N + 1; omega), by show (0 : Int) <= 0 + 1; omega, by show (0 : Int) + 1 <= ((N + 1 : Nat) : Int); omega⟩
     show (u.os ++ [o2]).length <= 256
     rw [List.length_append, List.length_singleton]; omega
    have h3 := HS.pop hs hb30
    have h4 : HS w0 w ((b152, Row 3 (il (u.told.set j u.next))) :: ((k.B, Row 66 (k.r.cells ++ [.map (some k.mb), .int .i64 (u.next + 1), .float .f64 time])) :: (k.mb, jeY (Value.int .i64) pv (u.os.map jc1 ++ [(u.next, b263, u.ck)]) (u.ck + 1)) :: ((obs u.os ++ Z4) ++ o2.bks))) := by rw [<- jc3]; exact h3
    have e4 : obs (u.os ++ [o2]) = obs u.os ++ o2.bks := by rw [jfG]; unfold obs; rw [List.flatMap_cons, List.flatMap_nil, List.append_nil]
    have h5 : HS w0 w ((b152, Row 3 (il (u.told.set j u.next))) :: ((k.B, Row 66 (k.r.cells ++ [.map (some k.mb), .int .i64 (u.next + 1), .float .f64 time])) :: (k.mb, jeY (Value.int .i64) pv (u.os.map jc1 ++ [(u.next, b263, u.ck)]) (u.ck + 1)) :: ((obs u.os ++ o2.bks) ++ Z4))) := HS.re h4 (fun c => by simp only [mpA, mpC, mpN, smA, smC, smN]; omega)
    rw [<- e4, <- hent] at h5
    exact h5
   show n - (j + 1) < n - j; omega
  obtain rfl : n = j := by omega
  refine Wq (jaZ rfl (jaA (by omega)) ?_)
  refine Rt (Wsq (Wf rfl (jaK (ja0 (ja8 (ja1 (Nt (Wq (Lm rfl (La rfl (La rfl (Rt (jaW (jb9 rfl rfl rfl ?_))))))))))))))
  obtain ⟨k9, hk9⟩ : ∃ k9 : Bok, k9 = ⟨k.B, k.mb, k.r, u.os, u.ck, u.next, time⟩ := ⟨_, rfl⟩
  have hs9 : HS w0 w (((b152, Row 3 (il u.told)) :: k9.bks) ++ Z4) := by rw [hk9, ek]; exact hs
  have hs8 : HS w0 w (((b52, Row 83 (pqs ps)) :: (Mi ++ Nm)) ++ (k9.bks ++ L ++ [(b152, Row 3 (il u.told))])) := by rw [hZ4] at hs9; exact HS.re hs9 (fun c => by simp only [mpA, mpC, mpN, smA, smC, smN]; omega)
  have hs7 := HS.dropL hs8 (Own.cons hb52 (hbi.own.app hbm.own))
  refine ⟨_, rfl, .inr ⟨rfl, k9, _, _, u.told, done, ps, ms, hit, rfl, hs7, ?_, hul, by rw [hk9]; exact huk, ?_⟩⟩
  ·
   have := Bl.row (w0 := w0) (E := 3) (sz := 1) (g := b152) (n := n) (cap := n) (xs := il u.told) (sp := []) hb152 (by rw [il_length]; omega) (by rw [List.append_nil, il_length]; omega) (Nat.le_refl _)
   rw [List.append_nil] at this
   exact this
  refine ⟨by rw [hk9], by rw [hk9], by rw [hk9], by rw [hk9], ?_, hps, ⟨cnt, tt, hans⟩, by omega, hhi, ?_⟩
  ·
   have e : k2.os = k.os.filter jcB := by rw [hk2]; exact hos1
   rw [<- e]; exact hah
  rw [hn, <- htl, hk9]
  exact hnt
 refine La rfl (Rq (Lm rfl (jk7 rfl (jaF (by omega)) ?_)))
 refine Rt (Wt rfl (Wq (Lm rfl (La rfl (La rfl (Rt (jaW (ja2 (jb9 rfl rfl rfl ?_)))))))))
 exact ⟨_, rfl, .inl ⟨he, rfl, hs⟩⟩
theorem jhF (x y : Nat) (h : cn x = cn y) (w0 : World) : Ret Tryz.prog 48 [.float .f64 x, .float .f64 y] w0 fun v w' => v = .bool true /\ w' = w0 := by
 have hn : jb1 x = jb1 y := by rw [<- jdA x, h, jdA]
 refine ja7 Tryz.func48 rfl rfl rfl ?_
 cases hx : jb1 x
 ·
  have h1 : (FloatKind.f64.format.order x x != some .eq) = false := by rw [jq3 hx]; rfl
  have h2 : (FloatKind.f64.format.order y y != some .eq) = false := by rw [jq3 (hn ▸ hx)]; rfl
  have e : x = y := by rw [jdH hx, jdH (hn ▸ hx)] at h; exact h
  subst e
  refine Wq (La rfl (Rqq (Lmm rfl rfl ?_)))
  refine Cf rfl (fun _ => by rw [binOp_float_cmp_neq, h1]; rfl) ?_
  refine Lm rfl (Gm rfl rfl (Gm rfl rfl (Rw rfl ?_)))
  refine Cf rfl (fun _ => by rw [binOp_float_cmp_neq, h2]; rfl) ?_
  refine Lpf rfl (Rt (Wf rfl (Ws (Wq (Lm rfl (jaT rfl (jhA Tryz.ext76 rfl) (Lm rfl (jaT rfl (jhA Tryz.ext76 rfl) (jdS rfl (jaF (by omega)) ?_)))))))))
  refine La rfl (Rt (jaW (ja9 rfl rfl ?_)))
  exact ⟨_, rfl, by simp, rfl⟩
 have h1 : (FloatKind.f64.format.order x x != some .eq) = true := by rw [jcM hx]; rfl
 have h2 : (FloatKind.f64.format.order y y != some .eq) = true := by rw [jcM (hn ▸ hx)]; rfl
 refine Wq (La rfl (Rqq (Lmm rfl rfl ?_)))
 refine Cf rfl (fun _ => by rw [binOp_float_cmp_neq, h1]; rfl) ?_
 refine Lm rfl (Rs rfl (Rs rfl (Rs rfl (Lpt rfl (Rt (Wt rfl (Wq (Lmm rfl rfl ?_))))))))
 refine Cf rfl (fun _ => by rw [binOp_float_cmp_neq, h1]; rfl) ?_
 refine Lm rfl (Gm rfl rfl (Gm rfl rfl (Rw rfl ?_)))
 refine Cf rfl (fun _ => by rw [binOp_float_cmp_neq, h2]; rfl) ?_
 refine Lpt rfl (La rfl (Rt (jaW (ja2 (ja9 rfl rfl ?_)))))
 exact ⟨_, rfl, rfl, rfl⟩
theorem Stt.parts {s u : Stt} (h : s.c = u.c) : cn s.x = cn u.x /\ cn s.v = cn u.v /\ cn s.p = cn u.p /\ cn s.q = cn u.q /\ cn s.r = cn u.r :=
 ⟨congrArg Stt.x h, congrArg Stt.v h, congrArg Stt.p h, congrArg Stt.q h, congrArg Stt.r h⟩
theorem jnG (s u : Stt) (h : s.c = u.c) (w0 : World) : Ret Tryz.prog 47 [.agg s.cells.toArray, .agg u.cells.toArray] w0 fun v w' => v = .bool true /\ HS w0 w' [] := by
 obtain ⟨g1, g2, g3, g4, g5⟩ := Stt.parts h
 refine Ret.start fun w hs => ?_
 refine ja7 Tryz.func47 rfl rfl rfl (Wq (jeH rfl hs rfl ?_))
 intro b2 w hb2 hnb2 hs
 dsimp only [sS, sZ, sA, sN] at hs
 refine jeH rfl hs rfl ?_
 intro b3 w hb3 hnb3 hs
 dsimp only [sS, sZ, sA, sN] at hs
 replace hs : HS w0 w [(b2, Row 48 s.cells), (b3, Row 48 u.cells)] := hs
 refine La rfl (Rq (Lf 0 jdE rfl jaS (Ll jb5 rfl (by exact hs.cell (i := 0) rfl rfl) ?_)))
 refine Lf 0 jdE rfl jaS (Ll jb5 rfl (by exact hs.cell (i := 1) rfl rfl) ?_)
 refine Lc f_48 rfl (jhF _ _ g1 w) ?_
 rintro _ w ⟨rfl, rfl⟩
 refine Lm rfl (Rw rfl (Lf 1 jdE rfl jaS (Rw rfl (Ll jb5 rfl (by exact hs.cell (i := 0) rfl rfl) ?_))))
 refine Rw rfl (Lf 1 jdE rfl jaS (Rw rfl (Ll jb5 rfl (by exact hs.cell (i := 1) rfl rfl) ?_)))
 refine Rw rfl (Lc f_48 rfl (jhF _ _ g2 w) ?_)
 rintro _ w ⟨rfl, rfl⟩
 refine Lpt rfl (La rfl (Rq (Lf 2 jdE rfl jaS (Ll jb5 rfl (by exact hs.cell (i := 0) rfl rfl) ?_))))
 refine Lf 2 jdE rfl jaS (Ll jb5 rfl (by exact hs.cell (i := 1) rfl rfl) ?_)
 refine Lc f_48 rfl (jhF _ _ g3 w) ?_
 rintro _ w ⟨rfl, rfl⟩
 refine Lm rfl (Rw rfl (Lf 3 jdE rfl jaS (Rw rfl (Ll jb5 rfl (by exact hs.cell (i := 0) rfl rfl) ?_))))
 refine Rw rfl (Lf 3 jdE rfl jaS (Rw rfl (Ll jb5 rfl (by exact hs.cell (i := 1) rfl rfl) ?_)))
 refine Rw rfl (Lc f_48 rfl (jhF _ _ g4 w) ?_)
 rintro _ w ⟨rfl, rfl⟩
 refine Lpt rfl (Lm rfl (Rw rfl (Lf 4 jdE rfl jaS (Rw rfl (Ll jb5 rfl (by exact hs.cell (i := 0) rfl rfl) ?_)))))
 refine Rw rfl (Lf 4 jdE rfl jaS (Rw rfl (Ll jb5 rfl (by exact hs.cell (i := 1) rfl rfl) ?_)))
 refine Rw rfl (Lc f_48 rfl (jhF _ _ g5 w) ?_)
 rintro _ w ⟨rfl, rfl⟩
 refine Lpt rfl (La rfl (Rq (Lmm rfl rfl (Gm rfl rfl (Lpt rfl (La rfl (Rt (jaW (ja9 rfl rfl ?_)))))))))
 exact ⟨_, rfl, rfl, hs.forget (Own.cons hb2 (Own.cons hb3 Own.nil))⟩
end Go.Proofs.YtffobakdngbadaaGreat