/-
  A part of the proof: laws for walks, and plain laws, over any program of the model. Each theorem holds under its own premises alone.
-/
import Derived.Test.YtffobakdngbadaaGreatKit
import Derived.Test.YtffobakdngbadaaGreatP9
import Derived.Test.YtffobakdngbadaaGreatKitP
import Derived.Test.YtffobakdngbadaaGreatKitQ
import Derived.Test.YtffobakdngbadaaGreatP5
import Derived.Test.YtffobakdngbadaaGreatP4
import Derived.Test.YtffobakdngbadaaGreatKitY
namespace Go.Proofs.YtffobakdngbadaaGreat
open Go Go.Lk Go.Pr
theorem best_uniq {n rows : Nat} {C : Nat -> Nat -> Int} {f g : Nat -> Nat} (h : Best n rows C f) (h' : Best n rows C g) : ∀ r, r < rows -> g r = f r := by
 have hc : cst n C g = cst n C f := Int.le_antisymm (h'.least f h.bij) (h.least g h'.bij)
 rcases h.first g h'.bij hc with h1 | ⟨i, hi, h1, h2⟩
 ·
  exact h1
 rcases h'.first f h.bij hc.symm with h3 | ⟨j, hj, h3, h4⟩
 ·
  exact fun r hr => (h3 r hr).symm
 exfalso
 rcases Nat.lt_trichotomy i j with h5 | h5 | h5
 ·
  have := h3 i h5; omega
 ·
  subst h5; omega
 have := h1 j h5; omega
theorem MostAns.uniq {rows : List (List Int)} {ms ms' : List Int} {c c' t t' e e' : Int} (h : MostAns rows ms c t e) (h' : MostAns rows ms' c' t' e') : ms = ms' /\ c = c' /\ t = t' /\ e = e' := by
 rcases h with ⟨c1, rfl, rfl, rfl, rfl⟩ | ⟨c1, c2, f, hf, rfl, rfl, rfl, rfl⟩
 ·
  rcases h' with ⟨d1, rfl, rfl, rfl, rfl⟩ | ⟨d1, d2, g, hg, _⟩
  ·
   exact ⟨rfl, rfl, rfl, rfl⟩
  exact absurd d1 (c1.resolve_right d2)
 rcases h' with ⟨d1, rfl, rfl, rfl, rfl⟩ | ⟨d1, d2, g, hg, rfl, rfl, rfl, rfl⟩
 ·
  exact absurd c1 (d1.resolve_right c2)
 have hu := best_uniq hf hg
 refine ⟨List.map_congr_left fun q hq => ?_, tot_congr fun q hq => ?_, tot_congr fun q hq => ?_, rfl⟩
 ·
  rw [hu q (List.mem_range.1 hq)]
 ·
  rw [hu q hq]
 rw [hu q hq]
theorem NewsTo.zero_inv {r : Rul} {time : Nat} {ps : List Pq} {s u : NS} (h : NewsTo r time ps s 0 u) : u = s := by
 cases h; rfl
theorem NewsTo.succ_inv {r : Rul} {time : Nat} {ps : List Pq} {s v : NS} {j : Nat} (h : NewsTo r time ps s (j + 1) v) : ∃ u, NewsTo r time ps s j u /\ (((0 < u.told.getD j 0 ∨ 256 <= u.os.length) /\ v = u) ∨ (¬ (0 < u.told.getD j 0 ∨ 256 <= u.os.length) /\ ∃ o : On, o.c = u.ck /\ o.t = endT r (newT0 r u.next (ps.getD j pq0)) time /\ o.xs = [(newT0 r u.next (ps.getD j pq0)).x] /\ o.ys = [(newT0 r u.next (ps.getD j pq0)).y] /\ v = ⟨u.os ++ [o], u.ck + 1, u.next + 1, u.told.set j u.next⟩)) := by
 cases h with
 | old h1 h2 => exact ⟨_, h1, .inl ⟨h2, rfl⟩⟩
 | new h1 h2 h3 h4 h5 h6 => exact ⟨_, h1, .inr ⟨h2, _, h3, h4, h5, h6, rfl⟩⟩
def pA : Plt := ⟨4621819117588971520, 0, 0, 0, 0⟩
def pB : Plt := ⟨4632233691727265792, 0, 0, 0, 0⟩
def sX : Stt := aheadF (startF (ptX pA) rW.noise rW.sway) (fop .sub 4607182418800017408 0) rW.sway
def sY : Stt := aheadF (startF (ptY pA) rW.noise rW.sway) (fop .sub 4607182418800017408 0) rW.sway
theorem e0 : costT rW.noise rW.gate sX sY (ptX pA) (ptY pA) = 0 := by decide +kernel
theorem e1 : costT rW.noise rW.gate sX sY (ptX pB) (ptY pB) = -1 := by decide +kernel
theorem cn_ptX (l : Plt) : cn (ptX l) = ptX l := cn_fop ..
theorem cn_ptY (l : Plt) : cn (ptY l) = ptY l := cn_fop ..
theorem start_congr {x y n q : Nat} (h : cn x = cn y) : (startF x n q).c = (startF y n q).c := by
 show (⟨cn x, cn 0, cn n, cn 0, cn q⟩ : Stt) = ⟨cn y, cn 0, cn n, cn 0, cn q⟩
 rw [h]
theorem costT_congr {n g : Nat} {x y x' y' : Stt} {px py px' py' : Nat} (hx : x.c = x'.c) (hy : y.c = y'.c) (h1 : cn px = cn px') (h2 : cn py = cn py') : costT n g x y px py = costT n g x' y' px' py' := by
 unfold costT; rw [dstF_congr hx hy h1 h2]
theorem endT_kind (r : Rul) (t : Trk) (time : Nat) : (endT r t time).kind = kindF r t.kind t.seen (t.steps + 1) := rfl
theorem kind_new (r : Rul) (id : Int) (p : Pq) (time : Nat) : (endT r (newT0 r id p) time).kind = kindF r 0 1 (0 + 1) := endT_kind ..
theorem wake1 {k k' : Bok} {told : List Int} {os2 : List On} {ps : List Pq} {ms : List Int} {os3 : List On} (hk : k.os = []) (hr : k.r = rW) (hn : k.next = 1) (h : StepTo k 0 [pA] k' told os2 ps ms os3) :
  told = [1] /\ k'.r = rW /\ k'.last = 0 /\ k'.next = 2 /\ ∃ o : On, k'.os = [o] /\ o.t.id = 1 /\ o.t.kind = 0 /\ o.t.seen = 1 /\ o.t.steps = 1 /\ o.t.last = 0 /\ o.t.x.c = (startF (ptX pA) rW.noise rW.sway).c /\ o.t.y.c = (startF (ptY pA) rW.noise rW.sway).c /\ o.xs.length = 1 /\ o.ys.length = 1 := by
 have ha := h.ahead
 rw [hk] at ha
 have hos2 : os2 = [] := List.eq_nil_of_length_eq_zero (by rw [ha.len]; rfl)
 subst hos2
 have hp := h.pts
 obtain ⟨p, rfl⟩ : ∃ p, ps = [p] := by
  cases hp with
  | cons h1 h2 => cases h2; exact ⟨_, rfl⟩
 have hpp : PtOk pA p := by cases hp with | cons h1 _ => exact h1
 have hh := h.hits
 have hos3 : os3 = [] := List.eq_nil_of_length_eq_zero (by rw [hh.len]; rfl)
 subst hos3
 have hw := h.news
 obtain ⟨u, hu, hc⟩ := NewsTo.succ_inv hw
 obtain rfl := NewsTo.zero_inv hu
 rcases hc with ⟨hc, _⟩ | ⟨_, o, h1, h2, h3, h4, h5⟩
 ·
  exfalso
  rcases hc with hc | hc
  ·
   exact absurd hc (by show ¬ (0 : Int) < 0; decide)
  exact absurd hc (by show ¬ 256 <= 0; decide)
 rw [hr, hn] at h2 h3 h4
 injection h5 with g1 g2 g3 g4
 refine ⟨by rw [g4, hn]; rfl, by rw [h.samer, hr], h.last, by rw [g3, hn]; rfl, o, by rw [g1]; rfl, by rw [h2]; rfl, by rw [h2, kind_new]; decide +kernel, by rw [h2]; rfl, by rw [h2]; rfl, by rw [h2]; rfl, ?_, ?_, by rw [h3]; rfl, by rw [h4]; rfl⟩
 ·
  rw [h2]
  show (startF p.x rW.noise rW.sway).c = _
  exact start_congr (hpp.1.trans (cn_ptX pA).symm)
 rw [h2]
 show (startF p.y rW.noise rW.sway).c = _
 exact start_congr (hpp.2.trans (cn_ptY pA).symm)
theorem wake2 {k k' : Bok} {told : List Int} {os2 : List On} {ps : List Pq} {ms : List Int} {os3 : List On} {o : On} (hk : k.os = [o]) (hr : k.r = rW) (hn : k.next = 2) (ho : o.t.id = 1 /\ o.t.kind = 0 /\ o.t.seen = 1 /\ o.t.steps = 1 /\ o.t.last = 0) (hx : o.t.x.c = (startF (ptX pA) rW.noise rW.sway).c) (hy : o.t.y.c = (startF (ptY pA) rW.noise rW.sway).c) (hl : o.xs.length = 1 /\ o.ys.length = 1)
  (h : StepTo k 4607182418800017408 [pA, pB] k' told os2 ps ms os3) :
  told = [1, 2] /\ k'.next = 3 /\ ∃ o1 o2 : On, k'.os = [o1, o2] /\ o1.t.id = 1 /\ o2.t.id = 2 /\ o1.t.kind = 1 /\ o2.t.kind = 0 /\ o1.t.steps = 2 /\ o1.xs.length = 2 /\ o1.ys.length = 2 := by
 have ha := h.ahead
 rw [hk, hr] at ha
 have hal : [o].filter aliveB = [o] := by
  rw [List.filter_cons_of_pos (by unfold aliveB; rw [ho.2.1]; decide)]; rfl
 rw [hal] at ha
 obtain ⟨o', rfl⟩ : ∃ o', os2 = [o'] := by
  cases ha with
  | cons h1 h2 => cases h2; exact ⟨_, rfl⟩
 have hA : AheadR 4607182418800017408 rW.sway o o' := by cases ha with | cons h1 _ => exact h1
 have hp := h.pts
 obtain ⟨p, q, rfl⟩ : ∃ p q, ps = [p, q] := by
  cases hp with
  | cons h1 h2 => cases h2 with
   | cons h3 h4 => cases h4; exact ⟨_, _, rfl⟩
 have hpq : PtOk pA p /\ PtOk pB q := by cases hp with | cons h1 h2 => cases h2 with | cons h3 _ => exact ⟨h1, h3⟩
 obtain ⟨x, y, hxc, hyc, rfl⟩ := hA
 have exs : x.c = sX.c := by
  rw [hxc, ho.2.2.2.2]; exact aheadF_congr hx rfl
 have eys : y.c = sY.c := by
  rw [hyc, ho.2.2.2.2]; exact aheadF_congr hy rfl
 obtain ⟨cnt, tt, hm⟩ := h.most
 have hrow : costRows k.r [p, q] [{ o with t := { o.t with x := x, y := y } }] = [[0, -1]] := by
  show [[costT k.r.noise k.r.gate x y p.x p.y, costT k.r.noise k.r.gate x y q.x q.y]] = _
  rw [hr, costT_congr exs eys (hpq.1.1.trans (cn_ptX pA).symm) (hpq.1.2.trans (cn_ptY pA).symm), costT_congr exs eys (hpq.2.1.trans (cn_ptX pB).symm) (hpq.2.2.trans (cn_ptY pB).symm), e0, e1]
 rw [hrow] at hm
 have hms : ms = [0] := by
  rcases hm with ⟨c1, _⟩ | ⟨_, _, f, hf, rfl, _⟩
  ·
   exact absurd c1 (by decide)
  have hf0 := best_is (G := [0, 1, 2]) (by decide) hf (by decide) (by decide) (by decide +kernel) 0 (by decide)
  have hf1 : f 0 = 0 := hf0
  show [(if f 0 < 2 then (f 0 : Int) else -1)] = [0]
  rw [hf1]; rfl
 subst hms
 have hh := h.hits
 obtain ⟨o3, rfl⟩ : ∃ o3, os3 = [o3] := by
  cases hh with
  | cons h1 h2 => cases h2; exact ⟨_, rfl⟩
 have hH : HitR k.r 4607182418800017408 [p, q] ({ o with t := { o.t with x := x, y := y } }, 0) o3 := by cases hh with | cons h1 _ => exact h1
 obtain ⟨t, g1, g2, g3, g4, g5, g6⟩ := hH
 rw [if_pos (by show (0 : Int) <= 0; decide)] at g1
 obtain ⟨x', y', _, _, rfl⟩ := g1
 have hw := h.news
 obtain ⟨u, hu, hc⟩ := NewsTo.succ_inv (j := 1) hw
 obtain ⟨u0, hu0, hc0⟩ := NewsTo.succ_inv (j := 0) hu
 obtain rfl := NewsTo.zero_inv hu0
 have hid : o3.t.id = 1 := by rw [g4]; exact ho.1
 have htold : ([({ o with t := { o.t with x := x, y := y } } : On)].zip [(0 : Int)]).foldl hitT (List.replicate [pA, pB].length 0) = [1, 0] := by
  show hitT [0, 0] ({ o with t := { o.t with x := x, y := y } }, 0) = [1, 0]
  show [o.t.id, 0] = [1, 0]
  rw [ho.1]
 rw [htold] at hc0
 rcases hc0 with ⟨_, rfl⟩ | ⟨hc0, _⟩
 ·
  rcases hc with ⟨hc, _⟩ | ⟨_, o4, h1, h2, h3, h4, h5⟩
  ·
   exfalso
   rcases hc with hc | hc
   ·
    exact absurd hc (by show ¬ (0 : Int) < 0; decide)
   exact absurd hc (by show ¬ 256 <= 1; decide)
  rw [hr, hn] at h2
  injection h5 with i1 i2 i3 i4
  refine ⟨by rw [i4, hn]; rfl, by rw [i3, hn]; rfl, o3, o4, by rw [i1]; rfl, hid, by rw [h2]; rfl, ?_, by rw [h2, kind_new]; decide +kernel, ?_, ?_, ?_⟩
  ·
   rw [g4, hr]
   show kindF rW o.t.kind (or16 (shl16 o.t.seen)) (o.t.steps + 1) = 1
   rw [ho.2.1, ho.2.2.1, ho.2.2.2.1]; decide +kernel
  ·
   rw [g4]
   show o.t.steps + 1 = 2
   rw [ho.2.2.2.1]; rfl
  ·
   rw [g5, List.length_append, hl.1]; rfl
  rw [g6, List.length_append, hl.2]; rfl
 exfalso
 exact hc0 (.inl (by show (0 : Int) < 1; decide))
end Go.Proofs.YtffobakdngbadaaGreat
namespace Go.Proofs.YtffobakdngbadaaGreat
open Go Go.Lk
theorem On.ok.mono {w0 w : World} {o : On} (h : o.ok w) (hle : w0.heap.size <= w.heap.size) : o.ok w0 := ⟨Nat.le_trans hle h.p, h.bx.mono hle, h.by'.mono hle, h.seen⟩
theorem Bok.ok.mono {w0 w : World} {n : Nat} {k : Bok} (h : k.ok w n) (hle : w0.heap.size <= w.heap.size) : k.ok w0 n :=
 ⟨Nat.le_trans hle h.B, Nat.le_trans hle h.mb, fun o ho => (h.each o ho).mono hle, h.ents, h.low, h.next1, h.next2, h.hist, h.rul, h.cnt⟩
theorem pcs_sl {w : World} {b : Nat} {l : List Plt} (h : w.heap[b]? = some (Row 42 (pcs l))) : SlC w (some ⟨b, 0, none⟩) (pcs l) := SlC.of_row (sp := []) (by rw [List.append_nil]; exact h)
theorem pltA : PltLt pA := ⟨by decide, by decide⟩
theorem pltB : PltLt pB := ⟨by decide, by decide⟩
theorem new_rW : newE rW = 0 := by decide +kernel
theorem ref_1 : refE ninf 0 [pA] = 0 := by decide +kernel
theorem ref_2 : refE 0 4607182418800017408 [pA, pB] = 0 := by decide +kernel
set_option maxHeartbeats 1000000 in
theorem wakes_ok (w0 : World) : Ret Tryz.prog 6 [] w0 fun v w' => v = .bool true /\ HS w0 w' [] := by
 refine Ret.start fun w hs => ?_
 refine calls_of_W Tryz.func6 rfl rfl rfl (Wq (La rfl (Rq (Lc f_10 rfl (rule_ok w) ?_))))
 rintro _ w1 ⟨rfl, hs'⟩
 replace hs := hs.nil hs'
 clear hs'
 refine Lc f_7 rfl (new_ok rW (by decide) (by decide) (by decide) w1) ?_
 rintro _ w2 (⟨hne, _⟩ | ⟨_, B, mb, rfl, hs', hk'⟩)
 ·
  exact absurd new_rW hne
 have hk0 := hk'.mono hs.size
 replace hs : HS w0 w2 (bok0 rW B mb).bks := by have := hs.call hs' hk'.own; simpa using this
 clear hs' hk'
 refine Lm rfl (Lx rfl rfl (Lx rfl rfl (La rfl (La rfl (Rqq (Lm rfl (Cneq rfl (dfalse (by omega)) ?_)))))))
 refine Lm rfl (Gm rfl rfl (Rw rfl (L_ptrNil rfl u_28 rfl rfl (Lpf rfl (Rt (Wf rfl (Ws (Wq (Lm rfl (L_build rfl rfl (Pl.builtN Tryz.pl42 rfl) (L_buildSlice rfl hs u_36 i_42 rfl (by decide) rfl (by simp [Value.cells]) ?_)))))))))))
 intro b26 w hb26 hnb26 hs
 simp only [List.flatMap_cons, List.flatMap_nil, cells_int, cells_float, cells_complex, cells_bool, cells_string, cells_pointer, cells_slice, cells_map, cells_agg, List.append_nil, List.set_cons_succ, List.set_cons_zero, List.cons_append, List.nil_append] at hs
 obtain ⟨k0, hk0e⟩ : ∃ k0, k0 = bok0 rW B mb := ⟨_, rfl⟩
 rw [<- hk0e] at hk0
 replace hs : HS w0 w (k0.bks ++ [(b26, Row 42 (pcs [pA]))]) := by rw [hk0e]; exact hs
 have hI1 : StepIn w0 0 1 k0 0 (some ⟨b26, 0, none⟩) [pA] [(b26, Row 42 (pcs [pA]))] :=
  ⟨hk0, by decide, Own.cons hb26 Own.nil, fun w' L' h1 _ h2 => pcs_sl (h1.has _ (h2 _ (List.mem_singleton.2 rfl))), rfl, by decide, fun i hi => (by match i, hi with | 0, _ => exact pltA), by decide, by rw [hk0e]; show (1 : Int) + 256 <= 1000000; decide⟩
 have hS1 := step_ok w0 w 0 1 k0 0 (some ⟨b26, 0, none⟩) 1 [pA] _ hs hI1
 rw [show k0.B = B by rw [hk0e]] at hS1
 refine Lc f_13 rfl (hS1) ?_
 rintro _ w1 (⟨hne, _⟩ | ⟨_, k1, v1, M1, told1, os2, ps, ms, os3, rfl, hs1, hb1, _, hk1, hst⟩)
 ·
  exact absurd (by rw [hk0e]; exact ref_1) hne
 have hk1B : k1.B = B := by rw [hst.sameB, hk0e]
 obtain ⟨rfl, hr1, hl1, hn1, o, ho1, hoi, hok, hose, host, hola, hox, hoy, hoxs, hoys⟩ := wake1 (by rw [hk0e]) (by rw [hk0e]) (by rw [hk0e]) hst
 clear hs hst hS1 hI1
 have hs : HS w0 w1 (k1.bks ++ ([(b26, Row 42 (pcs [pA]))] ++ M1)) := by rw [<- List.append_assoc]; exact hs1
 clear hs1
 have hM1 := hb1.own
 obtain ⟨a1, c1, rfl, _⟩ := hb1.slice
 obtain ⟨L1, hL1⟩ : ∃ L1, L1 = [(b26, Row 42 (pcs [pA]))] ++ M1 := ⟨_, rfl⟩
 have hL1o : Own w0 L1 := by rw [hL1]; exact (Own.cons hb26 Own.nil).app hM1
 have hM1L : ∀ p ∈ M1, p ∈ L1 := fun p hp => by rw [hL1]; exact List.mem_append_right _ hp
 rw [<- hL1] at hs
 refine Lm rfl (Lx rfl rfl (Lx rfl rfl (La rfl (La rfl (Rq (Lm rfl (L_build rfl rfl (Pl.builtN Tryz.pl42 rfl) (L_build rfl rfl (Pl.builtN Tryz.pl42 rfl) (L_buildSlice rfl hs u_36 i_42 rfl (by decide) rfl (by simp [Value.cells]) ?_)))))))))
 intro b34 w hb34 hnb34 hs
 simp only [List.flatMap_cons, List.flatMap_nil, cells_int, cells_float, cells_complex, cells_bool, cells_string, cells_pointer, cells_slice, cells_map, cells_agg, List.append_nil, List.set_cons_succ, List.set_cons_zero, List.cons_append, List.nil_append] at hs
 replace hs : HS w0 w (k1.bks ++ (L1 ++ [(b34, Row 42 (pcs [pA, pB]))])) := by rw [<- List.append_assoc]; exact hs
 have hI2 : StepIn w0 1 2 k1 4607182418800017408 (some ⟨b34, 0, none⟩) [pA, pB] (L1 ++ [(b34, Row 42 (pcs [pA, pB]))]) :=
  ⟨hk1, by decide, hL1o.app (Own.cons hb34 Own.nil), fun w' L' h1 _ h2 => pcs_sl (h1.has _ (h2 _ (List.mem_append_right _ (List.mem_singleton.2 rfl)))), rfl, by decide, fun i hi => (by match i, hi with | 0, _ => exact pltA | 1, _ => exact pltB), by decide, by rw [hn1]; decide⟩
 have hS2 := step_ok w0 w 1 2 k1 4607182418800017408 (some ⟨b34, 0, none⟩) 2 [pA, pB] _ hs hI2
 rw [hk1B] at hS2
 refine Lc f_13 rfl (hS2) ?_
 rintro _ w1 (⟨hne, _⟩ | ⟨_, k2, v2, M2, told2, os2', ps', ms', os3', rfl, hs1, hb2, _, hk2, hst⟩)
 ·
  exact absurd (by rw [hl1]; exact ref_2) hne
 have hk2B : k2.B = B := by rw [hst.sameB, hk1B]
 obtain ⟨rfl, hn2, o1, o2, ho2, h1i, h2i, h1k, h2k, h1s, h1x, h1y⟩ := wake2 ho1 hr1 hn1 ⟨hoi, hok, hose, host, hola⟩ hox hoy ⟨hoxs, hoys⟩ hst
 clear hs hst hS2 hI2
 obtain ⟨L2, hL2⟩ : ∃ L2, L2 = (L1 ++ [(b34, Row 42 (pcs [pA, pB]))]) ++ M2 := ⟨_, rfl⟩
 have hM2 := hb2.own
 have hL2o : Own w0 L2 := by rw [hL2]; exact (hL1o.app (Own.cons hb34 Own.nil)).app hM2
 have hM1L2 : ∀ p ∈ M1, p ∈ L2 := fun p hp => by rw [hL2]; exact List.mem_append_left _ (List.mem_append_left _ (hM1L p hp))
 have hM2L2 : ∀ p ∈ M2, p ∈ L2 := fun p hp => by rw [hL2]; exact List.mem_append_right _ hp
 have hs : HS w0 w1 (k2.bks ++ L2) := by rw [hL2, <- List.append_assoc]; exact hs1
 clear hs1
 obtain ⟨a2, c2, rfl, _⟩ := hb2.slice
 refine Lm rfl (Lx rfl rfl (Lx rfl rfl (La rfl (La rfl (Rq (Lm rfl ?_))))))
 have hT := tracks_ok w0 w1 2 k2 L2 hs hk2 hL2o
 rw [hk2B, ho2] at hT
 refine Lc f_12 rfl (hT) ?_
 rintro _ w1 ⟨M3, hs1, hb3⟩
 clear hs hT
 rw [show ([o1, o2] : List On).length = 2 from rfl] at hb3
 obtain ⟨a3, c3, rfl, _⟩ := hb3.slice
 obtain ⟨L3, hL3⟩ : ∃ L3, L3 = L2 ++ M3 := ⟨_, rfl⟩
 have hL3o : Own w0 L3 := by rw [hL3]; exact hL2o.app hb3.own
 have hs : HS w0 w1 (k2.bks ++ L3) := by rw [hL3, <- List.append_assoc]; exact hs1
 clear hs1
 have hM3 : ∀ p ∈ M3, p ∈ L3 := fun p hp => by rw [hL3]; exact List.mem_append_right _ hp
 have hL23 : ∀ p ∈ L2, p ∈ L3 := fun p hp => by rw [hL3]; exact List.mem_append_left _ hp
 have hq1 : SlC w1 a1 (il [1]) := Bl.slcM hb1 hs (fun p hp => List.mem_append_right _ (hL23 _ (hM1L2 p hp)))
 have hq2 : SlC w1 a2 (il [1, 2]) := Bl.slcM hb2 hs (fun p hp => List.mem_append_right _ (hL23 _ (hM2L2 p hp)))
 refine La rfl (Rqq (Lm rfl (Cneq rfl (dfalse (by omega)) ?_)))
 refine Lm rfl (Gm rfl rfl (Rw rfl (Cneq rfl (dfalse (by omega)) ?_)))
 refine Lpf rfl (Lm rfl (Gm rfl rfl (Rw rfl (Le u_52 rfl (Rw rfl (Cneq rfl (dfalse (by omega)) ?_))))))
 refine Lpf rfl (Lm rfl (Gm rfl rfl (Rw rfl (Li u_52 i_3 rfl natc_0 (by omega) (hq1.ao (by decide)) ?_))))
 refine Rw rfl (Ll o_3 rfl (by exact hq1.2 0 _ rfl) ?_)
 refine Rw rfl (Cneq rfl (dfalse (by omega)) ?_)
 refine Lpf rfl (Lm rfl (Gm rfl rfl (Rw rfl (Le u_52 rfl (Rw rfl (Cneq rfl (dfalse (by omega)) ?_))))))
 refine Lpf rfl (Lm rfl (Gm rfl rfl (Rw rfl (Li u_52 i_3 rfl natc_0 (by omega) (hq2.ao (by decide)) ?_))))
 refine Rw rfl (Ll o_3 rfl (by exact hq2.2 0 _ rfl) ?_)
 refine Rw rfl (Cneq rfl (dfalse (by omega)) ?_)
 refine Lpf rfl (Lm rfl (Gm rfl rfl (Rw rfl (Li u_52 i_3 rfl natc_1 (by omega) (hq2.ao (by decide)) ?_))))
 refine Rw rfl (Ll o_3 rfl (by exact hq2.2 1 _ rfl) ?_)
 refine Rw rfl (Cneq rfl (dfalse (by omega)) ?_)
 refine Lpf rfl (Lm rfl (Gm rfl rfl (Rw rfl (Le u_44 rfl (Rw rfl (Cneq rfl (dfalse (by omega)) ?_))))))
 refine Lpf rfl (Rt (Wf rfl ?_))
 have hmem1 : o1 ∈ k2.os := by rw [ho2]; simp
 refine Ws (Wq (Lm rfl ?_))
 have hP := past_some w0 w1 2 k2 L3 o1 hs hk2 hmem1 hL3o (by decide)
 rw [hk2B, h1i] at hP
 refine Lc f_14 rfl (hP) ?_
 rintro _ w1 ⟨vx, Mx, vy, My, rfl, hs1, hbx, hby⟩
 clear hs hP
 rw [h1x] at hbx
 rw [h1y] at hby
 obtain ⟨ax, cx, rfl, _⟩ := hbx.slice
 obtain ⟨ay, cy, rfl, _⟩ := hby.slice
 obtain ⟨L4, hL4⟩ : ∃ L4, L4 = L3 ++ (Mx ++ My) := ⟨_, rfl⟩
 have hL4o : Own w0 L4 := by rw [hL4]; exact hL3o.app (hbx.own.app hby.own)
 have hs : HS w0 w1 (k2.bks ++ L4) := by rw [hL4, <- List.append_assoc]; exact hs1
 clear hs1
 have hM3' : ∀ p ∈ M3, p ∈ L4 := fun p hp => by rw [hL4]; exact List.mem_append_left _ (hM3 p hp)
 have hno : ∀ u ∈ k2.os, u.t.id ≠ 9 := by
  rw [ho2]
  intro u hu
  simp only [List.mem_cons, List.not_mem_nil, or_false] at hu
  rcases hu with rfl | rfl <;> omega
 refine Lm rfl (Lx rfl rfl (Lx rfl rfl (La rfl (La rfl (Rq (Lm rfl ?_))))))
 have hG := get_none w0 w1 2 k2 L4 9 hs hk2 hno
 rw [hk2B] at hG
 refine Lc f_15 rfl (hG) ?_
 rintro _ w1 ⟨rfl, hs1⟩
 clear hs hG
 have hs := hs1
 clear hs1
 refine Lm rfl (Lx rfl rfl (Lx rfl rfl ?_))
 refine L_alloc rfl hs i_51 ?_; intro b10 w hb10 _ hs; replace hs := HS.push (L := k2.bks ++ L4) hs
 refine L_storeA hs (i := 0) rfl i_51 rfl rfl (by rfl) (by simp [Trk.cells]) (by exact Trk.one trk0) ?_
 intro w hs
 dsimp only [sS, sZ, sA, sN] at hs
 refine La rfl (Rt (Wsq ?_))
 replace hs : HS w0 w (k2.bks ++ L4) := HS.pop hs hb10
 have hq3 : SlC w a3 (tcs [o1.t, o2.t]) := Bl.slcM hb3 hs (fun p hp => List.mem_append_right _ (hM3' p hp))
 have c00 : w.cell? ((aD a3).add 0) = some (.int .i64 o1.t.id) := hq3.2 0 _ rfl
 have c01 : w.cell? ((aD a3).add 1) = some (.int .i8 o1.t.kind) := hq3.2 1 _ rfl
 have c11 : w.cell? ((aD a3).add 16) = some (.int .i8 o2.t.kind) := hq3.2 16 _ rfl
 have c05 : w.cell? ((aD a3).add 13) = some (.int .i64 o1.t.steps) := hq3.2 13 _ rfl
 refine Wr (Lm rfl ?_)
 refine LiN u_44 i_51 rfl natc_0 (by omega) (hq3.ao (by rw [tcs_len]; show 0 < 2 * 15; decide)) ?_
 refine Lf 0 u_51 rfl i_3 ?_
 refine Ll o_3 rfl (by (rw [add_add]; exact c00)) ?_
 refine Ceql rfl (dtrue (by omega)) ?_
 refine Lm rfl (Gm rfl rfl (Rw rfl ?_))
 refine LiN u_44 i_51 rfl natc_0 (by omega) (hq3.ao (by rw [tcs_len]; show 0 < 2 * 15; decide)) ?_
 refine Rw rfl (Lf 1 u_51 rfl i_46 (Rw rfl ?_))
 refine Ll o_46 rfl (by (rw [add_add]; exact c01)) ?_
 refine Rw rfl (Ceql rfl (dtrue (by omega)) ?_)
 refine Lpt rfl (Lm rfl (Gm rfl rfl (Rw rfl ?_)))
 refine LiN u_44 i_51 rfl natc_1 (by omega) (hq3.ao (by rw [tcs_len]; show 0 < 2 * 15; decide)) ?_
 refine Rw rfl (Lf 1 u_51 rfl i_46 (Rw rfl ?_))
 refine Ll o_46 rfl (by (rw [add_add]; exact c11)) ?_
 refine Rw rfl (Ceql rfl (dtrue (by omega)) ?_)
 refine Lpt rfl (Lm rfl (Gm rfl rfl (Rw rfl ?_)))
 refine LiN u_44 i_51 rfl natc_0 (by omega) (hq3.ao (by rw [tcs_len]; show 0 < 2 * 15; decide)) ?_
 refine Rw rfl (Lf 13 u_51 rfl i_3 (Rw rfl ?_))
 refine Ll o_3 rfl (by (rw [add_add]; exact c05)) ?_
 refine Rw rfl (Ceql rfl (dtrue (by omega)) ?_)
 refine Lpt rfl (Lm rfl (Gm rfl rfl (Rw rfl (Le u_55 rfl (Rw rfl (Ceql rfl (dtrue (by omega)) ?_))))))
 refine Lpt rfl (Lm rfl (Gm rfl rfl (Rw rfl (Le u_55 rfl (Rw rfl (Ceql rfl (dtrue (by omega)) ?_))))))
 refine Lpt rfl (Lm rfl (Gm rfl rfl (Rw rfl (Lnot rfl (Lpt rfl (Lm rfl (Gm rfl rfl ?_)))))))
 have hD := drop_none w0 w 2 k2 L4 9 hs hk2 hno
 rw [hk2B] at hD
 refine Rw rfl (Lc f_16 rfl (hD) ?_)
 rintro _ w1 ⟨rfl, hs1⟩
 refine Rw rfl (Ceql rfl (dtrue (by omega)) ?_)
 refine Lpt rfl (La rfl (Rt (Wret (Ex_done1 rfl rfl ?_))))
 exact ⟨_, rfl, rfl, hs1.forget (hk2.own.app hL4o)⟩
end Go.Proofs.YtffobakdngbadaaGreat
namespace Go.Proofs.YtffobakdngbadaaGreat
open Go Go.Lk
structure Mv where
 q : Int
 time : Nat
 a : Option Addr
 c : Nat
 ps : List Plt
 id : Int
def mv0 : Mv := ⟨0, 0, none, 0, [], 0⟩
def Mv.cells (m : Mv) : List Value := [.int .i64 m.q, .float .f64 m.time, .slice m.a m.ps.length m.c, .int .i64 m.id]
def mcs (l : List Mv) : List Value := l.flatMap Mv.cells
theorem mcs_len : ∀ l : List Mv, (mcs l).length = l.length * 4
 | [] => rfl
 | m :: l => by
  show (m.cells ++ mcs l).length = _
  rw [List.length_append, mcs_len l, List.length_cons, show m.cells.length = 4 from rfl]; omega
theorem mcs_get : ∀ {ts : List Mv} {i q : Nat} {v : Value}, i < ts.length -> (ts.getD i mv0).cells[q]? = some v -> (mcs ts)[i * 4 + q]? = some v
 | [], _, _, _, hi, _ => by simp at hi
 | t :: ts, 0, q, v, _, h => by
  have hq := (List.getElem?_eq_some_iff.1 h).1
  show (t.cells ++ mcs ts)[0 * 4 + q]? = _
  rw [show 0 * 4 + q = q by omega, List.getElem?_append_left (by simpa using hq)]
  simpa using h
 | t :: ts, i + 1, q, v, hi, h => by
  show (t.cells ++ mcs ts)[(i + 1) * 4 + q]? = _
  have hl : t.cells.length = 4 := rfl
  rw [List.getElem?_append_right (by omega), show (i + 1) * 4 + q - t.cells.length = i * 4 + q by omega]
  exact mcs_get (by simpa using hi) h
structure MvOk (w : World) (m : Mv) : Prop where
 time : m.time < 18446744073709551616
 pl : SlC w m.a (pcs m.ps)
 len : m.ps.length <= 1000000000000000
 lt : ∀ i, i < m.ps.length -> PltLt (m.ps.getD i plt0)
theorem great_ok (a : Option Addr) (n c : Nat) (l : List Mv) (w0 : World) (ha : SlC w0 a (mcs l)) (hn : l.length = n) (hn2 : n <= 1000000000000000) (hm : ∀ i, i < n -> (l.getD i mv0).ps.length <= 1000000000000000) :
  Ret Tryz.prog 5 [.slice a n c] w0 fun v w' => ∃ g, v = .bool g /\ HS w0 w' [] /\ (g = false -> n <= 300 /\ ∀ i, i < n -> (l.getD i mv0).ps.length <= 3000) := by
 refine Ret.start fun w hs => ?_
 refine calls_of_W Tryz.func5 rfl rfl rfl (Wq (La rfl (Rq (La rfl (Rqq (La rfl ?_))))))
 refine Rt (W_block (W_loop3 (fun (s : Nat) (i : Nat) (w : World) => [(0, .slice a n c), (2, .bool false), (3, .int .i64 s), (4, .int .i64 i)]) (fun s i w => w) (fun s i w => (i <= n) /\ (s <= 1000000000003000) /\ (∀ j, j < i -> (l.getD j mv0).ps.length <= s) /\ (HS w0 w [])) (fun s i w => n - i) (0) (0) (_) (is := [0, 2, 3, 4]) rfl rfl ?_ ?_))
 ·
  exact ⟨Nat.zero_le _, Nat.zero_le _, fun j hj => absurd hj (Nat.not_lt_zero _), hs⟩
 clear hs
 intro s i w hI
 show W _ _ _ _ [(0, .slice a n c), (2, .bool false), (3, .int .i64 s), (4, .int .i64 i)] w
 obtain ⟨hi, hs2, hq, hs⟩ := hI
 by_cases hlt : i < n
 ·
  by_cases h3 : i <= 300
  ·
   by_cases h4 : s <= 3000
   ·
    have ha' := ha.old hs Own.nil
    have hml := hm i hlt
    refine Wqq (Lmm rfl rfl (Le u_25 rfl (Clss rfl (dtrue (by omega)) ?_)))
    refine Lm rfl (Gm rfl rfl (Rw rfl (Cleq rfl (dtrue (by omega)) ?_)))
    refine Lpt rfl (Lm rfl (Gm rfl rfl (Rw rfl (Cleq rfl (dtrue (by omega)) ?_))))
    refine Lpt rfl (Rt (Wt rfl (Ws (Wsq (W_block (Wr (Lmm rfl rfl (Lm rfl ?_))))))))
    refine LiN u_25 i_38 rfl (natc_k _) (by omega) (ha'.ao (by rw [mcs_len]; omega)) ?_
    refine Lf 2 u_38 rfl i_36 ?_
    refine Ll o_36 rfl (by (rw [add_add]; exact ha'.2 _ _ (mcs_get (ts := l) (i := i) (q := 2) (by omega) rfl))) ?_
    refine Le u_36 rfl (Cadd rfl (wrp_i64 (by omega)) ?_)
    refine La rfl (Rnl (Nx_block (Nt (Wr (Lm rfl (Cadd rfl (wrp_i64 (by omega)) ?_))))))
    refine La rfl (Rnl (Nq (s + (l.getD i mv0).ps.length, i + 1, _) [0, 2, 3, 4] rfl ?_ ?_))
    ·
     dsimp only
     refine ⟨by omega, by omega, fun j hj => ?_, hs⟩
     by_cases hji : j = i
     ·
      rw [hji]; omega
     have := hq j (by omega); omega
    show n - (i + 1) < n - i; omega
   refine Wqq (Lmm rfl rfl (Le u_25 rfl (Clss rfl (dtrue (by omega)) ?_)))
   refine Lm rfl (Gm rfl rfl (Rw rfl (Cleq rfl (dtrue (by omega)) ?_)))
   refine Lpt rfl (Lm rfl (Gm rfl rfl (Rw rfl (Cleq rfl (dfalse (by omega)) ?_))))
   refine Lpt rfl (Rt (Wf rfl (W_exit' (Ex_then_exit (Ex_loop_exit (Ex_block_hit (Nt (Wq (Lm rfl (Cgtr rfl (dtrue (by omega)) ?_))))))))))
   refine Lm rfl (Rs rfl (Rs rfl (Rs rfl (Lpt rfl (La rfl (Rt (Wret (Ex_done1 rfl rfl ?_))))))))
   exact ⟨_, rfl, true, rfl, hs, fun h => by cases h⟩
  refine Wqq (Lmm rfl rfl (Le u_25 rfl (Clss rfl (dtrue (by omega)) ?_)))
  refine Lm rfl (Gm rfl rfl (Rw rfl (Cleq rfl (dfalse (by omega)) ?_)))
  refine Lpt rfl (Lm rfl (Rs rfl (Rs rfl (Lpf rfl (Rt (Wf rfl ?_))))))
  by_cases h4 : s <= 3000
  ·
   refine W_exit' (Ex_then_exit (Ex_loop_exit (Ex_block_hit (Nt (Wq (Lm rfl (Cgtr rfl (dfalse (by omega)) ?_)))))))
   refine Lm rfl (Gm rfl rfl (Rw rfl (Le u_25 rfl (Rw rfl (Cgtr rfl (dtrue (by omega)) ?_)))))
   refine Lpf rfl (La rfl (Rt (Wret (Ex_done1 rfl rfl ?_))))
   exact ⟨_, rfl, true, rfl, hs, fun h => by cases h⟩
  refine W_exit' (Ex_then_exit (Ex_loop_exit (Ex_block_hit (Nt (Wq (Lm rfl (Cgtr rfl (dtrue (by omega)) ?_)))))))
  refine Lm rfl (Rs rfl (Rs rfl (Rs rfl (Lpt rfl (La rfl (Rt (Wret (Ex_done1 rfl rfl ?_))))))))
  exact ⟨_, rfl, true, rfl, hs, fun h => by cases h⟩
 obtain rfl : n = i := by omega
 refine Wqq (Lmm rfl rfl (Le u_25 rfl (Clss rfl (dfalse (by omega)) ?_)))
 refine Lm rfl (Rs rfl (Rs rfl (Lpf rfl (Lm rfl (Rs rfl (Rs rfl (Lpf rfl (Rt (Wf rfl ?_)))))))))
 by_cases h4 : s <= 3000
 ·
  by_cases h3 : n <= 300
  ·
   refine W_exit' (Ex_then_exit (Ex_loop_exit (Ex_block_hit (Nt (Wq (Lm rfl (Cgtr rfl (dfalse (by omega)) ?_)))))))
   refine Lm rfl (Gm rfl rfl (Rw rfl (Le u_25 rfl (Rw rfl (Cgtr rfl (dfalse (by omega)) ?_)))))
   refine Lpf rfl (La rfl (Rt (Wret (Ex_done1 rfl rfl ?_))))
   exact ⟨_, rfl, false, rfl, hs, fun _ => ⟨h3, fun j hj => Nat.le_trans (hq j hj) h4⟩⟩
  refine W_exit' (Ex_then_exit (Ex_loop_exit (Ex_block_hit (Nt (Wq (Lm rfl (Cgtr rfl (dfalse (by omega)) ?_)))))))
  refine Lm rfl (Gm rfl rfl (Rw rfl (Le u_25 rfl (Rw rfl (Cgtr rfl (dtrue (by omega)) ?_)))))
  refine Lpf rfl (La rfl (Rt (Wret (Ex_done1 rfl rfl ?_))))
  exact ⟨_, rfl, true, rfl, hs, fun h => by cases h⟩
 refine W_exit' (Ex_then_exit (Ex_loop_exit (Ex_block_hit (Nt (Wq (Lm rfl (Cgtr rfl (dtrue (by omega)) ?_)))))))
 refine Lm rfl (Rs rfl (Rs rfl (Rs rfl (Lpt rfl (La rfl (Rt (Wret (Ex_done1 rfl rfl ?_))))))))
 exact ⟨_, rfl, true, rfl, hs, fun h => by cases h⟩
end Go.Proofs.YtffobakdngbadaaGreat
namespace Go.Proofs.YtffobakdngbadaaGreat
open Go Go.Lk Go.Pr
theorem NewsTo.facts {r : Rul} {time : Nat} {ps : List Pq} {s u : NS} {j : Nat} (h : NewsTo r time ps s j u) (h0 : 1 <= s.next) :
  u.told.length = s.told.length /\ s.next <= u.next /\ u.next <= s.next + j /\ (∀ q, u.told.getD q 0 = s.told.getD q 0 ∨ (¬ 0 < s.told.getD q 0 /\ s.next <= u.told.getD q 0)) /\ u.os.length <= s.os.length + j := by
 induction h with
 | zero => exact ⟨rfl, Int.le_refl _, by omega, fun q => .inl rfl, by omega⟩
 | old h1 _ ih =>
  obtain ⟨a, b, c, d, e⟩ := ih
  exact ⟨a, b, by omega, d, by omega⟩
 | @new j u o h1 h2 _ _ _ _ ih =>
  obtain ⟨a, b, c, d, e⟩ := ih
  refine ⟨by rw [List.length_set, a], by show s.next <= u.next + 1; omega, by show u.next + 1 <= s.next + ((j + 1 : Nat) : Int); omega, fun q => ?_, by rw [List.length_append, List.length_singleton]; omega⟩
  show (u.told.set j u.next).getD q 0 = _ ∨ (_ /\ s.next <= (u.told.set j u.next).getD q 0)
  by_cases hq : j = q
  ·
   subst hq
   by_cases hl : j < u.told.length
   ·
    have e1 : (u.told.set j u.next).getD j 0 = u.next := by rw [List.getD_eq_getElem?_getD, List.getElem?_set_self hl]; rfl
    rw [e1]
    right
    refine ⟨fun h => h2 (.inl ?_), b⟩
    rcases d j with d | d
    ·
     rw [d]; exact h
    exact absurd h d.1
   rw [List.set_eq_of_length_le (by omega)]; exact d j
  have e1 : (u.told.set j u.next).getD q 0 = u.told.getD q 0 := by rw [List.getD_eq_getElem?_getD, List.getElem?_set_ne hq, List.getD_eq_getElem?_getD]
  rw [e1]; exact d q
theorem MostAns.inj {rows : List (List Int)} {ms : List Int} {c t e : Int} (h : MostAns rows ms c t e) {i j : Nat} (hi : i < ms.length) (hj : j < ms.length) (h0 : 0 <= ms.getD i 0) (he : ms.getD i 0 = ms.getD j 0) : i = j := by
 rcases h with ⟨_, rfl, _⟩ | ⟨_, _, f, hf, rfl, _⟩
 ·
  simp at hi
 rw [List.length_map, List.length_range] at hi hj
 have e1 : ∀ q, q < rows.length -> ((List.range rows.length).map (fun i => if f i < wid rows 0 then (f i : Int) else -1)).getD q 0 = if f q < wid rows 0 then (f q : Int) else -1 := fun q hq => by
  rw [List.getD_eq_getElem?_getD, List.getElem?_map, List.getElem?_range hq]; rfl
 rw [e1 i hi, e1 j hj] at he
 rw [e1 i hi] at h0
 have hfi : f i = f j := by
  split at he
  ·
   split at he
   ·
    omega
   omega
  next hh => rw [if_neg hh] at h0; omega
 exact hf.bij.inj _ _ (by omega) (by omega) hfi
theorem ref_len {last time : Nat} {l : List Plt} (h : refE last time l = 0) : l.length <= 256 := by
 apply Classical.byContradiction
 intro hh
 unfold refE at h
 rw [if_pos (by omega)] at h
 cases h
structure Least (k : Bok) (told : List Int) (os2 : List On) (ms : List Int) : Prop where
 mate : ∀ i, i < os2.length -> 0 <= ms.getD i 0 -> told.getD (ms.getD i 0).toNat 0 = (os2.getD i on0).t.id
 told : ∀ i q, i < os2.length -> q < told.length -> told.getD q 0 = (os2.getD i on0).t.id -> ms.getD i 0 = q
end Go.Proofs.YtffobakdngbadaaGreat
namespace Go.Proofs.YtffobakdngbadaaGreat
open Go Go.Lk
theorem gtZ_fv {x : Nat} {v : Int} (h : FV x v) : gtZ x = decide (0 < v) := h.gtZ'
theorem above_fv {x : Nat} {v : Int} (h : FV x v) : FV (aboveF x) (max v 0) := by
 unfold aboveF
 rw [gtZ_fv h]
 by_cases h0 : 0 < v
 ·
  rw [decide_eq_true h0, if_pos rfl, show max v 0 = v by omega]; exact h
 rw [decide_eq_false h0, if_neg (by decide), show max v 0 = 0 by omega]; exact fv_0
theorem pow_le {a b : Nat} (h : a <= b) : 2 ^ a <= 2 ^ b := Nat.pow_le_pow_right (by decide) h
theorem small_e {c e g : Nat} (hc : c = 1074) (he : e = 2000) (h : g <= 900) : 2 ^ g * 2 ^ c <= 2 ^ e := by
 rw [<- Nat.pow_add]
 exact pow_le (by omega)
theorem pow_two {a b : Nat} (h : b = a + 1) : 2 ^ a + 2 ^ a <= 2 ^ b := by rw [h, Nat.pow_succ]; omega
theorem nat_mul {u : Int} (h : 0 <= u) (k : Nat) : u * ((k : Nat) : Int) = ((u.natAbs * k : Nat) : Int) := by
 rw [Int.natCast_mul, show ((u.natAbs : Nat) : Int) = u by omega]
theorem seen_pqr {c E G R : Nat} (hc : c = 1074) {s : Stt} {x n : Nat} {N p r : Int} (hE : 20 <= E) (hE2 : E <= 480) (hG : G <= 800) (hR : R <= 900) (hp : FV s.p p) (p0 : 0 <= p) (p1 : p <= ((2 ^ G * 2 ^ c : Nat) : Int)) (hq : NM c s.q (2 ^ E)) (hr : FV s.r r) (r0 : 0 <= r) (r1 : r <= ((2 ^ R * 2 ^ c : Nat) : Int))
  (hn : FV n N) (N0 : ((2 ^ c : Nat) : Int) <= N * 1048576) (N1 : N <= ((1048576 * 2 ^ c : Nat) : Int)) :
  gtZ (farW s n) = true /\ (∃ u, FV (farW s n) u /\ 0 < u /\ p <= u /\ N <= u /\ u <= ((2 ^ (G + 21) * 2 ^ c : Nat) : Int)) /\ (∃ K, FV (seenK s n) K /\ 0 <= K /\ K <= ((2 ^ c : Nat) : Int)) /\ NM c (seenH s n) (2 ^ (E + 20)) /\
  (∃ z, FV (seenF s x n).p z /\ 0 <= z /\ z <= N) /\ NM c (seenF s x n).q (2 ^ (E + 1)) /\ (∃ z, FV (seenF s x n).r z /\ 0 <= z /\ z <= r) := by
 have pc := Nat.two_pow_pos c
 have hN : 0 < N := by omega
 obtain ⟨e, he⟩ : ∃ e, e = 2000 := ⟨_, rfl⟩
 have g1 : 2 ^ G <= 2 ^ (G + 20) := pow_le (by omega)
 have g2 : 1048576 <= 2 ^ (G + 20) := by
  have := pow_le (show 20 <= G + 20 by omega)
  omega
 have g3 := pow_two (a := G + 20) (b := G + 21) rfl
 have g4 : 2 ^ G * 2 ^ c + 1048576 * 2 ^ c <= 2 ^ (G + 21) * 2 ^ c := by rw [<- Nat.add_mul]; exact Nat.mul_le_mul_right _ (by omega)
 obtain ⟨u, u1, u2, u3, u4, _⟩ := fv_addN (M := 2 ^ (G + 21)) hc hp hn p0 (by omega) (flt_pow (by omega)) (by omega)
 have u1 : FV (farW s n) u := u1
 have hu : 0 < u := by omega
 have hue : u.natAbs <= 2 ^ e := by
  have := small_e (g := G + 21) hc he (by omega)
  omega
 have hgt : gtZ (farW s n) = true := by rw [gtZ_fv u1, decide_eq_true hu]
 obtain ⟨K, K1, K2, K3, _⟩ := quo_pow c hc (k := 0) (by omega) hp u1 p0 (by rw [show ((2 ^ 0 : Nat) : Int) = 1 from rfl]; omega) hu e he hue
 rw [show 2 ^ 0 * 2 ^ c = 2 ^ c by omega] at K3
 have K1 : FV (seenK s n) K := K1
 obtain ⟨q, q1, q2, q3⟩ := hq
 have hqu : q <= u * ((2 ^ (E + 20) : Nat) : Int) := by
  rw [nat_mul (by omega)]
  have h1 : 2 ^ c <= u.natAbs * 1048576 := by omega
  have h2 := Nat.mul_le_mul_left (2 ^ E) h1
  have h3 : 2 ^ E * (u.natAbs * 1048576) = u.natAbs * 2 ^ (E + 20) := by
   rw [Nat.pow_add 2 E 20, Nat.mul_left_comm]
  omega
 obtain ⟨H, H1, H2, H3, _⟩ := quo_pow c hc (k := E + 20) (by omega) q1 u1 q2 hqu hu e he hue
 have H1 : FV (seenH s n) H := H1
 have hH : NM c (seenH s n) (2 ^ (E + 20)) := ⟨H, H1, H2, H3⟩
 -- the share of the noise
 have hNf : N.natAbs <= rv 9218868437227405311 := by
  have := (flt_pow (e := 20) (by omega)).bound hc
  omega
 obtain ⟨z, Z, z1, z2, z3⟩ := fv_share c hc K1 hn K2 K3 hNf
 have z4 : FV (fop .mul (seenK s n) n) Z := by rw [fop_some' z1]; exact z2
 have zb : 0 <= Z /\ Z <= N := by omega
 have hpF : ∃ y, FV (seenF s x n).p y /\ 0 <= y /\ y <= N := by
  unfold seenF
  rw [if_pos hgt]
  dsimp only
  unfold ltB
  rw [z4.ltt hp]
  by_cases h : Z < p
  ·
   rw [decide_eq_true h, if_pos rfl]; exact ⟨Z, z4, zb⟩
  rw [decide_eq_false h, if_neg (by decide)]; exact ⟨p, hp, p0, by omega⟩
 -- how sure the speed goes with the place
 have hqF : NM c (fop .mul (seenH s n) n) (2 ^ (E + 1)) := by
  obtain ⟨J, hJ⟩ : ∃ J, J = u.natAbs.log2 := ⟨_, rfl⟩
  have j1 : 2 ^ J <= u.natAbs := by rw [hJ]; exact Nat.log2_self_le (by omega)
  have j2 : u.natAbs < 2 ^ (J + 1) := by rw [hJ]; exact Nat.lt_log2_self
  have fin : ∀ k, k <= 1000 -> q <= u * ((2 ^ k : Nat) : Int) -> 2 ^ k * N.natAbs <= 2 ^ (E + 1) * 2 ^ c -> NM c (fop .mul (seenH s n) n) (2 ^ (E + 1)) := fun k hk h1 h2 => by
   obtain ⟨h, a1, a2, a3, _⟩ := quo_pow c hc hk q1 u1 q2 h1 hu e he hue
   have h3 : h.natAbs * N.natAbs <= 2 ^ (E + 1) * 2 ^ c * 2 ^ c := by
    have h4 := Nat.mul_le_mul_right N.natAbs (show h.natAbs <= 2 ^ k * 2 ^ c by omega)
    have h5 := Nat.mul_le_mul_right (2 ^ c) h2
    rw [Nat.mul_right_comm] at h4
    omega
   obtain ⟨y, y1, y2, y3, _⟩ := fv_mulB hc (show FV (seenH s n) h from a1) hn (flt_pow (e := E + 1) (by omega)) h3
   have := y3 a2 (by omega)
   exact ⟨y, y1, this, by omega⟩
  by_cases hJE : J <= E + c
  ·
   have hJc : c <= J + 21 := by
    have h1 : 2 ^ c < 2 ^ (J + 21) := by
     have h2 : 2 ^ (J + 21) = 2 ^ (J + 1) * 1048576 := by rw [show J + 21 = J + 1 + 20 by omega, Nat.pow_add 2 (J + 1) 20]
     omega
    have := (Nat.pow_lt_pow_iff_right (by decide)).1 h1
    omega
   refine fin (E + c - J) (by omega) ?_ ?_
   ·
    rw [nat_mul (by omega)]
    have h1 := Nat.mul_le_mul_right (2 ^ (E + c - J)) j1
    rw [<- Nat.pow_add, show J + (E + c - J) = E + c by omega, Nat.pow_add] at h1
    omega
   have h1 := Nat.mul_le_mul_left (2 ^ (E + c - J)) (show N.natAbs <= 2 ^ (J + 1) by omega)
   rw [<- Nat.pow_add, show E + c - J + (J + 1) = E + 1 + c by omega, Nat.pow_add 2 (E + 1)] at h1
   exact h1
  refine fin 0 (by omega) ?_ ?_
  ·
   have h1 := pow_le (show E + c <= J by omega)
   rw [Nat.pow_add] at h1
   rw [show ((2 ^ 0 : Nat) : Int) = 1 from rfl]
   omega
  have h1 := Nat.mul_le_mul_right (2 ^ c) (pow_le (show 20 <= E + 1 by omega))
  omega
 have hrF : ∃ y, FV (seenF s x n).r y /\ 0 <= y /\ y <= r := by
  obtain ⟨v, v1, v2, v3⟩ := hH.mul hc (show NM c s.q (2 ^ E) from ⟨q, q1, q2, q3⟩) (M := 2 ^ (E + 20 + E)) (by rw [<- Nat.pow_add]; exact Nat.le_refl _) (flt_pow (by omega))
  have hb := (flt_pow (e := 990) (by omega)).bound hc
  have b1 := Nat.mul_le_mul_right (2 ^ c) (pow_le (show E + 20 + E <= 990 by omega))
  have b2 := Nat.mul_le_mul_right (2 ^ c) (pow_le (show R <= 990 by omega))
  generalize 2 ^ 990 * 2 ^ c = big at hb b1 b2
  obtain ⟨y, y1, y2⟩ := fv_sub c hc hr v1 (by omega)
  have y3 := rd_mono (c := c) (T := r - v) (S := r) (by omega)
  rw [rd_fv hc hr] at y3
  have y4 : FV (fop .sub s.r (fop .mul (seenH s n) s.q)) (rd c (r - v)) := by rw [fop_some' y1]; exact y2
  unfold seenF
  rw [if_pos hgt]
  exact ⟨_, above_fv y4, by omega, by omega⟩
 refine ⟨hgt, ⟨u, u1, hu, u2, u3, u4⟩, ⟨K, K1, K2, K3⟩, hH, hpF, ?_, hrF⟩
 unfold seenF
 rw [if_pos hgt]
 exact hqF
end Go.Proofs.YtffobakdngbadaaGreat
namespace Go.Proofs.YtffobakdngbadaaGreat
open Go Go.Lk
structure StS (c Q R : Nat) (vx : Int) (s : Stt) : Prop where
 x : FV s.x vx
 v : FV s.v 0
 p : NM c s.p (2 ^ 20)
 q : NM c s.q (2 ^ Q)
 r : NM c s.r (2 ^ R)
theorem fv_add0 {c x y : Nat} {v : Int} (hc : c = 1074) (hx : FV x v) (hy : FV y 0) : FV (fop .add x y) v := by
 obtain ⟨z, z1, z2⟩ := fv_add c hc hx hy (by rw [Int.add_zero]; exact hx.fin)
 rw [Int.add_zero, rd_fv hc hx] at z2
 rw [fop_some' z1]; exact z2
theorem fv_self {c x y : Nat} {v : Int} (hc : c = 1074) (hx : FV x v) (hy : FV y v) : FV (fop .sub x y) 0 := by
 obtain ⟨z, z1, z2⟩ := fv_sub c hc hx hy (by rw [Int.sub_self]; exact Nat.zero_le _)
 rw [Int.sub_self, rd_zero] at z2
 rw [fop_some' z1]; exact z2
theorem fv_mul0 {x y : Nat} {v u : Int} (hx : FV x v) (hy : FV y u) (h : v * u = 0) : FV (fop .mul x y) 0 := by
 obtain ⟨r, hr, h0, _⟩ := fv_mul hx hy
 rw [fop_some' hr]; exact h0 h
structure AhS (c Q R : Nat) (vx : Int) (s : Stt) : Prop where
 x : FV s.x vx
 v : FV s.v 0
 p : NM c s.p (2 ^ (Q + 25))
 q : NM c s.q (2 ^ (Q + 1))
 r : NM c s.r (2 ^ (R + 1))
theorem AhS.seen {c Q R : Nat} {vx N : Int} {s : Stt} {x n : Nat} (hc : c = 1074) (h : AhS c Q R vx s) (hQ : 70 <= Q) (hQ2 : Q <= 479) (hR2 : R <= 800) (hx : FV x vx) (hn : FV n N) (N0 : ((2 ^ c : Nat) : Int) <= N * 1048576) (N1 : N <= ((1048576 * 2 ^ c : Nat) : Int)) :
  StS c (Q + 2) (R + 1) vx (seenF s x n) /\ FV (farF s x n) 0 := by
 obtain ⟨p, p1, p2, p3⟩ := h.p
 obtain ⟨r, r1, r2, r3⟩ := h.r
 obtain ⟨hgt, ⟨u, u1, u2, _, _, u3⟩, ⟨K, K1, K2, K3⟩, hH, ⟨z, z1, z2, z3⟩, hq, ⟨y, y1, y2, y3⟩⟩ := seen_pqr (x := x) (G := Q + 25) (R := R + 1) hc (by omega) (by omega) (by omega) (by omega) p1 p2 p3 h.q r1 r2 r3 hn N0 N1
 have hy0 : FV (seenY s x) 0 := fv_self hc hx h.x
 obtain ⟨H, H1, _⟩ := hH
 refine ⟨⟨?_, ?_, ⟨z, z1, z2, by rw [show 2 ^ 20 = 1048576 from rfl]; omega⟩, hq, ⟨y, y1, y2, by omega⟩⟩, ?_⟩
 ·
  unfold seenF
  rw [if_pos hgt]
  exact fv_add0 hc h.x (fv_mul0 K1 hy0 (Int.mul_zero _))
 ·
  unfold seenF
  rw [if_pos hgt]
  exact fv_add0 hc h.v (fv_mul0 H1 hy0 (Int.mul_zero _))
 unfold farF
 rw [if_pos hgt]
 obtain ⟨e, he⟩ : ∃ e, e = 2000 := ⟨_, rfl⟩
 have hue : u.natAbs <= 2 ^ e := by
  have := small_e (g := Q + 25 + 21) hc he (by omega)
  omega
 obtain ⟨f, f1, _, _, f2⟩ := quo_pow c hc (k := 0) (by omega) (fv_mul0 hy0 hy0 (Int.zero_mul _)) u1 (Int.le_refl _) (by rw [show ((2 ^ 0 : Nat) : Int) = 1 from rfl]; omega) u2 e he hue
 rw [f2 rfl] at f1
 exact f1
end Go.Proofs.YtffobakdngbadaaGreat
namespace Go.Proofs.YtffobakdngbadaaGreat
open Go Go.Lk
theorem whN_lt (c m : Nat) (p : Int) (hc : c = 1074) (hp : -1074 <= p) : m * 2 ^ (p + 1074).toNat < (whN m p + 1) * 2 ^ c := by
 unfold whN
 rw [Nat.shiftLeft_eq, Nat.shiftRight_eq_div_pow]
 have pc := Nat.two_pow_pos c
 by_cases h0 : 0 <= p
 ·
  rw [show (-p).toNat = 0 by omega, Nat.pow_zero, Nat.div_one, Nat.add_mul, Nat.mul_assoc m, <- Nat.pow_add, show (p + 1074).toNat = p.toNat + c by omega]
  omega
 rw [show p.toNat = 0 by omega, Nat.pow_zero, Nat.mul_one, show c = (-p).toNat + (p + 1074).toNat by omega, Nat.pow_add, <- Nat.mul_assoc]
 refine Nat.mul_lt_mul_of_pos_right ?_ (Nat.two_pow_pos _)
 have h1 := Nat.div_add_mod m (2 ^ (-p).toNat)
 have h2 := Nat.mod_lt m (Nat.two_pow_pos (-p).toNat)
 rw [Nat.add_mul, Nat.one_mul, Nat.mul_comm]
 omega
theorem tru_near {c x : Nat} {v : Int} (hc : c = 1074) (h : FV x v) : ∃ t, FV (truF x) t /\ (v - t).natAbs <= 2 * 2 ^ c := by
 obtain ⟨s, r, rfl, hr, rfl⟩ := h
 obtain ⟨m, p, h1, h2, h3, h4⟩ := read_word2 s r hr
 have e : truF (Ieee.double.word s r) = Ieee.double.nearest s (whN m p) 0 := by
  show Ieee.double.write ((Ieee.double.read (Ieee.double.word s r)).integral .zero) = _
  rw [h1]
  show Ieee.double.nearest s (Ieee.Toward.zero.cut s (m <<< p.toNat) (-p).toNat) 0 = _
  rw [cut_zero]; rfl
 have w1 := whN_le c m p hc h2
 have w2 := whN_lt c m p hc h2
 rw [h3] at w1 w2
 rw [e]
 by_cases h0 : whN m p = 0
 ·
  refine ⟨0, ?_, ?_⟩
  ·
   rw [h0]
   unfold Ieee.Format.nearest
   rw [if_pos rfl]
   exact fv_zero _
  rw [h0] at w2
  cases s <;> simp <;> omega
 have pc := Nat.two_pow_pos c
 obtain ⟨W, hW⟩ : ∃ W, W = whN m p * 2 ^ c := ⟨_, rfl⟩
 have hW0 : W ≠ 0 := by rw [hW]; have := Nat.mul_pos (Nat.pos_of_ne_zero h0) pc; omega
 have hn : Ieee.double.nearest s (whN m p) 0 = Ieee.double.word s (min (rR c W) 9218868437227405312) := by
  rw [nearest_val s _ 0 h0 (by decide), hW]
  unfold rR
  rw [Nat.mul_assoc, <- Nat.pow_add, show ((0 : Int) + 2148).toNat = c + c by omega]
 have hr0 : r ≠ 0 := fun h => by rw [h, show rv 0 = 0 from rv_zero.2 rfl] at w1; omega
 have hle : rR c W <= r := by
  have := rR_mono (c := c) hW0 (show W <= rv r by omega)
  rwa [rR_rv c r hc hr0] at this
 have hlt := Nat.lt_of_le_of_lt hle hr
 rw [hn, Nat.min_eq_left (Nat.le_of_lt hlt)]
 have hd : rv r <= rv (rR c W) + 2 * 2 ^ c := by
  by_cases hp : 0 <= p
  ·
   have : W = rv r := by
    rw [hW, <- h3]
    unfold whN
    rw [Nat.shiftLeft_eq, show (-p).toNat = 0 by omega, Nat.shiftRight_zero, Nat.mul_assoc, <- Nat.pow_add, show (p + 1074).toNat = p.toNat + c by omega]
   rw [this, rR_rv c r hc hr0]; omega
  have h5 : whN m p <= m := by
   unfold whN
   rw [show p.toNat = 0 by omega, Nat.shiftLeft_zero, Nat.shiftRight_eq_div_pow]
   exact Nat.div_le_self _ _
  have h6 := rR_err c W hc hW0
  have h7 : W <= 9007199254740992 * 2 ^ c := by rw [hW]; exact Nat.mul_le_mul_right _ (by omega)
  rw [Nat.add_mul] at w2
  omega
 have hd2 : rv (rR c W) <= rv r := rv_le.2 hle
 generalize rR c W = ru at hlt hd hd2
 refine ⟨(if s then -1 else 1) * (rv ru : Int), ⟨s, ru, rfl, hlt, rfl⟩, ?_⟩
 generalize rv ru = A at hd hd2
 generalize rv r = B at hd hd2
 generalize 2 ^ c = C at hd
 cases s
 ·
  simp only [Bool.false_eq_true, if_false, Int.one_mul]; omega
 simp only [if_true]; omega
theorem am_abs {c x M : Nat} (h : AM c x M) : AM c (x % 9223372036854775808) M := by
 obtain ⟨v, h1, h2⟩ := h
 exact ⟨_, h1.abs, by rw [Int.natAbs_natCast]; exact h2⟩
theorem am_neg {c x M : Nat} (h : AM c x M) : AM c (Op.negFloat .f64 x) M := by
 obtain ⟨v, ⟨s, r, rfl, hr, rfl⟩, h2⟩ := h
 rw [neg_word s r (by omega)]
 refine ⟨_, ⟨!s, r, rfl, hr, rfl⟩, ?_⟩
 cases s <;> simp at h2 ⊢ <;> exact h2
theorem am_add0 {c x M : Nat} (hc : c = 1074) (h : AM c x M) : AM c (fop .add x 0) M := by
 obtain ⟨v, h1, h2⟩ := h
 exact ⟨v, fv_add0 hc h1 fv_0, h2⟩
theorem am_if {c x y M : Nat} {b : Bool} (h1 : AM c x M) (h2 : AM c y M) : AM c (if b = true then x else y) M := by
 cases b
 ·
  exact h2
 exact h1
theorem am_small {c x : Nat} (hc : c = 1074) (hx : x < 18446744073709551616) (h : x % 9223372036854775808 <= 4607182418800017408) : AM c x 1 := by
 have h1 : x = Ieee.double.word (decide (9223372036854775808 <= x)) (x % 9223372036854775808) := by
  unfold Ieee.Format.word
  rw [double_sw]
  by_cases h2 : 9223372036854775808 <= x
  ·
   rw [decide_eq_true h2]; simp; omega
  rw [decide_eq_false h2]; simp; omega
 refine ⟨_, ⟨_, _, h1, by omega, rfl⟩, ?_⟩
 have := rv_le.2 h
 rw [rv_one c hc] at this
 by_cases h2 : 9223372036854775808 <= x
 ·
  rw [decide_eq_true h2]; simp; omega
 rw [decide_eq_false h2]; simp; omega
theorem am_one {c : Nat} (hc : c = 1074) : AM c 4607182418800017408 1 := am_small hc (by decide) (by decide)
theorem wrap_am {c x : Nat} {v : Int} (hc : c = 1074) (h : FV x v) : AM c (wrapF x) 4 := by
 obtain ⟨t, t1, t2⟩ := tru_near hc h
 have hf : AM c (fop .sub x (truF x)) 2 := by
  have hb := (flt_pow (e := 1) (by omega)).bound hc
  obtain ⟨r, e, h3⟩ := fv_sub c hc h t1 (by omega)
  exact ⟨_, by rw [fop_some' e]; exact h3, rd_bound hc (flt_pow (e := 1) (by omega)) (by omega)⟩
 have hg : AM c (copF (fop .sub x (truF x)) x) 2 := by
  obtain ⟨s, r, e, hr, _⟩ := h
  obtain ⟨u, ⟨a, q, e2, hq, hu⟩, hm⟩ := hf
  rw [e2, e, copF_word a s q r (by omega) (by omega)]
  refine ⟨_, ⟨s, q, rfl, hq, rfl⟩, ?_⟩
  rw [hu] at hm
  cases a <;> cases s <;> simp at hm ⊢ <;> exact hm
 have h0 : FloatKind.f64.format.order (fop .sub x x) 0 = some .eq := by
  rw [(fv_self hc h h).order fv_0]; rfl
 unfold wrapF
 rw [h0, if_neg (by decide)]
 refine am_add0 hc ?_
 unfold wrapG
 split
 ·
  exact hg.sub hc (am_one hc) (by omega) (flt_pow (e := 2) (by omega))
 split
 ·
  exact hg.add hc (am_one hc) (by omega) (flt_pow (e := 2) (by omega))
 exact hg.mono (by omega)
theorem hor_am {c z : Nat} {S : List Nat} (hc : c = 1074) (hS : ∀ j, j < 9 -> AM c (S.getD j 0) 1) (hz : AM c z (2 ^ 16)) : ∀ m, m < 9 -> AM c (horF S z m) (2 ^ (17 * m))
 | 0, _ => hS 8 (by decide)
 | m + 1, h => by
  have h1 := (hor_am hc hS hz m (by omega)).mul hc hz (M := 2 ^ (17 * m + 16)) (by rw [<- Nat.pow_add]; exact Nat.le_refl _) (flt_pow (by omega))
  refine h1.add hc (hS (7 - m) (by omega)) ?_ (flt_pow (by omega))
  have := Nat.two_pow_pos (17 * m + 16)
  have := pow_two (a := 17 * m + 16) (b := 17 * (m + 1)) (by omega)
  omega
theorem coef : ∀ o, o < 2 -> ∀ j, j < 9 -> (powT o).getD j 0 < 18446744073709551616 /\ (powT o).getD j 0 % 9223372036854775808 <= 4607182418800017408 := by decide +kernel
theorem circ_am {c : Nat} (hc : c = 1074) : AM c 4618760256179416344 8 := by
 have h := rv_le.2 (show 4618760256179416344 <= 4620693217682128896 by decide)
 obtain ⟨e, he⟩ : ∃ e, e = 1025 := ⟨_, rfl⟩
 rw [rv_norm (r := 4620693217682128896) (e := e) (m := 0) (by omega) (by decide), show 4503599627370496 + 0 = 8 * 2 ^ 49 by decide, Nat.mul_assoc, <- Nat.pow_add, show 49 + e = c by omega] at h
 exact ⟨_, FV.nat (by decide), by rw [Int.natAbs_natCast]; exact h⟩
theorem eig_am {c a : Nat} (hc : c = 1074) (h : AM c a 16) : AM c (eigF a).1 (2 ^ 143) /\ AM c (eigF a).2 (2 ^ 143) := by
 have hy : AM c (fop .mul a 4618760256179416344) (2 ^ 7) := h.mul hc (circ_am hc) (by decide) (flt_pow (by omega))
 have hz : AM c (fop .mul (fop .mul a 4618760256179416344) (fop .mul a 4618760256179416344)) (2 ^ 16) := hy.mul hc hy (by decide) (flt_pow (by omega))
 have hco : ∀ o, o < 2 -> ∀ j, j < 9 -> AM c ((powT o).getD j 0) 1 := fun o ho j hj => am_small hc (coef o ho j hj).1 (coef o ho j hj).2
 have e1 := hor_am hc (hco 0 (by decide)) hz 8 (by decide)
 have e2 := (hor_am hc (hco 1 (by decide)) hz 8 (by decide)).mul hc hy (M := 2 ^ 143) (by rw [<- Nat.pow_add]; exact Nat.le_refl _) (flt_pow (by omega))
 have h1 : AM c 4604544271217802189 (2 ^ 143) := (am_small hc (by decide) (by decide)).mono (Nat.one_le_two_pow)
 unfold eigF
 split
 ·
  exact ⟨h1, h1⟩
 dsimp only
 exact ⟨AM.mono e1 (pow_le (a := 17 * 8) (b := 143) (by omega)), e2⟩
theorem half_am {c : Nat} (hc : c = 1074) : AM c 4602678819172646912 1 := am_small hc (by decide) (by decide)
theorem quart_am {c : Nat} (hc : c = 1074) : AM c 4598175219545276416 1 := am_small hc (by decide) (by decide)
theorem turn_am {c x : Nat} {v : Int} (hc : c = 1074) (h : FV x v) : AM c (turnF x).1 (2 ^ 143) /\ AM c (turnF x).2 (2 ^ 143) := by
 have hw := wrap_am hc h
 obtain ⟨r, hr⟩ : ∃ r, r = wrapF x := ⟨_, rfl⟩
 unfold turnF
 rw [<- hr] at hw ⊢
 have hn : FloatKind.f64.format.order r r = some .eq := by
  obtain ⟨u, u1, _⟩ := hw
  rw [u1.order u1, Int.compare_eq_eq.2 rfl]
 unfold tqF
 rw [hn, if_neg (by decide)]
 generalize tqL r = l
 have ha : AM c (tqA r l) 8 := by
  unfold tqA
  exact am_if ((half_am hc).sub hc (am_abs hw) (by omega) (flt_pow (e := 3) (by omega))) ((am_abs hw).mono (by omega))
 generalize tqA r l = a at ha
 generalize tqS a = s
 have hb : AM c (tqB a s) 16 := by
  unfold tqB
  exact am_if ((quart_am hc).sub hc ha (by omega) (flt_pow (e := 4) (by omega))) (ha.mono (by omega))
 generalize tqB a s = b at hb
 obtain ⟨e1, e2⟩ := eig_am hc hb
 generalize eigF b = p at e1 e2
 generalize tqN r = n
 unfold tqC
 have q1 : AM c (if s = true then p.2 else p.1) (2 ^ 143) := am_if e2 e1
 have q2 : AM c (if s = true then p.1 else p.2) (2 ^ 143) := am_if e1 e2
 exact ⟨am_add0 hc (am_if (am_neg q1) q1), am_add0 hc (am_if (am_neg q2) q2)⟩
end Go.Proofs.YtffobakdngbadaaGreat
namespace Go.Proofs.YtffobakdngbadaaGreat
open Go Go.Lk Go.Pr
theorem rcheck_ok (a : Option Addr) (k c : Nat) (rows : List (List Int)) (rvs : List Value) (w0 : World) (hr : RowsI w0 a rows rvs) (hk : rows.length = k) (hk63 : k <= 17592186043904) :
  Ret Tryz.prog 80 [.slice a k c] w0 fun v w' => v = .int .i64 (chk rows) /\ HS w0 w' [] := by
 refine Ret.start fun w hs => ?_
 have hrl := hr.len
 refine calls_of_W Tryz.func80 rfl rfl rfl ?_
 by_cases hbig : 256 < k
 ·
  have he : chk rows = 3 := by unfold chk; rw [decide_eq_true (by omega), Bool.true_or, if_pos rfl]
  refine Wq (La rfl (Rqq (Lm rfl (Le u_85 rfl (Cgtr rfl (dtrue (by omega)) ?_)))))
  refine Rt (Wt rfl (Wq (La rfl (Rt (Wret (Ex_then_ret (Ex_done1 rfl rfl ?_)))))))
  exact ⟨_, rfl, by rw [he], hs⟩
 refine Wq (La rfl (Rqq (Lm rfl (Le u_85 rfl (Cgtr rfl (dfalse (by omega)) ?_)))))
 refine Rt (Wf rfl (Ws (Wqq (La rfl (Rt (W_block (W_loop2 (fun (i : Nat) (w : World) => [(0, .slice a k c), (3, .int .i64 i)]) (fun i w => w) (fun i w => (i <= k) /\ (∀ q, q < i -> wid rows q <= 256) /\ (HS w0 w [])) (fun i w => k - i) (0) (w) (is := [0, 3]) rfl rfl ?_ ?_)))))))
 ·
  exact ⟨Nat.zero_le _, fun _ h => absurd h (Nat.not_lt_zero _), hs⟩
 clear hs
 intro i w hI
 show W _ _ _ _ [(0, .slice a k c), (3, .int .i64 i)] w
 obtain ⟨hi, hA, hs⟩ := hI
 by_cases hlt : i < k
 ·
  obtain ⟨ai, ci, g1, g2, g3, g4⟩ := hr.row i (by omega)
  by_cases hw : 256 < (rows.getD i []).length
  ·
   have he : chk rows = 3 := by
    unfold chk
    rw [any_idx (p := fun r : List Int => decide (256 < r.length)).2 ⟨i, by omega, show (fun r : List Int => decide (256 < r.length)) (rows.getD i []) = true from decide_eq_true hw⟩, Bool.or_true, if_pos rfl]
   refine Wqq (Lmm rfl rfl (Le u_85 rfl (Clss rfl (dtrue (by omega)) ?_)))
   refine Rt (Wt rfl (Ws (Wsq (W_block (Wq (Lmm rfl rfl (Li u_85 i_88 rfl (natc_k _) (by omega) (hr.sl.ao (by omega)) ?_)))))))
   refine Ll o_88 rfl (by exact (hr.sl.old hs Own.nil).get g1) ?_
   refine Le u_88 rfl (Cgtr rfl (dtrue (by omega)) ?_)
   refine Rt (Wt rfl (Wq (La rfl (Rt (Wret (Ex_block_ret (Ex_then_ret (Ex_loop_ret (Ex_block_ret (Ex_then_ret (Ex_done1 rfl rfl ?_)))))))))))
   exact ⟨_, rfl, by rw [he], hs⟩
  refine Wqq (Lmm rfl rfl (Le u_85 rfl (Clss rfl (dtrue (by omega)) ?_)))
  refine Rt (Wt rfl (Ws (Wsq (W_block (Wq (Lmm rfl rfl (Li u_85 i_88 rfl (natc_k _) (by omega) (hr.sl.ao (by omega)) ?_)))))))
  refine Ll o_88 rfl (by exact (hr.sl.old hs Own.nil).get g1) ?_
  refine Le u_88 rfl (Cgtr rfl (dfalse (by omega)) ?_)
  refine Rt (Wf rfl (W_skip' (Nx_block (Nt (Wr (Lm rfl (Cadd rfl (wrp_i64 (by omega)) ?_)))))))
  refine La rfl (Rnl (Nq (i + 1, w) [0, 3] rfl ?_ ?_))
  ·
   dsimp only
   refine ⟨by omega, fun q hq => ?_, hs⟩
   by_cases hqi : q = i
   ·
    rw [hqi]; simp only [wid]; omega
   exact hA q (by omega)
  omega
 obtain rfl : k = i := by omega
 have h1 : (decide (256 < rows.length) || rows.any (fun r => decide (256 < r.length))) = false := by
  rw [decide_eq_false (by omega), Bool.false_or]
  exact any_no fun q hq => decide_eq_false (by have := hA q (by omega); simp only [wid] at this; omega)
 refine Wqq (Lmm rfl rfl (Le u_85 rfl (Clss rfl (dfalse (by omega)) ?_)))
 refine Rt (Wf rfl (W_exit' (Ex_then_exit (Ex_loop_exit (Ex_block_hit (Nt (Wqq (La rfl (Rt (W_block (W_loop2 (fun (i : Nat) (w : World) => [(0, .slice a k c), (4, .int .i64 i)]) (fun i w => w) (fun i w => (i <= k) /\ (∀ q, q < i -> wid rows q = wid rows 0) /\ (HS w0 w [])) (fun i w => k - i) (0) (w) (is := [0, 4]) rfl rfl ?_ ?_)))))))))))
 ·
  exact ⟨Nat.zero_le _, fun _ h => absurd h (Nat.not_lt_zero _), hs⟩
 clear hs hi
 intro i w hI
 show W _ _ _ _ [(0, .slice a k c), (4, .int .i64 i)] w
 obtain ⟨hi, hB, hs⟩ := hI
 by_cases hlt : i < k
 ·
  obtain ⟨ai, ci, g1, g2, g3, g4⟩ := hr.row i (by omega)
  obtain ⟨a0, c0, k1, k2, k3, k4⟩ := hr.row 0 (by omega)
  have hold : ∀ {w : World}, HS w0 w [] -> ∀ {j : Nat} {v : Value}, rvs[j]? = some v -> w.cell? ((aD a).add j) = some v := by intro w hs j v hv; exact (hr.sl.old hs Own.nil).get hv
  by_cases hw : (rows.getD i []).length ≠ (rows.getD 0 []).length
  ·
   have he : chk rows = 5 := by
    unfold chk
    rw [h1, any_idx (p := fun r : List Int => decide (r.length ≠ wid rows 0)).2 ⟨i, by omega, show (fun r : List Int => decide (r.length ≠ wid rows 0)) (rows.getD i []) = true from decide_eq_true hw⟩]
    rfl
   refine Wqq (Lmm rfl rfl (Le u_85 rfl (Clss rfl (dtrue (by omega)) ?_)))
   refine Rt (Wt rfl (Ws (Wsq (W_block (Wsq (W_pht [0, 1, 2, 5, 6] [3, 4, 7, 8, 9] [] (fun _ _ _ => False) Tryz.mixed (by kernel_rfl) (fun _ _ _ _ _ h => h) hs ?_))))))
   refine Pm rfl (Pm rfl (Pv rfl (fun w => R_idx1 u_85 i_88 rfl rfl (natc_k _) (by omega) (hr.sl.ao (by omega))) ?_))
   refine Pm rfl (Pv rfl (fun w => R_idx1 u_85 i_88 rfl rfl natc_0 (by omega) (hr.sl.ao (by omega))) ?_)
   refine PL_end (Hv rfl (fun w hs => R_load o_88 rfl (hold hs g1)) ?_)
   refine Hv rfl (fun w hs => R_len u_88 rfl) ?_
   refine Hv rfl (fun w hs => R_load o_88 rfl (hold hs k1)) ?_
   refine Hv rfl (fun w hs => R_len u_88 rfl) ?_
   refine Hv rfl (fun w hs => R_neq rfl rfl (dtrue (by omega))) ?_
   refine HL_tail ?_
   intro w hs
   refine Rt (Wt rfl (Wq (La rfl (Rt (Wret (Ex_block_ret (Ex_then_ret (Ex_loop_ret (Ex_block_ret (Ex_then_ret (Ex_done1 rfl rfl ?_)))))))))))
   exact ⟨_, rfl, by rw [he], hs⟩
  rw [Classical.not_not] at hw
  refine Wqq (Lmm rfl rfl (Le u_85 rfl (Clss rfl (dtrue (by omega)) ?_)))
  refine Rt (Wt rfl (Ws (Wsq (W_block (Wsq (W_pht [0, 1, 2, 5, 6] [3, 4, 7, 8, 9] [] (fun _ _ _ => False) Tryz.mixed (by kernel_rfl) (fun _ _ _ _ _ h => h) hs ?_))))))
  refine Pm rfl (Pm rfl (Pv rfl (fun w => R_idx1 u_85 i_88 rfl rfl (natc_k _) (by omega) (hr.sl.ao (by omega))) ?_))
  refine Pm rfl (Pv rfl (fun w => R_idx1 u_85 i_88 rfl rfl natc_0 (by omega) (hr.sl.ao (by omega))) ?_)
  refine PL_end (Hv rfl (fun w hs => R_load o_88 rfl (hold hs g1)) ?_)
  refine Hv rfl (fun w hs => R_len u_88 rfl) ?_
  refine Hv rfl (fun w hs => R_load o_88 rfl (hold hs k1)) ?_
  refine Hv rfl (fun w hs => R_len u_88 rfl) ?_
  refine Hv rfl (fun w hs => R_neq rfl rfl (dfalse (by omega))) ?_
  refine HL_tail ?_
  intro w hs
  refine Rt (Wf rfl (W_skip' (Nx_block (Nt (Wr (Lm rfl (Cadd rfl (wrp_i64 (by omega)) ?_)))))))
  refine La rfl (Rnl (Nq (i + 1, _) [0, 4] rfl ?_ ?_))
  ·
   dsimp only
   refine ⟨by omega, fun q hq => ?_, hs⟩
   by_cases hqi : q = i
   ·
    rw [hqi]; exact hw
   exact hB q (by omega)
  omega
 obtain rfl : k = i := by omega
 have h2 : rows.any (fun r => decide (r.length ≠ wid rows 0)) = false := any_no fun q hq => decide_eq_false fun hn => hn (hB q (by omega))
 refine Wqq (Lmm rfl rfl (Le u_85 rfl (Clss rfl (dfalse (by omega)) ?_)))
 refine Rt (Wf rfl (W_exit' (Ex_then_exit (Ex_loop_exit (Ex_block_hit (Nt (Wqq (La rfl (Rt (W_block (W_loop2 (fun (i : Nat) (w : World) => [(0, .slice a k c), (5, .int .i64 i)]) (fun i w => w) (fun i w => (i <= k) /\ (∀ q j, q < i -> j < wid rows q -> el rows q j <= 1099511627776) /\ (HS w0 w [])) (fun i w => k - i) (0) (w) (is := [0, 5]) rfl rfl ?_ ?_)))))))))))
 ·
  exact ⟨Nat.zero_le _, fun _ _ h => absurd h (Nat.not_lt_zero _), hs⟩
 clear hs hi
 intro i w hI
 show W _ _ _ _ [(0, .slice a k c), (5, .int .i64 i)] w
 obtain ⟨hi, hD, hs⟩ := hI
 by_cases hlt : i < k
 ·
  obtain ⟨ai, ci, g1, g2, g3, g4⟩ := hr.row i (by omega)
  obtain ⟨m, hm⟩ : ∃ m, m = (rows.getD i []).length := ⟨_, rfl⟩
  rw [<- hm] at g1 g2 g3
  have hra := hr.sl.ao (by omega)
  refine Wqq (Lmm rfl rfl (Le u_85 rfl (Clss rfl (dtrue (by omega)) ?_)))
  refine Rt (Wt rfl (Ws (Wsq (W_block (Wq (La rfl (Rt (W_block (W_loop2 (fun (j : Nat) (w : World) => [(0, .slice a k c), (5, .int .i64 i), (6, .int .i64 j)]) (fun j w => w) (fun j w => (j <= m) /\ (∀ q, q < j -> el rows i q <= 1099511627776) /\ (HS w0 w [])) (fun j w => m - j) (0) (w) (is := [0, 5, 6]) rfl rfl ?_ ?_)))))))))
  ·
   exact ⟨Nat.zero_le _, fun _ h => absurd h (Nat.not_lt_zero _), hs⟩
  clear hs
  intro j w hI
  show W _ _ _ _ [(0, .slice a k c), (5, .int .i64 i), (6, .int .i64 j)] w
  obtain ⟨hj, hE, hs⟩ := hI
  by_cases hlt2 : j < m
  ·
   by_cases hw : 1099511627776 < (rows.getD i []).getD j 0
   ·
    have he : chk rows = 2 := by
     unfold chk
     rw [h1, h2, any_idx (p := fun r : List Int => r.any fun c => decide (1099511627776 < c)).2 ⟨i, by omega, show (fun r : List Int => r.any fun c => decide (1099511627776 < c)) (rows.getD i []) = true from anyI.2 ⟨j, by omega, decide_eq_true hw⟩⟩]
     rfl
    refine Wqq (Lmm rfl rfl (Lm rfl (Li u_85 i_88 rfl (natc_k _) (by omega) (by exact hra) ?_)))
    refine Ll o_88 rfl (by exact (hr.sl.old hs Own.nil).get g1) ?_
    refine Le u_88 rfl (Clss rfl (dtrue (by omega)) ?_)
    refine Rt (Wt rfl (Ws (Wsq (W_block (Wq (Lmm rfl rfl (Li u_85 i_88 rfl (natc_k _) (by omega) (by exact hra) ?_)))))))
    refine Ll o_88 rfl (by exact (hr.sl.old hs Own.nil).get g1) ?_
    refine Lm rfl ?_
    refine Li u_88 i_2 rfl (natc_k _) (by omega) (by exact g4.ao (by rw [il_length]; omega)) ?_
    refine Ll o_2 rfl (by exact (g4.old hs Own.nil).get (il_get (by omega))) ?_
    refine Cgtr rfl (dtrue (by omega)) ?_
    refine Rt (Wt rfl (Wq (La rfl (Rt (Wret (Ex_block_ret (Ex_then_ret (Ex_loop_ret (Ex_block_ret (Ex_block_ret (Ex_then_ret (Ex_loop_ret (Ex_block_ret (Ex_then_ret (Ex_done1 rfl rfl ?_)))))))))))))))
    exact ⟨_, rfl, by rw [he], hs⟩
   refine Wqq (Lmm rfl rfl (Lm rfl (Li u_85 i_88 rfl (natc_k _) (by omega) (by exact hra) ?_)))
   refine Ll o_88 rfl (by exact (hr.sl.old hs Own.nil).get g1) ?_
   refine Le u_88 rfl (Clss rfl (dtrue (by omega)) ?_)
   refine Rt (Wt rfl (Ws (Wsq (W_block (Wq (Lmm rfl rfl (Li u_85 i_88 rfl (natc_k _) (by omega) (by exact hra) ?_)))))))
   refine Ll o_88 rfl (by exact (hr.sl.old hs Own.nil).get g1) ?_
   refine Lm rfl ?_
   refine Li u_88 i_2 rfl (natc_k _) (by omega) (by exact g4.ao (by rw [il_length]; omega)) ?_
   refine Ll o_2 rfl (by exact (g4.old hs Own.nil).get (il_get (by omega))) ?_
   refine Cgtr rfl (dfalse (by omega)) ?_
   refine Rt (Wf rfl (W_skip' (Nx_block (Nt (Wr (Lm rfl (Cadd rfl (wrp_i64 (by omega)) ?_)))))))
   refine La rfl (Rnl (Nq (j + 1, w) [0, 5, 6] rfl ?_ ?_))
   ·
    dsimp only
    refine ⟨by omega, fun q hq => ?_, hs⟩
    by_cases hqj : q = j
    ·
     rw [hqj]; simp only [el]; omega
    exact hE q (by omega)
   omega
  refine Wqq (Lmm rfl rfl (Lm rfl (Li u_85 i_88 rfl (natc_k _) (by omega) (by exact hra) ?_)))
  refine Ll o_88 rfl (by exact (hr.sl.old hs Own.nil).get g1) ?_
  refine Le u_88 rfl (Clss rfl (dfalse (by omega)) ?_)
  refine Rt (Wf rfl (W_exit' (Ex_then_exit (Ex_loop_exit (Ex_block_hit (Nx_block (Nt (Wr (Lm rfl (Cadd rfl (wrp_i64 (by omega)) ?_))))))))))
  refine La rfl (Rnl (Nq (i + 1, w) [0, 5] rfl ?_ ?_))
  ·
   dsimp only
   refine ⟨by omega, fun q j2 hq hj2 => ?_, hs⟩
   by_cases hqi : q = i
   ·
    rw [hqi] at hj2 ⊢; exact hE j2 (by simp only [wid] at hj2; omega)
   exact hD q j2 (by omega) hj2
  omega
 obtain rfl : k = i := by omega
 have he : chk rows = 0 := by
  unfold chk
  rw [h1, h2, any_no fun q hq => anyI_no fun j hj => decide_eq_false (by have := hD q j (by omega) hj; simp only [el] at this; omega)]
  rfl
 refine Wqq (Lmm rfl rfl (Le u_85 rfl (Clss rfl (dfalse (by omega)) ?_)))
 refine Rt (Wf rfl (W_exit' (Ex_then_exit (Ex_loop_exit (Ex_block_hit (Nt (Wq (La rfl (Rt (Wret (Ex_done1 rfl rfl ?_)))))))))))
 exact ⟨_, rfl, by rw [he], hs⟩
end Go.Proofs.YtffobakdngbadaaGreat
namespace Go.Proofs.YtffobakdngbadaaGreat
open Go Go.Lk Go.Pr
inductive RB (p : Value -> List Int -> List (Nat × Obj) -> Prop) : List Value -> List (List Int) -> List (Nat × Obj) -> Prop
 | nil : RB p [] [] []
 | cons {v : Value} {r : List Int} {M : List (Nat × Obj)} {vs : List Value} {rs : List (List Int)} {Ms : List (Nat × Obj)} (h : p v r M) (t : RB p vs rs Ms) : RB p (v :: vs) (r :: rs) (M ++ Ms)
def npB (w0 : World) (v : Value) (r : List Int) (M : List (Nat × Obj)) : Prop := Bl w0 2 1 v r.length (il r) M
section
variable {p q : Value -> List Int -> List (Nat × Obj) -> Prop} {vs : List Value} {rs : List (List Int)} {Ms : List (Nat × Obj)} {w0 : World}
theorem RB.snoc (h : RB p vs rs Ms) {v : Value} {r : List Int} {M : List (Nat × Obj)} (hv : p v r M) : RB p (vs ++ [v]) (rs ++ [r]) (Ms ++ M) := by
 induction h with
 | nil => simpa using RB.cons hv .nil
 | cons h1 _ ih => simpa [List.append_assoc] using RB.cons h1 ih
theorem RB.len (h : RB p vs rs Ms) : vs.length = rs.length := by induction h <;> simp [*]
theorem RB.own (h : RB (npB w0) vs rs Ms) : Own w0 Ms := by
 induction h with
 | nil => exact Own.nil
 | cons h1 _ ih => exact (Bl.own h1).app ih
theorem RB.at (h : RB p vs rs Ms) : ∀ i, i < rs.length -> ∃ v M Mr, vs[i]? = some v /\ p v (rs.getD i []) M /\ Ms.Perm (Mr ++ M) /\ ∀ v' r' M', p v' r' M' -> ∃ Ms', RB p (vs.set i v') (rs.set i r') Ms' /\ Ms'.Perm (Mr ++ M') := by
 induction h with
 | nil => intro i hi; simp at hi
 | @cons v r M vs rs Ms h1 t ih =>
  intro i hi
  cases i with
  | zero => exact ⟨v, M, Ms, by simp, by simpa using h1, List.perm_append_comm, fun v' r' M' h' => ⟨M' ++ Ms, by simpa using RB.cons h' t, List.perm_append_comm⟩⟩
  | succ i =>
   obtain ⟨v1, M1, Mr, h2, h3, h4, h5⟩ := ih i (by simpa using hi)
   refine ⟨v1, M1, M ++ Mr, by simpa using h2, by simpa using h3, by rw [List.append_assoc]; exact List.Perm.append_left M h4, fun v' r' M' h' => ?_⟩
   obtain ⟨Ms', h6, h7⟩ := h5 v' r' M' h'
   exact ⟨M ++ Ms', by simpa using RB.cons h1 h6, by rw [List.append_assoc]; exact List.Perm.append_left M h7⟩
theorem RB.row {w : World} {L : List (Nat × Obj)} (h : RB (npB w0) vs rs Ms) (hs : HS w0 w (L ++ Ms)) : ∀ i, i < rs.length -> ∃ ai ci, vs[i]? = some (.slice ai (rs.getD i []).length ci) /\ (rs.getD i []).length <= ci /\ SlC w ai (il (rs.getD i [])) := by
 intro i hi
 obtain ⟨v, M, Mr, h1, h2, h3, _⟩ := h.at i hi
 obtain ⟨a, c, rfl, hac⟩ := Bl.slice h2
 refine ⟨a, c, h1, hac, ?_⟩
 exact Bl.slc (L := L ++ Mr) h2 (hs.mem_perm (by rw [List.append_assoc]; exact List.Perm.append_left L h3))
theorem RB.rowsI {w : World} {L : List (Nat × Obj)} {a : Option Addr} (h : RB (npB w0) vs rs Ms) (hs : HS w0 w (L ++ Ms)) (ha : SlC w a vs) (hl : ∀ i, i < rs.length -> (rs.getD i []).length <= 17592186043904) : RowsI w a rs vs :=
 ⟨ha, h.len, fun i hi => let ⟨ai, ci, h1, h2, h3⟩ := h.row hs i hi; ⟨ai, ci, h1, h2, hl i hi, h3⟩⟩
end
end Go.Proofs.YtffobakdngbadaaGreat