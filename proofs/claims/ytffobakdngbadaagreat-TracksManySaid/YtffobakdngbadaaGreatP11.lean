/-
  A part of the proof: laws for walks, and plain laws, over any program of the model. Each theorem holds under its own premises alone.
-/
import Derived.Test.YtffobakdngbadaaGreatKit
import Derived.Test.YtffobakdngbadaaGreatP10
import Derived.Test.YtffobakdngbadaaGreatKitP
import Derived.Test.YtffobakdngbadaaGreatKitQ
import Derived.Test.YtffobakdngbadaaGreatP6
import Derived.Test.YtffobakdngbadaaGreatP5
namespace Go.Proofs.YtffobakdngbadaaGreat
open Go Go.Lk
structure TEq (t u : Trk) : Prop where
 id : t.id = u.id
 kind : t.kind = u.kind
 seen : t.seen = u.seen
 steps : t.steps = u.steps
 last : cn t.last = cn u.last
 x : t.x.c = u.x.c
 y : t.y.c = u.y.c
theorem TEq.refl (t : Trk) : TEq t t := ⟨rfl, rfl, rfl, rfl, rfl, rfl, rfl⟩
theorem jmD (t u : Trk) (h : TEq t u) (w0 : World) : Ret Tryz.prog 23 [.agg t.cells.toArray, .agg u.cells.toArray] w0 fun v w' => v = .bool true /\ HS w0 w' [] := by
 have hid := h.id
 have hki := h.kind
 have hse := h.seen
 have hst := h.steps
 refine Ret.start fun w hs => ?_
 refine ja7 Tryz.func23 rfl rfl rfl (Wq (jeH rfl hs rfl ?_))
 intro b2 w hb2 hnb2 hs
 dsimp only [sS, sZ, sA, sN] at hs
 refine jeH rfl hs rfl ?_
 intro b3 w hb3 hnb3 hs
 dsimp only [sS, sZ, sA, sN] at hs
 replace hs : HS w0 w [(b2, Row 51 t.cells), (b3, Row 51 u.cells)] := hs
 refine La rfl (Rq (Lf 2 jcC rfl jbP (jb7 rfl jfY jbP rfl (by exact jaX (n := 5) (cs := t.x.cells) (hs.get (i := 0) rfl) rfl) ?_)))
 refine Lf 2 jcC rfl jbP (jb7 rfl jfY jbP rfl (by exact jaX (n := 5) (cs := u.x.cells) (hs.get (i := 1) rfl) rfl) ?_)
 refine Lc f_47 rfl (jnG t.x u.x h.x w) ?_
 rintro _ w1 ⟨rfl, hs'⟩
 replace hs := hs.nil hs'
 clear hs'
 refine La rfl (Rq (Lf 7 jcC rfl jbP (jb7 rfl jfY jbP rfl (by exact jaX (n := 5) (cs := t.y.cells) (hs.get (i := 0) rfl) rfl) ?_)))
 refine Lf 7 jcC rfl jbP (jb7 rfl jfY jbP rfl (by exact jaX (n := 5) (cs := u.y.cells) (hs.get (i := 1) rfl) rfl) ?_)
 refine Lc f_47 rfl (jnG t.y u.y h.y w1) ?_
 rintro _ w2 ⟨rfl, hs'⟩
 replace hs := hs.nil hs'
 clear hs'
 refine La rfl (Rq (Lf 14 jcC rfl jaS (Ll jb5 rfl (by exact hs.cell (i := 0) rfl rfl) ?_)))
 refine Lf 14 jcC rfl jaS (Ll jb5 rfl (by exact hs.cell (i := 1) rfl rfl) ?_)
 refine Lc f_48 rfl (jhF _ _ h.last w2) ?_
 rintro _ w3 ⟨rfl, rfl⟩
 refine La rfl (Rq (Lf 0 jcC rfl i_3 (Ll o_3 rfl (by exact hs.cell (i := 0) rfl rfl) ?_)))
 refine Lf 0 jcC rfl i_3 (Ll o_3 rfl (by exact hs.cell (i := 1) rfl rfl) ?_)
 refine jdS rfl (jaF (by omega)) ?_
 refine Lm rfl (Rw rfl (Lf 1 jcC rfl jmS (Rw rfl (Ll o_46 rfl (by exact hs.cell (i := 0) rfl rfl) ?_))))
 refine Rw rfl (Lf 1 jcC rfl jmS (Rw rfl (Ll o_46 rfl (by exact hs.cell (i := 1) rfl rfl) ?_)))
 refine Rw rfl (jdS rfl (jaF (by omega)) ?_)
 refine Lpt rfl (Lm rfl (Gm rfl rfl (Lpt rfl (Lm rfl (Gm rfl rfl (Lpt rfl (Lm rfl (Rw rfl (Lf 12 jcC rfl i_49 (Rw rfl (Ll o_49 rfl (by exact hs.cell (i := 0) rfl rfl) ?_)))))))))))
 refine Rw rfl (Lf 12 jcC rfl i_49 (Rw rfl (Ll o_49 rfl (by exact hs.cell (i := 1) rfl rfl) ?_)))
 refine Rw rfl (jdS rfl (jaF (by omega)) ?_)
 refine Lpt rfl (Lm rfl (Rw rfl (Lf 13 jcC rfl i_3 (Rw rfl (Ll o_3 rfl (by exact hs.cell (i := 0) rfl rfl) ?_)))))
 refine Rw rfl (Lf 13 jcC rfl i_3 (Rw rfl (Ll o_3 rfl (by exact hs.cell (i := 1) rfl rfl) ?_)))
 refine Rw rfl (jdS rfl (jaF (by omega)) ?_)
 refine Lpt rfl (Lm rfl (Gm rfl rfl (Lpt rfl (La rfl (Rt (jaW (ja9 rfl rfl ?_)))))))
 exact ⟨_, rfl, rfl, hs.forget (Own.cons hb2 (Own.cons hb3 Own.nil))⟩
theorem trk_at {w : World} {a : Option Addr} {ts : List Trk} (h : SlC w a (tcs ts)) {i : Nat} (hi : i < ts.length) : jbF w ((aD a).add (i * 15)) (ts.getD i trk0).cells := h.sub fun _ _ hv => tcs_get hi hv
theorem drop_none (w0 w : World) (n : Nat) (k : Bok) (L : Bks) (id : Int) (hs : HS w0 w (k.bks ++ L)) (hk : k.ok w0 n) (ho : ∀ o ∈ k.os, o.t.id ≠ id) :
  Ret Tryz.prog 16 [bv k.B, .int .i64 id] w fun v w' => v = .int .i64 190 /\ HS w0 w' (k.bks ++ L) := by
 obtain ⟨A, hA⟩ : ∃ A, A = k.bks ++ L := ⟨_, rfl⟩
 have hB : k.row ∈ A := by rw [hA]; exact List.mem_append_left _ (List.mem_cons_self ..)
 have hm : k.mrow ∈ A := by rw [hA]; exact List.mem_append_left _ (List.mem_cons_of_mem _ (List.mem_cons_self ..))
 have hg := Bok.getN ho
 rw [<- hA] at hs ⊢
 clear hA
 refine ja7 Tryz.func16 rfl rfl rfl (Wq (La rfl (Rt (Wsq (ja4 (Wq (Lm rfl (jcV rfl u_28 rfl rfl (La rfl (Rt ?_))))))))))
 refine Wf rfl (Wq (Lm rfl (Ln rfl (Lf 6 jfS rfl i_63 (Ll o_63 rfl (by exact jb6 hs hB (j := 6) rfl) ?_)))))
 refine Lm rfl ?_
 refine jf4 (k := id) (ev := pv) (z := .pointer none) rfl K3 jpY i_77 (hs.has _ hm) rfl rfl ?_; rw [hg]
 refine jcV rfl u_77 rfl rfl (La rfl (Rt (Wt rfl (Wq (La rfl (Rt (jaW (jaG (ja2 (ja9 rfl rfl ?_))))))))))
 exact ⟨_, rfl, rfl, hs⟩
def rW : Rul := ⟨4607182418800017408, 0, 4621256167635550208, 2, 3, 2⟩
theorem rule_ok (w0 : World) : Ret Tryz.prog 10 [] w0 fun v w' => v = .agg rW.cells.toArray /\ HS w0 w' [] := by
 refine Ret.start fun w hs => ?_
 refine ja7 Tryz.func10 rfl rfl rfl (Wq (jbL rfl hs jfP ?_))
 intro b0 w hb0 hnb0 hs
 dsimp only [sS, sZ, sA, sN] at hs
 refine Rq (jbE rfl rfl (Pl.built Tryz.pl24 rfl) (jaQ hs (i := 0) rfl jfP rfl rfl (by rfl) (by simp) (by simp [Value.oneCell']) ?_))
 intro w hs
 dsimp only [sS, sZ, sA, sN] at hs
 refine Rt (jaW (jc7 rfl rfl a_24 jfP (by exact jaE (cs := rW.cells) (hs.get (i := 0) rfl)) ?_))
 exact ⟨_, rfl, rfl, hs.forget (Own.cons hb0 Own.nil)⟩
end Go.Proofs.YtffobakdngbadaaGreat
namespace Go.Proofs.YtffobakdngbadaaGreat
open Go Go.Lk Go.Pr
theorem best_uniq {n rows : Nat} {C : Nat -> Nat -> Int} {f g : Nat -> Nat} (h : Best n rows C f) (h' : Best n rows C g) : ∀ r, r < rows -> g r = f r := by
 have hc : cst n C g = cst n C f := Int.le_antisymm (h'.least f h.bij) (h.least g h'.bij)
 rcases h.first g h'.bij hc with h1 | ⟨i, hi, h1, h2⟩
 ·
  exact h1
 rcases h'.first f h.bij hc.symm with h3 | ⟨j, hj, h3, h4⟩
 ·
  exact fun r hr => (h3 r hr).symm
 exfalso
 rcases Nat.lt_trichotomy i j with h5 | h5 | h5
 ·
  have := h3 i h5; omega
 ·
  subst h5; omega
 have := h1 j h5; omega
theorem MostAns.uniq {rows : List (List Int)} {ms ms' : List Int} {c c' t t' e e' : Int} (h : MostAns rows ms c t e) (h' : MostAns rows ms' c' t' e') : ms = ms' /\ c = c' /\ t = t' /\ e = e' := by
 rcases h with ⟨c1, rfl, rfl, rfl, rfl⟩ | ⟨c1, c2, f, hf, rfl, rfl, rfl, rfl⟩
 ·
  rcases h' with ⟨d1, rfl, rfl, rfl, rfl⟩ | ⟨d1, d2, g, hg, _⟩
  ·
   exact ⟨rfl, rfl, rfl, rfl⟩
  exact absurd d1 (c1.resolve_right d2)
 rcases h' with ⟨d1, rfl, rfl, rfl, rfl⟩ | ⟨d1, d2, g, hg, rfl, rfl, rfl, rfl⟩
 ·
  exact absurd c1 (d1.resolve_right c2)
 have hu := best_uniq hf hg
 refine ⟨List.map_congr_left fun q hq => ?_, jfD fun q hq => ?_, jfD fun q hq => ?_, rfl⟩
 ·
  rw [hu q (List.mem_range.1 hq)]
 ·
  rw [hu q hq]
 rw [hu q hq]
theorem NewsTo.zero_inv {r : Rul} {time : Nat} {ps : List Pq} {s u : NS} (h : NewsTo r time ps s 0 u) : u = s := by
 cases h; rfl
theorem NewsTo.succ_inv {r : Rul} {time : Nat} {ps : List Pq} {s v : NS} {j : Nat} (h : NewsTo r time ps s (j + 1) v) : ∃ u, NewsTo r time ps s j u /\ (((0 < u.told.getD j 0 ∨ 256 <= u.os.length) /\ v = u) ∨ (¬ (0 < u.told.getD j 0 ∨ 256 <= u.os.length) /\ ∃ o : On, o.c = u.ck /\ o.t = endT r (jmR r u.next (ps.getD j pq0)) time /\ o.xs = [(jmR r u.next (ps.getD j pq0)).x] /\ o.ys = [(jmR r u.next (ps.getD j pq0)).y] /\ v = ⟨u.os ++ [o], u.ck + 1, u.next + 1, u.told.set j u.next⟩)) := by
 cases h with
 | old h1 h2 => exact ⟨_, h1, .inl ⟨h2, rfl⟩⟩
 | new h1 h2 h3 h4 h5 h6 => exact ⟨_, h1, .inr ⟨h2, _, h3, h4, h5, h6, rfl⟩⟩
def pA : Plt := ⟨4621819117588971520, 0, 0, 0, 0⟩
def pB : Plt := ⟨4632233691727265792, 0, 0, 0, 0⟩
def sX : Stt := jdB (jdY (ptX pA) rW.noise rW.sway) (fop .sub 4607182418800017408 0) rW.sway
def sY : Stt := jdB (jdY (ptY pA) rW.noise rW.sway) (fop .sub 4607182418800017408 0) rW.sway
theorem e0 : jdV rW.noise rW.gate sX sY (ptX pA) (ptY pA) = 0 := by decide +kernel
theorem e1 : jdV rW.noise rW.gate sX sY (ptX pB) (ptY pB) = -1 := by decide +kernel
theorem cn_ptX (l : Plt) : cn (ptX l) = ptX l := jaL ..
theorem cn_ptY (l : Plt) : cn (ptY l) = ptY l := jaL ..
theorem jgN {x y n q : Nat} (h : cn x = cn y) : (jdY x n q).c = (jdY y n q).c := by
 show (⟨cn x, cn 0, cn n, cn 0, cn q⟩ : Stt) = ⟨cn y, cn 0, cn n, cn 0, cn q⟩
 rw [h]
theorem jk4 {n g : Nat} {x y x' y' : Stt} {px py px' py' : Nat} (hx : x.c = x'.c) (hy : y.c = y'.c) (h1 : cn px = cn px') (h2 : cn py = cn py') : jdV n g x y px py = jdV n g x' y' px' py' := by
 unfold jdV; rw [dstF_congr hx hy h1 h2]
theorem endT_kind (r : Rul) (t : Trk) (time : Nat) : (endT r t time).kind = jeC r t.kind t.seen (t.steps + 1) := rfl
theorem jr5 (r : Rul) (id : Int) (p : Pq) (time : Nat) : (endT r (jmR r id p) time).kind = jeC r 0 1 (0 + 1) := endT_kind ..
theorem wake1 {k k' : Bok} {told : List Int} {os2 : List On} {ps : List Pq} {ms : List Int} {os3 : List On} (hk : k.os = []) (hr : k.r = rW) (hn : k.next = 1) (h : StepTo k 0 [pA] k' told os2 ps ms os3) :
  told = [1] /\ k'.r = rW /\ k'.last = 0 /\ k'.next = 2 /\ ∃ o : On, k'.os = [o] /\ o.t.id = 1 /\ o.t.kind = 0 /\ o.t.seen = 1 /\ o.t.steps = 1 /\ o.t.last = 0 /\ o.t.x.c = (jdY (ptX pA) rW.noise rW.sway).c /\ o.t.y.c = (jdY (ptY pA) rW.noise rW.sway).c /\ o.xs.length = 1 /\ o.ys.length = 1 := by
 have ha := h.ahead
 rw [hk] at ha
 have hos2 : os2 = [] := List.eq_nil_of_length_eq_zero (by rw [ha.len]; rfl)
 subst hos2
 have hp := h.pts
 obtain ⟨p, rfl⟩ : ∃ p, ps = [p] := by
  cases hp with
  | cons h1 h2 => cases h2; exact ⟨_, rfl⟩
 have hpp : PtOk pA p := by cases hp with | cons h1 _ => exact h1
 have hh := h.hits
 have hos3 : os3 = [] := List.eq_nil_of_length_eq_zero (by rw [hh.len]; rfl)
 subst hos3
 have hw := h.news
 obtain ⟨u, hu, hc⟩ := NewsTo.succ_inv hw
 obtain rfl := NewsTo.zero_inv hu
 rcases hc with ⟨hc, _⟩ | ⟨_, o, h1, h2, h3, h4, h5⟩
 ·
  exfalso
  rcases hc with hc | hc
  ·
   exact absurd hc (by show ¬ (0 : Int) < 0; decide)
  exact absurd hc (by show ¬ 256 <= 0; decide)
 rw [hr, hn] at h2 h3 h4
 injection h5 with g1 g2 g3 g4
 refine ⟨by rw [g4, hn]; rfl, by rw [h.samer, hr], h.last, by rw [g3, hn]; rfl, o, by rw [g1]; rfl, by rw [h2]; rfl, by rw [h2, jr5]; decide +kernel, by rw [h2]; rfl, by rw [h2]; rfl, by rw [h2]; rfl, ?_, ?_, by rw [h3]; rfl, by rw [h4]; rfl⟩
 ·
  rw [h2]
  show (jdY p.x rW.noise rW.sway).c = _
  exact jgN (hpp.1.trans (cn_ptX pA).symm)
 rw [h2]
 show (jdY p.y rW.noise rW.sway).c = _
 exact jgN (hpp.2.trans (cn_ptY pA).symm)
theorem wake2 {k k' : Bok} {told : List Int} {os2 : List On} {ps : List Pq} {ms : List Int} {os3 : List On} {o : On} (hk : k.os = [o]) (hr : k.r = rW) (hn : k.next = 2) (ho : o.t.id = 1 /\ o.t.kind = 0 /\ o.t.seen = 1 /\ o.t.steps = 1 /\ o.t.last = 0) (hx : o.t.x.c = (jdY (ptX pA) rW.noise rW.sway).c) (hy : o.t.y.c = (jdY (ptY pA) rW.noise rW.sway).c) (hl : o.xs.length = 1 /\ o.ys.length = 1)
  (h : StepTo k 4607182418800017408 [pA, pB] k' told os2 ps ms os3) :
  told = [1, 2] /\ k'.next = 3 /\ ∃ o1 o2 : On, k'.os = [o1, o2] /\ o1.t.id = 1 /\ o2.t.id = 2 /\ o1.t.kind = 1 /\ o2.t.kind = 0 /\ o1.t.steps = 2 /\ o1.xs.length = 2 /\ o1.ys.length = 2 := by
 have ha := h.ahead
 rw [hk, hr] at ha
 have hal : [o].filter jcB = [o] := by
  rw [List.filter_cons_of_pos (by unfold jcB; rw [ho.2.1]; decide)]; rfl
 rw [hal] at ha
 obtain ⟨o', rfl⟩ : ∃ o', os2 = [o'] := by
  cases ha with
  | cons h1 h2 => cases h2; exact ⟨_, rfl⟩
 have hA : AheadR 4607182418800017408 rW.sway o o' := by cases ha with | cons h1 _ => exact h1
 have hp := h.pts
 obtain ⟨p, q, rfl⟩ : ∃ p q, ps = [p, q] := by
  cases hp with
  | cons h1 h2 => cases h2 with
   | cons h3 h4 => cases h4; exact ⟨_, _, rfl⟩
 have hpq : PtOk pA p /\ PtOk pB q := by cases hp with | cons h1 h2 => cases h2 with | cons h3 _ => exact ⟨h1, h3⟩
 obtain ⟨x, y, hxc, hyc, rfl⟩ := hA
 have exs : x.c = sX.c := by
  rw [hxc, ho.2.2.2.2]; exact jd3 hx rfl
 have eys : y.c = sY.c := by
  rw [hyc, ho.2.2.2.2]; exact jd3 hy rfl
 obtain ⟨cnt, tt, hm⟩ := h.most
 have hrow : jbX k.r [p, q] [{ o with t := { o.t with x := x, y := y } }] = [[0, -1]] := by
  show [[jdV k.r.noise k.r.gate x y p.x p.y, jdV k.r.noise k.r.gate x y q.x q.y]] = _
  rw [hr, jk4 exs eys (hpq.1.1.trans (cn_ptX pA).symm) (hpq.1.2.trans (cn_ptY pA).symm), jk4 exs eys (hpq.2.1.trans (cn_ptX pB).symm) (hpq.2.2.trans (cn_ptY pB).symm), e0, e1]
 rw [hrow] at hm
 have hms : ms = [0] := by
  rcases hm with ⟨c1, _⟩ | ⟨_, _, f, hf, rfl, _⟩
  ·
   exact absurd c1 (by decide)
  have hf0 := best_is (G := [0, 1, 2]) (by decide) hf (by decide) (by decide) (by decide +kernel) 0 (by decide)
  have hf1 : f 0 = 0 := hf0
  show [(if f 0 < 2 then (f 0 : Int) else -1)] = [0]
  rw [hf1]; rfl
 subst hms
 have hh := h.hits
 obtain ⟨o3, rfl⟩ : ∃ o3, os3 = [o3] := by
  cases hh with
  | cons h1 h2 => cases h2; exact ⟨_, rfl⟩
 have hH : HitR k.r 4607182418800017408 [p, q] ({ o with t := { o.t with x := x, y := y } }, 0) o3 := by cases hh with | cons h1 _ => exact h1
 obtain ⟨t, g1, g2, g3, g4, g5, g6⟩ := hH
 rw [if_pos (by show (0 : Int) <= 0; decide)] at g1
 obtain ⟨x', y', _, _, rfl⟩ := g1
 have hw := h.news
 obtain ⟨u, hu, hc⟩ := NewsTo.succ_inv (j := 1) hw
 obtain ⟨u0, hu0, hc0⟩ := NewsTo.succ_inv (j := 0) hu
 obtain rfl := NewsTo.zero_inv hu0
 have hid : o3.t.id = 1 := by rw [g4]; exact ho.1
 have htold : ([({ o with t := { o.t with x := x, y := y } } : On)].zip [(0 : Int)]).foldl jmT (List.replicate [pA, pB].length 0) = [1, 0] := by
  show jmT [0, 0] ({ o with t := { o.t with x := x, y := y } }, 0) = [1, 0]
  show [o.t.id, 0] = [1, 0]
  rw [ho.1]
 rw [htold] at hc0
 rcases hc0 with ⟨_, rfl⟩ | ⟨hc0, _⟩
 ·
  rcases hc with ⟨hc, _⟩ | ⟨_, o4, h1, h2, h3, h4, h5⟩
  ·
   exfalso
   rcases hc with hc | hc
   ·
    exact absurd hc (by show ¬ (0 : Int) < 0; decide)
   exact absurd hc (by show ¬ 256 <= 1; decide)
  rw [hr, hn] at h2
  injection h5 with i1 i2 i3 i4
  refine ⟨by rw [i4, hn]; rfl, by rw [i3, hn]; rfl, o3, o4, by rw [i1]; rfl, hid, by rw [h2]; rfl, ?_, by rw [h2, jr5]; decide +kernel, ?_, ?_, ?_⟩
  ·
   rw [g4, hr]
   show jeC rW o.t.kind (jnS (jcF o.t.seen)) (o.t.steps + 1) = 1
   rw [ho.2.1, ho.2.2.1, ho.2.2.2.1]; decide +kernel
  ·
   rw [g4]
   show o.t.steps + 1 = 2
   rw [ho.2.2.2.1]; rfl
  ·
   rw [g5]; exact jn6 hl.1 (by decide)
  rw [g6]; exact jn6 hl.2 (by decide)
 exfalso
 exact hc0 (.inl (by show (0 : Int) < 1; decide))
end Go.Proofs.YtffobakdngbadaaGreat
namespace Go.Proofs.YtffobakdngbadaaGreat
open Go Go.Lk
theorem On.ok.mono {w0 w : World} {o : On} (h : o.ok w) (hle : w0.heap.size <= w.heap.size) : o.ok w0 := ⟨Nat.le_trans hle h.p, h.bx.mono hle, h.by'.mono hle, h.seen, h.lx, h.ly⟩
theorem Bok.ok.mono {w0 w : World} {n : Nat} {k : Bok} (h : k.ok w n) (hle : w0.heap.size <= w.heap.size) : k.ok w0 n :=
 ⟨Nat.le_trans hle h.B, Nat.le_trans hle h.mb, fun o ho => (h.each o ho).mono hle, h.ents, h.low, h.next1, h.next2, h.hist, h.rul, h.cnt⟩
theorem pcs_sl {w : World} {b : Nat} {l : List Plt} (h : w.heap[b]? = some (Row 42 (pcs l))) : SlC w (some ⟨b, 0, none⟩) (pcs l) := SlC.of_row (sp := []) (by rw [List.append_nil]; exact h)
theorem pltA : PltLt pA := ⟨by decide, by decide⟩
theorem pltB : PltLt pB := ⟨by decide, by decide⟩
theorem new_rW : jfA rW = 0 := by decide +kernel
theorem ref_1 : jeZ ninf 0 [pA] = 0 := by decide +kernel
theorem ref_2 : jeZ 0 4607182418800017408 [pA, pB] = 0 := by decide +kernel
set_option maxHeartbeats 1000000 in
theorem wakes_ok (w0 : World) : Ret Tryz.prog 6 [] w0 fun v w' => v = .bool true /\ HS w0 w' [] := by
 refine Ret.start fun w hs => ?_
 refine ja7 Tryz.func6 rfl rfl rfl (Wq (La rfl (Rq (Lc f_10 rfl (rule_ok w) ?_))))
 rintro _ w1 ⟨rfl, hs'⟩
 replace hs := hs.nil hs'
 clear hs'
 refine Lc f_7 rfl (new_ok rW (by decide) (by decide) (by decide) w1) ?_
 rintro _ w2 (⟨hne, _⟩ | ⟨_, B, mb, rfl, hs', hk'⟩)
 ·
  exact absurd new_rW hne
 have hk0 := hk'.mono hs.size
 replace hs : HS w0 w2 (bok0 rW B mb).bks := by have := hs.call hs' hk'.own; simpa using this
 clear hs' hk'
 refine Lm rfl (Lx rfl rfl (Lx rfl rfl (La rfl (La rfl (Rqq (Lm rfl (jk7 rfl (jaA (by omega)) ?_)))))))
 refine Lm rfl (Gm rfl rfl (Rw rfl (jcV rfl u_28 rfl rfl (Lpf rfl (Rt (Wf rfl (Ws (Wq (Lm rfl (jbE rfl rfl (Pl.builtN Tryz.pl42 rfl) (jb4 rfl hs jeA jg7 rfl (by decide) rfl (by simp [Value.cells]) ?_)))))))))))
 intro b26 w hb26 hnb26 hs
 simp only [List.flatMap_cons, List.flatMap_nil, jeT, jdL, jcS, je1, jd2, jcR, jdK, jeS, jeU, List.append_nil, List.set_cons_succ, List.set_cons_zero, List.cons_append, List.nil_append] at hs
 obtain ⟨k0, hk0e⟩ : ∃ k0, k0 = bok0 rW B mb := ⟨_, rfl⟩
 rw [<- hk0e] at hk0
 replace hs : HS w0 w (k0.bks ++ [(b26, Row 42 (pcs [pA]))]) := by rw [hk0e]; exact hs
 have hI1 : StepIn w0 0 1 k0 0 (some ⟨b26, 0, none⟩) [pA] [(b26, Row 42 (pcs [pA]))] :=
  ⟨hk0, by decide, Own.cons hb26 Own.nil, fun w' L' h1 _ h2 => pcs_sl (h1.has _ (h2 _ (List.mem_singleton.2 rfl))), rfl, by decide, fun i hi => (by match i, hi with | 0, _ => exact pltA), by decide, by rw [hk0e]; show (1 : Int) + 256 <= 1000000; decide⟩
 have hS1 := step_ok w0 w 0 1 k0 0 (some ⟨b26, 0, none⟩) 1 [pA] _ hs hI1
 rw [show k0.B = B by rw [hk0e]] at hS1
 refine Lc f_13 rfl (hS1) ?_
 rintro _ w1 (⟨hne, _⟩ | ⟨_, k1, v1, M1, told1, os2, ps, ms, os3, rfl, hs1, hb1, _, hk1, hst⟩)
 ·
  exact absurd (by rw [hk0e]; exact ref_1) hne
 have hk1B : k1.B = B := by rw [hst.sameB, hk0e]
 obtain ⟨rfl, hr1, hl1, hn1, o, ho1, hoi, hok, hose, host, hola, hox, hoy, hoxs, hoys⟩ := wake1 (by rw [hk0e]) (by rw [hk0e]) (by rw [hk0e]) hst
 clear hs hst hS1 hI1
 have hs : HS w0 w1 (k1.bks ++ ([(b26, Row 42 (pcs [pA]))] ++ M1)) := by rw [<- List.append_assoc]; exact hs1
 clear hs1
 have hM1 := hb1.own
 obtain ⟨a1, c1, rfl, _⟩ := hb1.slice
 obtain ⟨L1, hL1⟩ : ∃ L1, L1 = [(b26, Row 42 (pcs [pA]))] ++ M1 := ⟨_, rfl⟩
 have hL1o : Own w0 L1 := by rw [hL1]; exact (Own.cons hb26 Own.nil).app hM1
 have hM1L : ∀ p ∈ M1, p ∈ L1 := fun p hp => by rw [hL1]; exact List.mem_append_right _ hp
 rw [<- hL1] at hs
 refine Lm rfl (Lx rfl rfl (Lx rfl rfl (La rfl (La rfl (Rq (Lm rfl (jbE rfl rfl (Pl.builtN Tryz.pl42 rfl) (jbE rfl rfl (Pl.builtN Tryz.pl42 rfl) (jb4 rfl hs jeA jg7 rfl (by decide) rfl (by simp [Value.cells]) ?_)))))))))
 intro b34 w hb34 hnb34 hs
 simp only [List.flatMap_cons, List.flatMap_nil, jeT, jdL, jcS, je1, jd2, jcR, jdK, jeS, jeU, List.append_nil, List.set_cons_succ, List.set_cons_zero, List.cons_append, List.nil_append] at hs
 replace hs : HS w0 w (k1.bks ++ (L1 ++ [(b34, Row 42 (pcs [pA, pB]))])) := by rw [<- List.append_assoc]; exact hs
 have hI2 : StepIn w0 1 2 k1 4607182418800017408 (some ⟨b34, 0, none⟩) [pA, pB] (L1 ++ [(b34, Row 42 (pcs [pA, pB]))]) :=
  ⟨hk1, by decide, hL1o.app (Own.cons hb34 Own.nil), fun w' L' h1 _ h2 => pcs_sl (h1.has _ (h2 _ (List.mem_append_right _ (List.mem_singleton.2 rfl)))), rfl, by decide, fun i hi => (by match i, hi with | 0, _ => exact pltA | 1, _ => exact pltB), by decide, by rw [hn1]; decide⟩
 have hS2 := step_ok w0 w 1 2 k1 4607182418800017408 (some ⟨b34, 0, none⟩) 2 [pA, pB] _ hs hI2
 rw [hk1B] at hS2
 refine Lc f_13 rfl (hS2) ?_
 rintro _ w1 (⟨hne, _⟩ | ⟨_, k2, v2, M2, told2, os2', ps', ms', os3', rfl, hs1, hb2, _, hk2, hst⟩)
 ·
  exact absurd (by rw [hl1]; exact ref_2) hne
 have hk2B : k2.B = B := by rw [hst.sameB, hk1B]
 obtain ⟨rfl, hn2, o1, o2, ho2, h1i, h2i, h1k, h2k, h1s, h1x, h1y⟩ := wake2 ho1 hr1 hn1 ⟨hoi, hok, hose, host, hola⟩ hox hoy ⟨hoxs, hoys⟩ hst
 clear hs hst hS2 hI2
 obtain ⟨L2, hL2⟩ : ∃ L2, L2 = (L1 ++ [(b34, Row 42 (pcs [pA, pB]))]) ++ M2 := ⟨_, rfl⟩
 have hM2 := hb2.own
 have hL2o : Own w0 L2 := by rw [hL2]; exact (hL1o.app (Own.cons hb34 Own.nil)).app hM2
 have hM1L2 : ∀ p ∈ M1, p ∈ L2 := fun p hp => by rw [hL2]; exact List.mem_append_left _ (List.mem_append_left _ (hM1L p hp))
 have hM2L2 : ∀ p ∈ M2, p ∈ L2 := fun p hp => by rw [hL2]; exact List.mem_append_right _ hp
 have hs : HS w0 w1 (k2.bks ++ L2) := by rw [hL2, <- List.append_assoc]; exact hs1
 clear hs1
 obtain ⟨a2, c2, rfl, _⟩ := hb2.slice
 refine Lm rfl (Lx rfl rfl (Lx rfl rfl (La rfl (La rfl (Rq (Lm rfl ?_))))))
 have hT := jnB w0 w1 2 k2 L2 hs hk2 hL2o
 rw [hk2B, ho2] at hT
 refine Lc f_12 rfl (hT) ?_
 rintro _ w1 ⟨M3, hs1, hb3⟩
 clear hs hT
 rw [show ([o1, o2] : List On).length = 2 from rfl] at hb3
 obtain ⟨a3, c3, rfl, _⟩ := hb3.slice
 obtain ⟨L3, hL3⟩ : ∃ L3, L3 = L2 ++ M3 := ⟨_, rfl⟩
 have hL3o : Own w0 L3 := by rw [hL3]; exact hL2o.app hb3.own
 have hs : HS w0 w1 (k2.bks ++ L3) := by rw [hL3, <- List.append_assoc]; exact hs1
 clear hs1
 have hM3 : ∀ p ∈ M3, p ∈ L3 := fun p hp => by rw [hL3]; exact List.mem_append_right _ hp
 have hL23 : ∀ p ∈ L2, p ∈ L3 := fun p hp => by rw [hL3]; exact List.mem_append_left _ hp
 have hq1 : SlC w1 a1 (il [1]) := Bl.slcM hb1 hs (fun p hp => List.mem_append_right _ (hL23 _ (hM1L2 p hp)))
 have hq2 : SlC w1 a2 (il [1, 2]) := Bl.slcM hb2 hs (fun p hp => List.mem_append_right _ (hL23 _ (hM2L2 p hp)))
 refine La rfl (Rqq (Lm rfl (jk7 rfl (jaA (by omega)) ?_)))
 refine Lm rfl (Gm rfl rfl (Rw rfl (jk7 rfl (jaA (by omega)) ?_)))
 refine Lpf rfl (Lm rfl (Gm rfl rfl (Rw rfl (Le jbW rfl (Rw rfl (jk7 rfl (jaA (by omega)) ?_))))))
 refine Lpf rfl (Lm rfl (Gm rfl rfl (Rw rfl (Li jbW i_3 rfl jfV (by omega) (hq1.ao (by decide)) ?_))))
 refine Rw rfl (Ll o_3 rfl (by exact hq1.2 0 _ rfl) ?_)
 refine Rw rfl (jk7 rfl (jaA (by omega)) ?_)
 refine Lpf rfl (Lm rfl (Gm rfl rfl (Rw rfl (Le jbW rfl (Rw rfl (jk7 rfl (jaA (by omega)) ?_))))))
 refine Lpf rfl (Lm rfl (Gm rfl rfl (Rw rfl (Li jbW i_3 rfl jfV (by omega) (hq2.ao (by decide)) ?_))))
 refine Rw rfl (Ll o_3 rfl (by exact hq2.2 0 _ rfl) ?_)
 refine Rw rfl (jk7 rfl (jaA (by omega)) ?_)
 refine Lpf rfl (Lm rfl (Gm rfl rfl (Rw rfl (Li jbW i_3 rfl natc_1 (by omega) (hq2.ao (by decide)) ?_))))
 refine Rw rfl (Ll o_3 rfl (by exact hq2.2 1 _ rfl) ?_)
 refine Rw rfl (jk7 rfl (jaA (by omega)) ?_)
 refine Lpf rfl (Lm rfl (Gm rfl rfl (Rw rfl (Le jnA rfl (Rw rfl (jk7 rfl (jaA (by omega)) ?_))))))
 refine Lpf rfl (Rt (Wf rfl ?_))
 have hmem1 : o1 ∈ k2.os := by rw [ho2]; simp
 refine Ws (Wq (Lm rfl ?_))
 have hP := past_some w0 w1 2 k2 L3 o1 hs hk2 hmem1 hL3o (by decide)
 rw [hk2B, h1i] at hP
 refine Lc f_14 rfl (hP) ?_
 rintro _ w1 ⟨vx, Mx, vy, My, rfl, hs1, hbx, hby⟩
 clear hs hP
 rw [h1x] at hbx
 rw [h1y] at hby
 obtain ⟨ax, cx, rfl, _⟩ := hbx.slice
 obtain ⟨ay, cy, rfl, _⟩ := hby.slice
 obtain ⟨L4, hL4⟩ : ∃ L4, L4 = L3 ++ (Mx ++ My) := ⟨_, rfl⟩
 have hL4o : Own w0 L4 := by rw [hL4]; exact hL3o.app (hbx.own.app hby.own)
 have hs : HS w0 w1 (k2.bks ++ L4) := by rw [hL4, <- List.append_assoc]; exact hs1
 clear hs1
 have hM3' : ∀ p ∈ M3, p ∈ L4 := fun p hp => by rw [hL4]; exact List.mem_append_left _ (hM3 p hp)
 have hno : ∀ u ∈ k2.os, u.t.id ≠ 9 := by
  rw [ho2]
  intro u hu
  simp only [List.mem_cons, List.not_mem_nil, or_false] at hu
  rcases hu with rfl | rfl <;> omega
 refine Lm rfl (Lx rfl rfl (Lx rfl rfl (La rfl (La rfl (Rq (Lm rfl ?_))))))
 have hG := get_none w0 w1 2 k2 L4 9 hs hk2 hno
 rw [hk2B] at hG
 refine Lc f_15 rfl (hG) ?_
 rintro _ w1 ⟨rfl, hs1⟩
 clear hs hG
 have hs := hs1
 clear hs1
 refine Lm rfl (Lx rfl rfl (Lx rfl rfl ?_))
 refine jbL rfl hs jcE ?_; intro b10 w hb10 _ hs; replace hs := HS.push (L := k2.bks ++ L4) hs
 refine jaQ hs (i := 0) rfl jcE rfl rfl (by rfl) (by simp [Trk.cells]) (by exact Trk.one trk0) ?_
 intro w hs
 dsimp only [sS, sZ, sA, sN] at hs
 refine La rfl (Rt (Wsq ?_))
 replace hs : HS w0 w (k2.bks ++ L4) := HS.pop hs hb10
 have hq3 : SlC w a3 (tcs [o1.t, o2.t]) := Bl.slcM hb3 hs (fun p hp => List.mem_append_right _ (hM3' p hp))
 have c00 : w.cell? ((aD a3).add 0) = some (.int .i64 o1.t.id) := hq3.2 0 _ rfl
 have c01 : w.cell? ((aD a3).add 1) = some (.int .i8 o1.t.kind) := hq3.2 1 _ rfl
 have c11 : w.cell? ((aD a3).add 16) = some (.int .i8 o2.t.kind) := hq3.2 16 _ rfl
 have c05 : w.cell? ((aD a3).add 13) = some (.int .i64 o1.t.steps) := hq3.2 13 _ rfl
 refine Wr (Lm rfl ?_)
 refine LiN jnA jcE rfl jfV (by omega) (hq3.ao (by rw [jh2]; show 0 < 2 * 15; decide)) ?_
 refine Lf 0 jcC rfl i_3 ?_
 refine Ll o_3 rfl (by (rw [jaR]; exact c00)) ?_
 refine jdS rfl (jaF (by omega)) ?_
 refine Lm rfl (Gm rfl rfl (Rw rfl ?_))
 refine LiN jnA jcE rfl jfV (by omega) (hq3.ao (by rw [jh2]; show 0 < 2 * 15; decide)) ?_
 refine Rw rfl (Lf 1 jcC rfl jmS (Rw rfl ?_))
 refine Ll o_46 rfl (by (rw [jaR]; exact c01)) ?_
 refine Rw rfl (jdS rfl (jaF (by omega)) ?_)
 refine Lpt rfl (Lm rfl (Gm rfl rfl (Rw rfl ?_)))
 refine LiN jnA jcE rfl natc_1 (by omega) (hq3.ao (by rw [jh2]; show 0 < 2 * 15; decide)) ?_
 refine Rw rfl (Lf 1 jcC rfl jmS (Rw rfl ?_))
 refine Ll o_46 rfl (by (rw [jaR]; exact c11)) ?_
 refine Rw rfl (jdS rfl (jaF (by omega)) ?_)
 refine Lpt rfl (Lm rfl (Gm rfl rfl (Rw rfl ?_)))
 refine LiN jnA jcE rfl jfV (by omega) (hq3.ao (by rw [jh2]; show 0 < 2 * 15; decide)) ?_
 refine Rw rfl (Lf 13 jcC rfl i_3 (Rw rfl ?_))
 refine Ll o_3 rfl (by (rw [jaR]; exact c05)) ?_
 refine Rw rfl (jdS rfl (jaF (by omega)) ?_)
 refine Lpt rfl (Lm rfl (Gm rfl rfl (Rw rfl (Le jkX rfl (Rw rfl (jdS rfl (jaF (by omega)) ?_))))))
 refine Lpt rfl (Lm rfl (Gm rfl rfl (Rw rfl (Le jkX rfl (Rw rfl (jdS rfl (jaF (by omega)) ?_))))))
 refine Lpt rfl (Lm rfl (Gm rfl rfl (Rw rfl (jcP rfl (Lpt rfl (Lm rfl (Gm rfl rfl ?_)))))))
 have hD := drop_none w0 w 2 k2 L4 9 hs hk2 hno
 rw [hk2B] at hD
 refine Rw rfl (Lc f_16 rfl (hD) ?_)
 rintro _ w1 ⟨rfl, hs1⟩
 refine Rw rfl (jdS rfl (jaF (by omega)) ?_)
 refine Lpt rfl (La rfl (Rt (jaW (ja9 rfl rfl ?_))))
 exact ⟨_, rfl, rfl, hs1.forget (hk2.own.app hL4o)⟩
structure Mv where
 q : Int
 time : Nat
 a : Option Addr
 c : Nat
 ps : List Plt
 id : Int
def Mv.cells (m : Mv) : List Value := [.int .i64 m.q, .float .f64 m.time, .slice m.a m.ps.length m.c, .int .i64 m.id]
structure MvOk (w : World) (m : Mv) : Prop where
 time : m.time < 18446744073709551616
 pl : SlC w m.a (pcs m.ps)
 len : m.ps.length <= 1000000000000000
 lt : ∀ i, i < m.ps.length -> PltLt (m.ps.getD i plt0)
end Go.Proofs.YtffobakdngbadaaGreat
namespace Go.Proofs.YtffobakdngbadaaGreat
open Go Go.Lk Go.Pr
theorem NewsTo.facts {r : Rul} {time : Nat} {ps : List Pq} {s u : NS} {j : Nat} (h : NewsTo r time ps s j u) (h0 : 1 <= s.next) :
  u.told.length = s.told.length /\ s.next <= u.next /\ u.next <= s.next + j /\ (∀ q, u.told.getD q 0 = s.told.getD q 0 ∨ (¬ 0 < s.told.getD q 0 /\ s.next <= u.told.getD q 0)) /\ u.os.length <= s.os.length + j := by
 induction h with
 | zero => exact ⟨rfl, Int.le_refl _, by omega, fun q => .inl rfl, by omega⟩
 | old h1 _ ih =>
  obtain ⟨a, b, c, d, e⟩ := ih
  exact ⟨a, b, by omega, d, by omega⟩
 | @new j u o h1 h2 _ _ _ _ ih =>
  obtain ⟨a, b, c, d, e⟩ := ih
  refine ⟨by rw [List.length_set, a], by show s.next <= u.next + 1; omega, by show u.next + 1 <= s.next + ((j + 1 : Nat) : Int); omega, fun q => ?_, by rw [List.length_append, List.length_singleton]; omega⟩
  show (u.told.set j u.next).getD q 0 = _ ∨ (_ /\ s.next <= (u.told.set j u.next).getD q 0)
  by_cases hq : j = q
  ·
   subst hq
   by_cases hl : j < u.told.length
   ·
    have e1 : (u.told.set j u.next).getD j 0 = u.next := by rw [List.getD_eq_getElem?_getD, List.getElem?_set_self hl]; rfl
    rw [e1]
    right
    refine ⟨fun h => h2 (.inl ?_), b⟩
    rcases d j with d | d
    ·
     rw [d]; exact h
    exact absurd h d.1
   rw [List.set_eq_of_length_le (by omega)]; exact d j
  have e1 : (u.told.set j u.next).getD q 0 = u.told.getD q 0 := by rw [List.getD_eq_getElem?_getD, List.getElem?_set_ne hq, List.getD_eq_getElem?_getD]
  rw [e1]; exact d q
theorem MostAns.inj {rows : List (List Int)} {ms : List Int} {c t e : Int} (h : MostAns rows ms c t e) {i j : Nat} (hi : i < ms.length) (hj : j < ms.length) (h0 : 0 <= ms.getD i 0) (he : ms.getD i 0 = ms.getD j 0) : i = j := by
 rcases h with ⟨_, rfl, _⟩ | ⟨_, _, f, hf, rfl, _⟩
 ·
  simp at hi
 rw [List.length_map, List.length_range] at hi hj
 have e1 : ∀ q, q < rows.length -> ((List.range rows.length).map (fun i => if f i < wid rows 0 then (f i : Int) else -1)).getD q 0 = if f q < wid rows 0 then (f q : Int) else -1 := fun q hq => by
  rw [List.getD_eq_getElem?_getD, List.getElem?_map, List.getElem?_range hq]; rfl
 rw [e1 i hi, e1 j hj] at he
 rw [e1 i hi] at h0
 have hfi : f i = f j := by
  split at he
  ·
   split at he
   ·
    omega
   omega
  next hh => rw [if_neg hh] at h0; omega
 exact hf.bij.inj _ _ (by omega) (by omega) hfi
theorem ref_len {last time : Nat} {l : List Plt} (h : jeZ last time l = 0) : l.length <= 256 := by
 apply Classical.byContradiction
 intro hh
 unfold jeZ at h
 rw [if_pos (by omega)] at h
 cases h
structure Least (k : Bok) (told : List Int) (os2 : List On) (ms : List Int) : Prop where
 mate : ∀ i, i < os2.length -> 0 <= ms.getD i 0 -> told.getD (ms.getD i 0).toNat 0 = (os2.getD i on0).t.id
 told : ∀ i q, i < os2.length -> q < told.length -> told.getD q 0 = (os2.getD i on0).t.id -> ms.getD i 0 = q
end Go.Proofs.YtffobakdngbadaaGreat
namespace Go.Proofs.YtffobakdngbadaaGreat
open Go Go.Lk
theorem gtZ_fv {x : Nat} {v : Int} (h : FV x v) : gtZ x = decide (0 < v) := h.gtZ'
theorem jrH {x : Nat} {v : Int} (h : FV x v) : FV (jcZ x) (max v 0) := by
 unfold jcZ
 rw [gtZ_fv h]
 by_cases h0 : 0 < v
 ·
  rw [decide_eq_true h0, if_pos rfl, show max v 0 = v by omega]; exact h
 rw [decide_eq_false h0, if_neg (by decide), show max v 0 = 0 by omega]; exact fv_0
theorem nm_above {c x M : Nat} (h : NM c x M) : NM c (jcZ x) M := by
 obtain ⟨v, h1, h2, h3⟩ := h
 exact ⟨_, jrH h1, by omega, by omega⟩
theorem nm_quo {c x y A k e : Nat} {u : Int} (hc : c = 1074) (hk : k <= 1000) (hx : NM c x A) (hy : FV y u) (h1 : ((2 ^ c : Nat) : Int) <= u) (he : e = 2000) (hu2 : u.natAbs <= 2 ^ e) (hA : A <= 2 ^ k) : NM c (fop .quo x y) (2 ^ k) := by
 obtain ⟨v, v1, v2, v3⟩ := hx
 have pc := Nat.two_pow_pos c
 have h3 : v <= u * ((2 ^ k : Nat) : Int) := by
  have h4 := Nat.mul_le_mul_right (2 ^ c) hA
  have h5 : (2 ^ k : Nat) * 2 ^ c <= u.natAbs * 2 ^ k := by rw [Nat.mul_comm]; exact Nat.mul_le_mul_right _ (by omega)
  have h6 : u * ((2 ^ k : Nat) : Int) = ((u.natAbs * 2 ^ k : Nat) : Int) := by rw [Int.natCast_mul, show ((u.natAbs : Nat) : Int) = u by omega]
  rw [h6]; omega
 obtain ⟨z, z1, z2, z3, _⟩ := jm2 c hc hk v1 hy v2 h3 (by omega) e he hu2
 exact ⟨z, z1, z2, z3⟩
theorem fv_two (c : Nat) (hc : c = 1074) : FV 4611686018427387904 ((2 * 2 ^ c : Nat) : Int) := by
 obtain ⟨e, he⟩ : ∃ e, e = 1023 := ⟨_, rfl⟩
 have := FV.nat (r := 4611686018427387904) (by decide)
 rwa [jgP (e := e) (m := 0) (by omega) (by decide), show 4503599627370496 + 0 = 2 * 2 ^ 51 by decide, Nat.mul_assoc, <- Nat.pow_add, show 51 + e = c by omega] at this
theorem fv_three (c : Nat) (hc : c = 1074) : FV 4613937818241073152 ((3 * 2 ^ c : Nat) : Int) := by
 obtain ⟨e, he⟩ : ∃ e, e = 1023 := ⟨_, rfl⟩
 have := FV.nat (r := 4613937818241073152) (by decide)
 rwa [jgP (e := e) (m := 2251799813685248) (by omega) (by decide), show 4503599627370496 + 2251799813685248 = 3 * 2 ^ 51 by decide, Nat.mul_assoc, <- Nat.pow_add, show 51 + e = c by omega] at this
theorem jdQ {a b : Nat} (h : a <= b) : 2 ^ a <= 2 ^ b := Nat.pow_le_pow_right (by decide) h
theorem jnC {c e g : Nat} (hc : c = 1074) (he : e = 2000) (h : g <= 900) : 2 ^ g * 2 ^ c <= 2 ^ e := by
 rw [<- Nat.pow_add]
 exact jdQ (by omega)
theorem jh5 {a b : Nat} (h : b = a + 1) : 2 ^ a + 2 ^ a <= 2 ^ b := by rw [h, Nat.pow_succ]; omega
theorem ahead_pqr {c E P Q R T W : Nat} (hc : c = 1074) {s : Stt} {t w : Nat} (hP : P <= E) (hQ : Q + T + 2 <= E) (hR : R + T + T + 2 <= E) (hW : W + T + T + T + 2 <= E) (hE : E <= 900) (p : NM c s.p (2 ^ P)) (q : NM c s.q (2 ^ Q)) (r : NM c s.r (2 ^ R)) (ht : NM c t (2 ^ T)) (hw : NM c w (2 ^ W)) {Q' R' : Nat} (hQ' : 2 ^ Q + 2 ^ (R + T) <= 3 * 2 ^ Q') (hQ2 : W + T + T <= Q') (hQ3 : Q' <= E) (hR' : 2 ^ R + 2 ^ (W + T) <= 2 ^ R') (hR2 : R' <= E) :
  NM c (jdB s t w).p (2 ^ (E + 3)) /\ NM c (jdB s t w).q (2 ^ (Q' + 2)) /\ NM c (jdB s t w).r (2 ^ R') := by
 unfold jdB
 split
 ·
  obtain ⟨e, he⟩ : ∃ e, e = 2000 := ⟨_, rfl⟩
  have pc := Nat.two_pow_pos c
  have two1 : ((2 ^ c : Nat) : Int) <= ((2 * 2 ^ c : Nat) : Int) := by omega
  have three1 : ((2 ^ c : Nat) : Int) <= ((3 * 2 ^ c : Nat) : Int) := by omega
  have two2 : (((2 * 2 ^ c : Nat) : Int)).natAbs <= 2 ^ e := by
   rw [Int.natAbs_natCast]; have := jnC (g := 2) hc he (by omega); omega
  have three2 : (((3 * 2 ^ c : Nat) : Int)).natAbs <= 2 ^ e := by
   rw [Int.natAbs_natCast]; have := jnC (g := 2) hc he (by omega); omega
  have a : NM c (fop .mul s.q t) (2 ^ (Q + T)) := q.mul hc ht (by rw [<- Nat.pow_add]; exact Nat.le_refl _) (jbQ (by omega))
  have b : NM c (fop .mul s.r t) (2 ^ (R + T)) := r.mul hc ht (by rw [<- Nat.pow_add]; exact Nat.le_refl _) (jbQ (by omega))
  have g : NM c (fop .mul w t) (2 ^ (W + T)) := hw.mul hc ht (by rw [<- Nat.pow_add]; exact Nat.le_refl _) (jbQ (by omega))
  have g2 : NM c (fop .mul (fop .mul w t) t) (2 ^ (W + T + T)) := g.mul hc ht (by rw [<- Nat.pow_add]; exact Nat.le_refl _) (jbQ (by omega))
  have g3 : NM c (fop .mul (fop .mul (fop .mul w t) t) t) (2 ^ (W + T + T + T)) := g2.mul hc ht (by rw [<- Nat.pow_add]; exact Nat.le_refl _) (jbQ (by omega))
  have g4 : NM c (fop .quo (fop .mul (fop .mul (fop .mul w t) t) t) 4613937818241073152) (2 ^ (W + T + T + T)) := nm_quo hc (by omega) g3 (fv_three c hc) three1 he three2 (Nat.le_refl _)
  have g5 : NM c (fop .quo (fop .mul (fop .mul w t) t) 4611686018427387904) (2 ^ (W + T + T)) := nm_quo hc (by omega) g2 (fv_two c hc) two1 he two2 (Nat.le_refl _)
  have b2 : NM c (fop .mul (fop .mul s.r t) t) (2 ^ (R + T + T)) := b.mul hc ht (by rw [<- Nat.pow_add]; exact Nat.le_refl _) (jbQ (by omega))
  have e1 := jdQ hP
  have e2 := jdQ (show Q + T <= E by omega)
  have e3 := jdQ (show R + T + T <= E by omega)
  have e4 := jdQ (show W + T + T + T <= E by omega)
  have d1 := jh5 (a := E) (b := E + 1) rfl
  have d2 := jh5 (a := E + 1) (b := E + 2) rfl
  have d3 := jh5 (a := E + 2) (b := E + 3) rfl
  have e5 := jdQ (show E <= E + 1 by omega)
  have e6 := jdQ (show E + 1 <= E + 2 by omega)
  refine ⟨?_, ?_, r.add hc g hR' (jbQ (by omega))⟩
  ·
   exact nm_above ((((p.add hc a (M := 2 ^ (E + 1)) (by omega) (jbQ (by omega))).add hc a (M := 2 ^ (E + 2)) (by omega) (jbQ (by omega))).add hc b2 (M := 3 * 2 ^ (E + 1)) (by
    have h9 := jdQ (show R + T + T + 2 <= E by omega)
    have h10 := jh5 (a := E + 1) (b := E + 2) rfl
    rw [Nat.pow_add 2 (E + 1) 1] at *
    omega) (flt_three (by omega))).add hc g4 (by
    have h10 : 3 * 2 ^ (E + 1) + 2 ^ (E + 1) = 2 ^ (E + 3) := by rw [show E + 3 = E + 1 + 2 by omega, Nat.pow_add 2 (E + 1) 2]; omega
    omega) (jbQ (by omega)))
  have h1 := q.add hc b (M := 3 * 2 ^ Q') hQ' (flt_three (by omega))
  refine h1.add hc g5 ?_ (jbQ (by omega))
  have := jdQ hQ2
  rw [Nat.pow_add 2 Q' 2]; omega
 exact ⟨p.mono (jdQ (by omega)), q.mono (Nat.le_trans (by have := Nat.two_pow_pos (R + T); rw [Nat.pow_add 2 Q' 2]; omega) (Nat.le_refl _)), r.mono (by have := Nat.two_pow_pos (W + T); omega)⟩
theorem nat_mul {u : Int} (h : 0 <= u) (k : Nat) : u * ((k : Nat) : Int) = ((u.natAbs * k : Nat) : Int) := by
 rw [Int.natCast_mul, show ((u.natAbs : Nat) : Int) = u by omega]
theorem seen_pqr {c E G R : Nat} (hc : c = 1074) {s : Stt} {x n : Nat} {N p r : Int} (hE : 20 <= E) (hE2 : E <= 480) (hG : G <= 800) (hR : R <= 900) (hp : FV s.p p) (p0 : 0 <= p) (p1 : p <= ((2 ^ G * 2 ^ c : Nat) : Int)) (hq : NM c s.q (2 ^ E)) (hr : FV s.r r) (r0 : 0 <= r) (r1 : r <= ((2 ^ R * 2 ^ c : Nat) : Int))
  (hn : FV n N) (N0 : ((2 ^ c : Nat) : Int) <= N * 1048576) (N1 : N <= ((1048576 * 2 ^ c : Nat) : Int)) :
  gtZ (jmK s n) = true /\ (∃ u, FV (jmK s n) u /\ 0 < u /\ p <= u /\ N <= u /\ u <= ((2 ^ (G + 21) * 2 ^ c : Nat) : Int)) /\ (∃ K, FV (jgZ s n) K /\ 0 <= K /\ K <= ((2 ^ c : Nat) : Int)) /\ NM c (jh3 s n) (2 ^ (E + 20)) /\
  (∃ z, FV (jcY s x n).p z /\ 0 <= z /\ z <= N) /\ NM c (jcY s x n).q (2 ^ (E + 1)) /\ (∃ z, FV (jcY s x n).r z /\ 0 <= z /\ z <= r) := by
 have pc := Nat.two_pow_pos c
 have hN : 0 < N := by omega
 obtain ⟨e, he⟩ : ∃ e, e = 2000 := ⟨_, rfl⟩
 have g1 : 2 ^ G <= 2 ^ (G + 20) := jdQ (by omega)
 have g2 : 1048576 <= 2 ^ (G + 20) := by
  have := jdQ (show 20 <= G + 20 by omega)
  omega
 have g3 := jh5 (a := G + 20) (b := G + 21) rfl
 have g4 : 2 ^ G * 2 ^ c + 1048576 * 2 ^ c <= 2 ^ (G + 21) * 2 ^ c := by rw [<- Nat.add_mul]; exact Nat.mul_le_mul_right _ (by omega)
 obtain ⟨u, u1, u2, u3, u4, _⟩ := fv_addN (M := 2 ^ (G + 21)) hc hp hn p0 (by omega) (jbQ (by omega)) (by omega)
 have u1 : FV (jmK s n) u := u1
 have hu : 0 < u := by omega
 have hue : u.natAbs <= 2 ^ e := by
  have := jnC (g := G + 21) hc he (by omega)
  omega
 have hgt : gtZ (jmK s n) = true := by rw [gtZ_fv u1, decide_eq_true hu]
 obtain ⟨K, K1, K2, K3, _⟩ := jm2 c hc (k := 0) (by omega) hp u1 p0 (by rw [show ((2 ^ 0 : Nat) : Int) = 1 from rfl]; omega) hu e he hue
 rw [show 2 ^ 0 * 2 ^ c = 2 ^ c by omega] at K3
 have K1 : FV (jgZ s n) K := K1
 obtain ⟨q, q1, q2, q3⟩ := hq
 have hqu : q <= u * ((2 ^ (E + 20) : Nat) : Int) := by
  rw [nat_mul (by omega)]
  have h1 : 2 ^ c <= u.natAbs * 1048576 := by omega
  have h2 := Nat.mul_le_mul_left (2 ^ E) h1
  have h3 : 2 ^ E * (u.natAbs * 1048576) = u.natAbs * 2 ^ (E + 20) := by
   rw [Nat.pow_add 2 E 20, Nat.mul_left_comm]
  omega
 obtain ⟨H, H1, H2, H3, _⟩ := jm2 c hc (k := E + 20) (by omega) q1 u1 q2 hqu hu e he hue
 have H1 : FV (jh3 s n) H := H1
 have hH : NM c (jh3 s n) (2 ^ (E + 20)) := ⟨H, H1, H2, H3⟩
 -- the share of the noise
 have hNf : N.natAbs <= rv 9218868437227405311 := by
  have := (jbQ (e := 20) (by omega)).bound hc
  omega
 obtain ⟨z, Z, z1, z2, z3⟩ := fv_share c hc K1 hn K2 K3 hNf
 have z4 : FV (fop .mul (jgZ s n) n) Z := by rw [jbY z1]; exact z2
 have zb : 0 <= Z /\ Z <= N := by omega
 have hpF : ∃ y, FV (jcY s x n).p y /\ 0 <= y /\ y <= N := by
  unfold jcY
  rw [if_pos hgt]
  dsimp only
  unfold ltB
  rw [z4.ltt hp]
  by_cases h : Z < p
  ·
   rw [decide_eq_true h, if_pos rfl]; exact ⟨Z, z4, zb⟩
  rw [decide_eq_false h, if_neg (by decide)]; exact ⟨p, hp, p0, by omega⟩
 -- how sure the speed goes with the place
 have hqF : NM c (fop .mul (jh3 s n) n) (2 ^ (E + 1)) := by
  obtain ⟨J, hJ⟩ : ∃ J, J = u.natAbs.log2 := ⟨_, rfl⟩
  have j1 : 2 ^ J <= u.natAbs := by rw [hJ]; exact Nat.log2_self_le (by omega)
  have j2 : u.natAbs < 2 ^ (J + 1) := by rw [hJ]; exact Nat.lt_log2_self
  have fin : ∀ k, k <= 1000 -> q <= u * ((2 ^ k : Nat) : Int) -> 2 ^ k * N.natAbs <= 2 ^ (E + 1) * 2 ^ c -> NM c (fop .mul (jh3 s n) n) (2 ^ (E + 1)) := fun k hk h1 h2 => by
   obtain ⟨h, a1, a2, a3, _⟩ := jm2 c hc hk q1 u1 q2 h1 hu e he hue
   have h3 : h.natAbs * N.natAbs <= 2 ^ (E + 1) * 2 ^ c * 2 ^ c := by
    have h4 := Nat.mul_le_mul_right N.natAbs (show h.natAbs <= 2 ^ k * 2 ^ c by omega)
    have h5 := Nat.mul_le_mul_right (2 ^ c) h2
    rw [Nat.mul_right_comm] at h4
    omega
   obtain ⟨y, y1, y2, y3, _⟩ := fv_mulB hc (show FV (jh3 s n) h from a1) hn (jbQ (e := E + 1) (by omega)) h3
   have := y3 a2 (by omega)
   exact ⟨y, y1, this, by omega⟩
  by_cases hJE : J <= E + c
  ·
   have hJc : c <= J + 21 := by
    have h1 : 2 ^ c < 2 ^ (J + 21) := by
     have h2 : 2 ^ (J + 21) = 2 ^ (J + 1) * 1048576 := by rw [show J + 21 = J + 1 + 20 by omega, Nat.pow_add 2 (J + 1) 20]
     omega
    have := (Nat.pow_lt_pow_iff_right (by decide)).1 h1
    omega
   refine fin (E + c - J) (by omega) ?_ ?_
   ·
    rw [nat_mul (by omega)]
    have h1 := Nat.mul_le_mul_right (2 ^ (E + c - J)) j1
    rw [<- Nat.pow_add, show J + (E + c - J) = E + c by omega, Nat.pow_add] at h1
    omega
   have h1 := Nat.mul_le_mul_left (2 ^ (E + c - J)) (show N.natAbs <= 2 ^ (J + 1) by omega)
   rw [<- Nat.pow_add, show E + c - J + (J + 1) = E + 1 + c by omega, Nat.pow_add 2 (E + 1)] at h1
   exact h1
  refine fin 0 (by omega) ?_ ?_
  ·
   have h1 := jdQ (show E + c <= J by omega)
   rw [Nat.pow_add] at h1
   rw [show ((2 ^ 0 : Nat) : Int) = 1 from rfl]
   omega
  have h1 := Nat.mul_le_mul_right (2 ^ c) (jdQ (show 20 <= E + 1 by omega))
  omega
 have hrF : ∃ y, FV (jcY s x n).r y /\ 0 <= y /\ y <= r := by
  obtain ⟨v, v1, v2, v3⟩ := hH.mul hc (show NM c s.q (2 ^ E) from ⟨q, q1, q2, q3⟩) (M := 2 ^ (E + 20 + E)) (by rw [<- Nat.pow_add]; exact Nat.le_refl _) (jbQ (by omega))
  have hb := (jbQ (e := 990) (by omega)).bound hc
  have b1 := Nat.mul_le_mul_right (2 ^ c) (jdQ (show E + 20 + E <= 990 by omega))
  have b2 := Nat.mul_le_mul_right (2 ^ c) (jdQ (show R <= 990 by omega))
  generalize 2 ^ 990 * 2 ^ c = big at hb b1 b2
  obtain ⟨y, y1, y2⟩ := fv_sub c hc hr v1 (by omega)
  have y3 := jnP (c := c) (T := r - v) (S := r) (by omega)
  rw [rd_fv hc hr] at y3
  have y4 : FV (fop .sub s.r (fop .mul (jh3 s n) s.q)) (rd c (r - v)) := by rw [jbY y1]; exact y2
  unfold jcY
  rw [if_pos hgt]
  exact ⟨_, jrH y4, by omega, by omega⟩
 refine ⟨hgt, ⟨u, u1, hu, u2, u3, u4⟩, ⟨K, K1, K2, K3⟩, hH, hpF, ?_, hrF⟩
 unfold jcY
 rw [if_pos hgt]
 exact hqF
structure StS (c Q R : Nat) (vx : Int) (s : Stt) : Prop where
 x : FV s.x vx
 v : FV s.v 0
 p : NM c s.p (2 ^ 20)
 q : NM c s.q (2 ^ Q)
 r : NM c s.r (2 ^ R)
theorem jeF {c x y : Nat} {v : Int} (hc : c = 1074) (hx : FV x v) (hy : FV y 0) : FV (fop .add x y) v := by
 obtain ⟨z, z1, z2⟩ := fv_add c hc hx hy (by rw [Int.add_zero]; exact hx.fin)
 rw [Int.add_zero, rd_fv hc hx] at z2
 rw [jbY z1]; exact z2
theorem fv_self {c x y : Nat} {v : Int} (hc : c = 1074) (hx : FV x v) (hy : FV y v) : FV (fop .sub x y) 0 := by
 obtain ⟨z, z1, z2⟩ := fv_sub c hc hx hy (by rw [Int.sub_self]; exact Nat.zero_le _)
 rw [Int.sub_self, jk0] at z2
 rw [jbY z1]; exact z2
theorem jeE {x y : Nat} {v u : Int} (hx : FV x v) (hy : FV y u) (h : v * u = 0) : FV (fop .mul x y) 0 := by
 obtain ⟨r, hr, h0, _⟩ := fv_mul hx hy
 rw [jbY hr]; exact h0 h
structure AhS (c Q R : Nat) (vx : Int) (s : Stt) : Prop where
 x : FV s.x vx
 v : FV s.v 0
 p : NM c s.p (2 ^ (Q + 25))
 q : NM c s.q (2 ^ (Q + 1))
 r : NM c s.r (2 ^ (R + 1))
theorem StS.ahead {c Q R : Nat} {vx : Int} {s : Stt} {t w : Nat} (hc : c = 1074) (h : StS c Q R vx s) (hQ : 70 <= Q) (hQ2 : Q <= 480) (hR : 42 <= R) (hRQ : R + 21 <= Q) (ht : NM c t (2 ^ 20)) (hw : NM c w (2 ^ 20)) : AhS c Q R vx (jdB s t w) := by
 obtain ⟨Q1, rfl⟩ : ∃ Q1, Q = Q1 + 1 := ⟨Q - 1, by omega⟩
 have e1 := jh5 (a := Q1) (b := Q1 + 1) rfl
 have e2 := jh5 (a := R) (b := R + 1) rfl
 have e3 := jdQ (show R + 20 <= Q1 by omega)
 have e4 := jdQ (show 20 + 20 <= R by omega)
 obtain ⟨a1, a2, a3⟩ := ahead_pqr hc (s := s) (t := t) (w := w) (E := Q1 + 1 + 22) (P := 20) (Q := Q1 + 1) (R := R) (T := 20) (W := 20) (by omega) (by omega) (by omega) (by omega) (by omega) h.p h.q h.r ht hw (Q' := Q1) (R' := R + 1) (by omega) (by omega) (by omega) (by omega) (by omega)
 refine ⟨?_, ?_, a1, a2, a3⟩
 ·
  obtain ⟨u, u1, _⟩ := ht
  unfold jdB
  split
  ·
   exact jeF hc h.x (jeE h.v u1 (Int.zero_mul _))
  exact h.x
 unfold jdB
 split
 ·
  exact h.v
 exact h.v
theorem AhS.seen {c Q R : Nat} {vx N : Int} {s : Stt} {x n : Nat} (hc : c = 1074) (h : AhS c Q R vx s) (hQ : 70 <= Q) (hQ2 : Q <= 479) (hR2 : R <= 800) (hx : FV x vx) (hn : FV n N) (N0 : ((2 ^ c : Nat) : Int) <= N * 1048576) (N1 : N <= ((1048576 * 2 ^ c : Nat) : Int)) :
  StS c (Q + 2) (R + 1) vx (jcY s x n) /\ FV (jpS s x n) 0 := by
 obtain ⟨p, p1, p2, p3⟩ := h.p
 obtain ⟨r, r1, r2, r3⟩ := h.r
 obtain ⟨hgt, ⟨u, u1, u2, _, _, u3⟩, ⟨K, K1, K2, K3⟩, hH, ⟨z, z1, z2, z3⟩, hq, ⟨y, y1, y2, y3⟩⟩ := seen_pqr (x := x) (G := Q + 25) (R := R + 1) hc (by omega) (by omega) (by omega) (by omega) p1 p2 p3 h.q r1 r2 r3 hn N0 N1
 have hy0 : FV (seenY s x) 0 := fv_self hc hx h.x
 obtain ⟨H, H1, _⟩ := hH
 refine ⟨⟨?_, ?_, ⟨z, z1, z2, by rw [show 2 ^ 20 = 1048576 from rfl]; omega⟩, hq, ⟨y, y1, y2, by omega⟩⟩, ?_⟩
 ·
  unfold jcY
  rw [if_pos hgt]
  exact jeF hc h.x (jeE K1 hy0 (Int.mul_zero _))
 ·
  unfold jcY
  rw [if_pos hgt]
  exact jeF hc h.v (jeE H1 hy0 (Int.mul_zero _))
 unfold jpS
 rw [if_pos hgt]
 obtain ⟨e, he⟩ : ∃ e, e = 2000 := ⟨_, rfl⟩
 have hue : u.natAbs <= 2 ^ e := by
  have := jnC (g := Q + 25 + 21) hc he (by omega)
  omega
 obtain ⟨f, f1, _, _, f2⟩ := jm2 c hc (k := 0) (by omega) (jeE hy0 hy0 (Int.zero_mul _)) u1 (Int.le_refl _) (by rw [show ((2 ^ 0 : Nat) : Int) = 1 from rfl]; omega) u2 e he hue
 rw [f2 rfl] at f1
 exact f1
theorem cost_still {g n px py : Nat} {x y : Stt} {gv : Int} (hx : FV (jpS x px n) 0) (hy : FV (jpS y py n) 0) (hg : FV g gv) (h0 : 0 <= gv) : 0 <= jdV n g x y px py := by
 obtain ⟨c, hc⟩ : ∃ c, c = 1074 := ⟨_, rfl⟩
 have hd : FV (jrD n x y px py) 0 := jeF hc hx hy
 unfold jdV costD
 have hl : leB (jrD n x y px py) g = true := by
  unfold leB
  rw [hd.leq hg, decide_eq_true h0]
 rw [if_pos hl]
 obtain ⟨r, z, m1, m2, m3, m4⟩ := jq5 c hc hd (Int.le_refl _) (Int.natCast_nonneg _)
 obtain ⟨m, _, hm⟩ := jkN c hc m2 m3 m4
 unfold cV
 rw [jbY m1, hm]
 exact Int.natCast_nonneg _
theorem whN_lt (c m : Nat) (p : Int) (hc : c = 1074) (hp : -1074 <= p) : m * 2 ^ (p + 1074).toNat < (whN m p + 1) * 2 ^ c := by
 unfold whN
 rw [Nat.shiftLeft_eq, Nat.shiftRight_eq_div_pow]
 have pc := Nat.two_pow_pos c
 by_cases h0 : 0 <= p
 ·
  rw [show (-p).toNat = 0 by omega, Nat.pow_zero, Nat.div_one, Nat.add_mul, Nat.mul_assoc m, <- Nat.pow_add, show (p + 1074).toNat = p.toNat + c by omega]
  omega
 rw [show p.toNat = 0 by omega, Nat.pow_zero, Nat.mul_one, show c = (-p).toNat + (p + 1074).toNat by omega, Nat.pow_add, <- Nat.mul_assoc]
 refine Nat.mul_lt_mul_of_pos_right ?_ (Nat.two_pow_pos _)
 have h1 := Nat.div_add_mod m (2 ^ (-p).toNat)
 have h2 := Nat.mod_lt m (Nat.two_pow_pos (-p).toNat)
 rw [Nat.add_mul, Nat.one_mul, Nat.mul_comm]
 omega
theorem tru_near {c x : Nat} {v : Int} (hc : c = 1074) (h : FV x v) : ∃ t, FV (truF x) t /\ (v - t).natAbs <= 2 * 2 ^ c := by
 obtain ⟨s, r, rfl, hr, rfl⟩ := h
 obtain ⟨m, p, h1, h2, h3, h4⟩ := read_word2 s r hr
 have e : truF (Ieee.double.word s r) = Ieee.double.nearest s (whN m p) 0 := by
  show Ieee.double.write ((Ieee.double.read (Ieee.double.word s r)).integral .zero) = _
  rw [h1]
  show Ieee.double.nearest s (Ieee.Toward.zero.cut s (m <<< p.toNat) (-p).toNat) 0 = _
  rw [cut_zero]; rfl
 have w1 := whN_le c m p hc h2
 have w2 := whN_lt c m p hc h2
 rw [h3] at w1 w2
 rw [e]
 by_cases h0 : whN m p = 0
 ·
  refine ⟨0, ?_, ?_⟩
  ·
   rw [h0]
   unfold Ieee.Format.nearest
   rw [if_pos rfl]
   exact jm9 _
  rw [h0] at w2
  cases s <;> simp <;> omega
 have pc := Nat.two_pow_pos c
 obtain ⟨W, hW⟩ : ∃ W, W = whN m p * 2 ^ c := ⟨_, rfl⟩
 have hW0 : W ≠ 0 := by rw [hW]; have := Nat.mul_pos (Nat.pos_of_ne_zero h0) pc; omega
 have hn : Ieee.double.nearest s (whN m p) 0 = Ieee.double.word s (min (rR c W) 9218868437227405312) := by
  rw [jfH s _ 0 h0 (by decide), hW]
  unfold rR
  rw [Nat.mul_assoc, <- Nat.pow_add, show ((0 : Int) + 2148).toNat = c + c by omega]
 have hr0 : r ≠ 0 := fun h => by rw [h, show rv 0 = 0 from rv_zero.2 rfl] at w1; omega
 have hle : rR c W <= r := by
  have := jh4 (c := c) hW0 (show W <= rv r by omega)
  rwa [jkF c r hc hr0] at this
 have hlt := Nat.lt_of_le_of_lt hle hr
 rw [hn, Nat.min_eq_left (Nat.le_of_lt hlt)]
 have hd : rv r <= rv (rR c W) + 2 * 2 ^ c := by
  by_cases hp : 0 <= p
  ·
   have : W = rv r := by
    rw [hW, <- h3]
    unfold whN
    rw [Nat.shiftLeft_eq, show (-p).toNat = 0 by omega, Nat.shiftRight_zero, Nat.mul_assoc, <- Nat.pow_add, show (p + 1074).toNat = p.toNat + c by omega]
   rw [this, jkF c r hc hr0]; omega
  have h5 : whN m p <= m := by
   unfold whN
   rw [show p.toNat = 0 by omega, Nat.shiftLeft_zero, Nat.shiftRight_eq_div_pow]
   exact Nat.div_le_self _ _
  have h6 := rR_err c W hc hW0
  have h7 : W <= 9007199254740992 * 2 ^ c := by rw [hW]; exact Nat.mul_le_mul_right _ (by omega)
  rw [Nat.add_mul] at w2
  omega
 have hd2 : rv (rR c W) <= rv r := rv_le.2 hle
 generalize rR c W = ru at hlt hd hd2
 refine ⟨(if s then -1 else 1) * (rv ru : Int), ⟨s, ru, rfl, hlt, rfl⟩, ?_⟩
 generalize rv ru = A at hd hd2
 generalize rv r = B at hd hd2
 generalize 2 ^ c = C at hd
 cases s
 ·
  simp only [Bool.false_eq_true, if_false, Int.one_mul]; omega
 simp only [if_true]; omega
theorem am_abs {c x M : Nat} (h : AM c x M) : AM c (x % 9223372036854775808) M := by
 obtain ⟨v, h1, h2⟩ := h
 exact ⟨_, h1.abs, by rw [Int.natAbs_natCast]; exact h2⟩
theorem am_neg {c x M : Nat} (h : AM c x M) : AM c (Op.negFloat .f64 x) M := by
 obtain ⟨v, ⟨s, r, rfl, hr, rfl⟩, h2⟩ := h
 rw [jn0 s r (by omega)]
 refine ⟨_, ⟨!s, r, rfl, hr, rfl⟩, ?_⟩
 cases s <;> simp at h2 ⊢ <;> exact h2
theorem am_add0 {c x M : Nat} (hc : c = 1074) (h : AM c x M) : AM c (fop .add x 0) M := by
 obtain ⟨v, h1, h2⟩ := h
 exact ⟨v, jeF hc h1 fv_0, h2⟩
theorem am_if {c x y M : Nat} {b : Bool} (h1 : AM c x M) (h2 : AM c y M) : AM c (if b = true then x else y) M := by
 cases b
 ·
  exact h2
 exact h1
theorem jkR {c x : Nat} (hc : c = 1074) (hx : x < 18446744073709551616) (h : x % 9223372036854775808 <= 4607182418800017408) : AM c x 1 := by
 have h1 : x = Ieee.double.word (decide (9223372036854775808 <= x)) (x % 9223372036854775808) := by
  unfold Ieee.Format.word
  rw [jb3]
  by_cases h2 : 9223372036854775808 <= x
  ·
   rw [decide_eq_true h2]; simp; omega
  rw [decide_eq_false h2]; simp; omega
 refine ⟨_, ⟨_, _, h1, by omega, rfl⟩, ?_⟩
 have := rv_le.2 h
 rw [rv_one c hc] at this
 by_cases h2 : 9223372036854775808 <= x
 ·
  rw [decide_eq_true h2]; simp; omega
 rw [decide_eq_false h2]; simp; omega
theorem am_one {c : Nat} (hc : c = 1074) : AM c 4607182418800017408 1 := jkR hc (by decide) (by decide)
theorem wrap_am {c x : Nat} {v : Int} (hc : c = 1074) (h : FV x v) : AM c (je8 x) 4 := by
 obtain ⟨t, t1, t2⟩ := tru_near hc h
 have hf : AM c (fop .sub x (truF x)) 2 := by
  have hb := (jbQ (e := 1) (by omega)).bound hc
  obtain ⟨r, e, h3⟩ := fv_sub c hc h t1 (by omega)
  exact ⟨_, by rw [jbY e]; exact h3, jmY hc (jbQ (e := 1) (by omega)) (by omega)⟩
 have hg : AM c (copF (fop .sub x (truF x)) x) 2 := by
  obtain ⟨s, r, e, hr, _⟩ := h
  obtain ⟨u, ⟨a, q, e2, hq, hu⟩, hm⟩ := hf
  rw [e2, e, copF_word a s q r (by omega) (by omega)]
  refine ⟨_, ⟨s, q, rfl, hq, rfl⟩, ?_⟩
  rw [hu] at hm
  cases a <;> cases s <;> simp at hm ⊢ <;> exact hm
 have h0 : FloatKind.f64.format.order (fop .sub x x) 0 = some .eq := by
  rw [(fv_self hc h h).order fv_0]; rfl
 unfold je8
 rw [h0, if_neg (by decide)]
 refine am_add0 hc ?_
 unfold jk9
 split
 ·
  exact hg.sub hc (am_one hc) (by omega) (jbQ (e := 2) (by omega))
 split
 ·
  exact hg.add hc (am_one hc) (by omega) (jbQ (e := 2) (by omega))
 exact hg.mono (by omega)
theorem hor_am {c z : Nat} {S : List Nat} (hc : c = 1074) (hS : ∀ j, j < 9 -> AM c (S.getD j 0) 1) (hz : AM c z (2 ^ 16)) : ∀ m, m < 9 -> AM c (jn2 S z m) (2 ^ (17 * m))
 | 0, _ => hS 8 (by decide)
 | m + 1, h => by
  have h1 := (hor_am hc hS hz m (by omega)).mul hc hz (M := 2 ^ (17 * m + 16)) (by rw [<- Nat.pow_add]; exact Nat.le_refl _) (jbQ (by omega))
  refine h1.add hc (hS (7 - m) (by omega)) ?_ (jbQ (by omega))
  have := Nat.two_pow_pos (17 * m + 16)
  have := jh5 (a := 17 * m + 16) (b := 17 * (m + 1)) (by omega)
  omega
theorem coef : ∀ o, o < 2 -> ∀ j, j < 9 -> (jq2 o).getD j 0 < 18446744073709551616 /\ (jq2 o).getD j 0 % 9223372036854775808 <= 4607182418800017408 := by decide +kernel
theorem circ_am {c : Nat} (hc : c = 1074) : AM c 4618760256179416344 8 := by
 have h := rv_le.2 (show 4618760256179416344 <= 4620693217682128896 by decide)
 obtain ⟨e, he⟩ : ∃ e, e = 1025 := ⟨_, rfl⟩
 rw [jgP (r := 4620693217682128896) (e := e) (m := 0) (by omega) (by decide), show 4503599627370496 + 0 = 8 * 2 ^ 49 by decide, Nat.mul_assoc, <- Nat.pow_add, show 49 + e = c by omega] at h
 exact ⟨_, FV.nat (by decide), by rw [Int.natAbs_natCast]; exact h⟩
theorem eig_am {c a : Nat} (hc : c = 1074) (h : AM c a 16) : AM c (jdD a).1 (2 ^ 143) /\ AM c (jdD a).2 (2 ^ 143) := by
 have hy : AM c (fop .mul a 4618760256179416344) (2 ^ 7) := h.mul hc (circ_am hc) (by decide) (jbQ (by omega))
 have hz : AM c (fop .mul (fop .mul a 4618760256179416344) (fop .mul a 4618760256179416344)) (2 ^ 16) := hy.mul hc hy (by decide) (jbQ (by omega))
 have hco : ∀ o, o < 2 -> ∀ j, j < 9 -> AM c ((jq2 o).getD j 0) 1 := fun o ho j hj => jkR hc (coef o ho j hj).1 (coef o ho j hj).2
 have e1 := hor_am hc (hco 0 (by decide)) hz 8 (by decide)
 have e2 := (hor_am hc (hco 1 (by decide)) hz 8 (by decide)).mul hc hy (M := 2 ^ 143) (by rw [<- Nat.pow_add]; exact Nat.le_refl _) (jbQ (by omega))
 have h1 : AM c 4604544271217802189 (2 ^ 143) := (jkR hc (by decide) (by decide)).mono (Nat.one_le_two_pow)
 unfold jdD
 split
 ·
  exact ⟨h1, h1⟩
 dsimp only
 exact ⟨AM.mono e1 (jdQ (a := 17 * 8) (b := 143) (by omega)), e2⟩
theorem half_am {c : Nat} (hc : c = 1074) : AM c 4602678819172646912 1 := jkR hc (by decide) (by decide)
theorem quart_am {c : Nat} (hc : c = 1074) : AM c 4598175219545276416 1 := jkR hc (by decide) (by decide)
theorem turn_am {c x : Nat} {v : Int} (hc : c = 1074) (h : FV x v) : AM c (jh1 x).1 (2 ^ 143) /\ AM c (jh1 x).2 (2 ^ 143) := by
 have hw := wrap_am hc h
 obtain ⟨r, hr⟩ : ∃ r, r = je8 x := ⟨_, rfl⟩
 unfold jh1
 rw [<- hr] at hw ⊢
 have hn : FloatKind.f64.format.order r r = some .eq := by
  obtain ⟨u, u1, _⟩ := hw
  rw [u1.order u1, Int.compare_eq_eq.2 rfl]
 unfold tqF
 rw [hn, if_neg (by decide)]
 generalize tqL r = l
 have ha : AM c (tqA r l) 8 := by
  unfold tqA
  exact am_if ((half_am hc).sub hc (am_abs hw) (by omega) (jbQ (e := 3) (by omega))) ((am_abs hw).mono (by omega))
 generalize tqA r l = a at ha
 generalize tqS a = s
 have hb : AM c (tqB a s) 16 := by
  unfold tqB
  exact am_if ((quart_am hc).sub hc ha (by omega) (jbQ (e := 4) (by omega))) (ha.mono (by omega))
 generalize tqB a s = b at hb
 obtain ⟨e1, e2⟩ := eig_am hc hb
 generalize jdD b = p at e1 e2
 generalize tqN r = n
 unfold tqC
 have q1 : AM c (if s = true then p.2 else p.1) (2 ^ 143) := am_if e2 e1
 have q2 : AM c (if s = true then p.1 else p.2) (2 ^ 143) := am_if e1 e2
 exact ⟨am_add0 hc (am_if (am_neg q1) q1), am_add0 hc (am_if (am_neg q2) q2)⟩
theorem pt_fin {c : Nat} (hc : c = 1074) {p : Plt} {v : Int} (hb : FV p.b v) (hr : AM c p.r (2 ^ 30)) : (∃ u, FV (ptX p) u) /\ ∃ u, FV (ptY p) u := by
 obtain ⟨h1, h2⟩ := turn_am hc hb
 obtain ⟨u, u1, _⟩ := hr.mul hc h2 (M := 2 ^ 173) (by rw [<- Nat.pow_add]; exact Nat.le_refl _) (jbQ (by omega))
 obtain ⟨y, y1, _⟩ := hr.mul hc h1 (M := 2 ^ 173) (by rw [<- Nat.pow_add]; exact Nat.le_refl _) (jbQ (by omega))
 exact ⟨⟨u, u1⟩, ⟨y, y1⟩⟩
end Go.Proofs.YtffobakdngbadaaGreat
namespace Go.Proofs.YtffobakdngbadaaGreat
open Go Go.Lk Go.Pr
theorem rcheck_ok (a : Option Addr) (k c : Nat) (rows : List (List Int)) (rvs : List Value) (w0 : World) (hr : RowsI w0 a rows rvs) (hk : rows.length = k) (hk63 : k <= 17592186043904) :
  Ret Tryz.prog 80 [.slice a k c] w0 fun v w' => v = .int .i64 (chk rows) /\ HS w0 w' [] := by
 refine Ret.start fun w hs => ?_
 have hrl := hr.len
 refine ja7 Tryz.func80 rfl rfl rfl ?_
 by_cases hbig : 256 < k
 ·
  have he : chk rows = 3 := by unfold chk; rw [decide_eq_true (by omega), Bool.true_or, if_pos rfl]
  refine Wq (La rfl (Rqq (Lm rfl (Le jd4 rfl (jgY rfl (jaF (by omega)) ?_)))))
  refine Rt (Wt rfl (Wq (La rfl (Rt (jaW (ja2 (ja9 rfl rfl ?_)))))))
  exact ⟨_, rfl, by rw [he], hs⟩
 refine Wq (La rfl (Rqq (Lm rfl (Le jd4 rfl (jgY rfl (jaA (by omega)) ?_)))))
 refine Rt (Wf rfl (Ws (Wqq (La rfl (Rt (ja4 (jd8 (fun (i : Nat) (w : World) => [(0, .slice a k c), (3, .int .i64 i)]) (fun i w => w) (fun i w => (i <= k) /\ (∀ q, q < i -> wid rows q <= 256) /\ (HS w0 w [])) (fun i w => k - i) (0) (w) (is := [0, 3]) rfl rfl ?_ ?_)))))))
 ·
  exact ⟨Nat.zero_le _, fun _ h => absurd h (Nat.not_lt_zero _), hs⟩
 clear hs
 intro i w hI
 show W _ _ _ _ [(0, .slice a k c), (3, .int .i64 i)] w
 obtain ⟨hi, hA, hs⟩ := hI
 by_cases hlt : i < k
 ·
  obtain ⟨ai, ci, g1, g2, g3, g4⟩ := hr.row i (by omega)
  by_cases hw : 256 < (rows.getD i []).length
  ·
   have he : chk rows = 3 := by
    unfold chk
    rw [any_idx (p := fun r : List Int => decide (256 < r.length)).2 ⟨i, by omega, show (fun r : List Int => decide (256 < r.length)) (rows.getD i []) = true from decide_eq_true hw⟩, Bool.or_true, if_pos rfl]
   refine Wqq (Lmm rfl rfl (Le jd4 rfl (jaZ rfl (jaF (by omega)) ?_)))
   refine Rt (Wt rfl (Ws (Wsq (ja4 (Wq (Lmm rfl rfl (Li jd4 jd1 rfl (ja6 _) (by omega) (hr.sl.ao (by omega)) ?_)))))))
   refine Ll jdR rfl (by exact (hr.sl.old hs Own.nil).get g1) ?_
   refine Le jbK rfl (jgY rfl (jaF (by omega)) ?_)
   refine Rt (Wt rfl (Wq (La rfl (Rt (jaW (jaG (ja2 (jc0 (jaG (ja2 (ja9 rfl rfl ?_)))))))))))
   exact ⟨_, rfl, by rw [he], hs⟩
  refine Wqq (Lmm rfl rfl (Le jd4 rfl (jaZ rfl (jaF (by omega)) ?_)))
  refine Rt (Wt rfl (Ws (Wsq (ja4 (Wq (Lmm rfl rfl (Li jd4 jd1 rfl (ja6 _) (by omega) (hr.sl.ao (by omega)) ?_)))))))
  refine Ll jdR rfl (by exact (hr.sl.old hs Own.nil).get g1) ?_
  refine Le jbK rfl (jgY rfl (jaA (by omega)) ?_)
  refine Rt (Wf rfl (jaY (jaB (Nt (Wr (Lm rfl (jbG rfl (ja3 (by omega)) ?_)))))))
  refine La rfl (Rnl (Nq (i + 1, w) [0, 3] rfl ?_ ?_))
  ·
   dsimp only
   refine ⟨by omega, fun q hq => ?_, hs⟩
   by_cases hqi : q = i
   ·
    rw [hqi]; simp only [wid]; omega
   exact hA q (by omega)
  omega
 obtain rfl : k = i := by omega
 have h1 : (decide (256 < rows.length) || rows.any (fun r => decide (256 < r.length))) = false := by
  rw [decide_eq_false (by omega), Bool.false_or]
  exact jqC fun q hq => decide_eq_false (by have := hA q (by omega); simp only [wid] at this; omega)
 refine Wqq (Lmm rfl rfl (Le jd4 rfl (jaZ rfl (jaA (by omega)) ?_)))
 refine Rt (Wf rfl (jaK (ja0 (ja8 (ja1 (Nt (Wqq (La rfl (Rt (ja4 (jd8 (fun (i : Nat) (w : World) => [(0, .slice a k c), (4, .int .i64 i)]) (fun i w => w) (fun i w => (i <= k) /\ (∀ q, q < i -> wid rows q = wid rows 0) /\ (HS w0 w [])) (fun i w => k - i) (0) (w) (is := [0, 4]) rfl rfl ?_ ?_)))))))))))
 ·
  exact ⟨Nat.zero_le _, fun _ h => absurd h (Nat.not_lt_zero _), hs⟩
 clear hs hi
 intro i w hI
 show W _ _ _ _ [(0, .slice a k c), (4, .int .i64 i)] w
 obtain ⟨hi, hB, hs⟩ := hI
 by_cases hlt : i < k
 ·
  obtain ⟨ai, ci, g1, g2, g3, g4⟩ := hr.row i (by omega)
  obtain ⟨a0, c0, k1, k2, k3, k4⟩ := hr.row 0 (by omega)
  have hold : ∀ {w : World}, HS w0 w [] -> ∀ {j : Nat} {v : Value}, rvs[j]? = some v -> w.cell? ((aD a).add j) = some v := by intro w hs j v hv; exact (hr.sl.old hs Own.nil).get hv
  by_cases hw : (rows.getD i []).length ≠ (rows.getD 0 []).length
  ·
   have he : chk rows = 5 := by
    unfold chk
    rw [h1, any_idx (p := fun r : List Int => decide (r.length ≠ wid rows 0)).2 ⟨i, by omega, show (fun r : List Int => decide (r.length ≠ wid rows 0)) (rows.getD i []) = true from decide_eq_true hw⟩]
    rfl
   refine Wqq (Lmm rfl rfl (Le jd4 rfl (jaZ rfl (jaF (by omega)) ?_)))
   refine Rt (Wt rfl (Ws (Wsq (ja4 (Wsq (jcH [0, 1, 2, 5, 6] [3, 4, 7, 8, 9] [] (fun _ _ _ => False) Tryz.mixed (by kernel_rfl) (fun _ _ _ _ _ h => h) hs ?_))))))
   refine Pm rfl (Pm rfl (Pv rfl (fun w => jdC jd4 jd1 rfl rfl (ja6 _) (by omega) (hr.sl.ao (by omega))) ?_))
   refine Pm rfl (Pv rfl (fun w => jdC jd4 jd1 rfl rfl jfV (by omega) (hr.sl.ao (by omega))) ?_)
   refine jbH (Hv rfl (fun w hs => jaN jdR rfl (hold hs g1)) ?_)
   refine Hv rfl (fun w hs => R_len jbK rfl) ?_
   refine Hv rfl (fun w hs => jaN jdR rfl (hold hs k1)) ?_
   refine Hv rfl (fun w hs => R_len jbK rfl) ?_
   refine Hv rfl (fun w hs => R_neq rfl rfl (jaF (by omega))) ?_
   refine jb2 ?_
   intro w hs
   refine Rt (Wt rfl (Wq (La rfl (Rt (jaW (jaG (ja2 (jc0 (jaG (ja2 (ja9 rfl rfl ?_)))))))))))
   exact ⟨_, rfl, by rw [he], hs⟩
  rw [Classical.not_not] at hw
  refine Wqq (Lmm rfl rfl (Le jd4 rfl (jaZ rfl (jaF (by omega)) ?_)))
  refine Rt (Wt rfl (Ws (Wsq (ja4 (Wsq (jcH [0, 1, 2, 5, 6] [3, 4, 7, 8, 9] [] (fun _ _ _ => False) Tryz.mixed (by kernel_rfl) (fun _ _ _ _ _ h => h) hs ?_))))))
  refine Pm rfl (Pm rfl (Pv rfl (fun w => jdC jd4 jd1 rfl rfl (ja6 _) (by omega) (hr.sl.ao (by omega))) ?_))
  refine Pm rfl (Pv rfl (fun w => jdC jd4 jd1 rfl rfl jfV (by omega) (hr.sl.ao (by omega))) ?_)
  refine jbH (Hv rfl (fun w hs => jaN jdR rfl (hold hs g1)) ?_)
  refine Hv rfl (fun w hs => R_len jbK rfl) ?_
  refine Hv rfl (fun w hs => jaN jdR rfl (hold hs k1)) ?_
  refine Hv rfl (fun w hs => R_len jbK rfl) ?_
  refine Hv rfl (fun w hs => R_neq rfl rfl (jaA (by omega))) ?_
  refine jb2 ?_
  intro w hs
  refine Rt (Wf rfl (jaY (jaB (Nt (Wr (Lm rfl (jbG rfl (ja3 (by omega)) ?_)))))))
  refine La rfl (Rnl (Nq (i + 1, _) [0, 4] rfl ?_ ?_))
  ·
   dsimp only
   refine ⟨by omega, fun q hq => ?_, hs⟩
   by_cases hqi : q = i
   ·
    rw [hqi]; exact hw
   exact hB q (by omega)
  omega
 obtain rfl : k = i := by omega
 have h2 : rows.any (fun r => decide (r.length ≠ wid rows 0)) = false := jqC fun q hq => decide_eq_false fun hn => hn (hB q (by omega))
 refine Wqq (Lmm rfl rfl (Le jd4 rfl (jaZ rfl (jaA (by omega)) ?_)))
 refine Rt (Wf rfl (jaK (ja0 (ja8 (ja1 (Nt (Wqq (La rfl (Rt (ja4 (jd8 (fun (i : Nat) (w : World) => [(0, .slice a k c), (5, .int .i64 i)]) (fun i w => w) (fun i w => (i <= k) /\ (∀ q j, q < i -> j < wid rows q -> el rows q j <= 1099511627776) /\ (HS w0 w [])) (fun i w => k - i) (0) (w) (is := [0, 5]) rfl rfl ?_ ?_)))))))))))
 ·
  exact ⟨Nat.zero_le _, fun _ _ h => absurd h (Nat.not_lt_zero _), hs⟩
 clear hs hi
 intro i w hI
 show W _ _ _ _ [(0, .slice a k c), (5, .int .i64 i)] w
 obtain ⟨hi, hD, hs⟩ := hI
 by_cases hlt : i < k
 ·
  obtain ⟨ai, ci, g1, g2, g3, g4⟩ := hr.row i (by omega)
  obtain ⟨m, hm⟩ : ∃ m, m = (rows.getD i []).length := ⟨_, rfl⟩
  rw [<- hm] at g1 g2 g3
  have hra := hr.sl.ao (by omega)
  refine Wqq (Lmm rfl rfl (Le jd4 rfl (jaZ rfl (jaF (by omega)) ?_)))
  refine Rt (Wt rfl (Ws (Wsq (ja4 (Wq (La rfl (Rt (ja4 (jd8 (fun (j : Nat) (w : World) => [(0, .slice a k c), (5, .int .i64 i), (6, .int .i64 j)]) (fun j w => w) (fun j w => (j <= m) /\ (∀ q, q < j -> el rows i q <= 1099511627776) /\ (HS w0 w [])) (fun j w => m - j) (0) (w) (is := [0, 5, 6]) rfl rfl ?_ ?_)))))))))
  ·
   exact ⟨Nat.zero_le _, fun _ h => absurd h (Nat.not_lt_zero _), hs⟩
  clear hs
  intro j w hI
  show W _ _ _ _ [(0, .slice a k c), (5, .int .i64 i), (6, .int .i64 j)] w
  obtain ⟨hj, hE, hs⟩ := hI
  by_cases hlt2 : j < m
  ·
   by_cases hw : 1099511627776 < (rows.getD i []).getD j 0
   ·
    have he : chk rows = 2 := by
     unfold chk
     rw [h1, h2, any_idx (p := fun r : List Int => r.any fun c => decide (1099511627776 < c)).2 ⟨i, by omega, show (fun r : List Int => r.any fun c => decide (1099511627776 < c)) (rows.getD i []) = true from anyI.2 ⟨j, by omega, decide_eq_true hw⟩⟩]
     rfl
    refine Wqq (Lmm rfl rfl (Lm rfl (Li jd4 jd1 rfl (ja6 _) (by omega) (by exact hra) ?_)))
    refine Ll jdR rfl (by exact (hr.sl.old hs Own.nil).get g1) ?_
    refine Le jbK rfl (jaZ rfl (jaF (by omega)) ?_)
    refine Rt (Wt rfl (Ws (Wsq (ja4 (Wq (Lmm rfl rfl (Li jd4 jd1 rfl (ja6 _) (by omega) (by exact hra) ?_)))))))
    refine Ll jdR rfl (by exact (hr.sl.old hs Own.nil).get g1) ?_
    refine Lm rfl ?_
    refine Li jbK i_2 rfl (ja6 _) (by omega) (by exact g4.ao (by rw [il_length]; omega)) ?_
    refine Ll o_2 rfl (by exact (g4.old hs Own.nil).get (jaV (by omega))) ?_
    refine jgY rfl (jaF (by omega)) ?_
    refine Rt (Wt rfl (Wq (La rfl (Rt (jaW (jaG (ja2 (jc0 (jaG (jaG (ja2 (jc0 (jaG (ja2 (ja9 rfl rfl ?_)))))))))))))))
    exact ⟨_, rfl, by rw [he], hs⟩
   refine Wqq (Lmm rfl rfl (Lm rfl (Li jd4 jd1 rfl (ja6 _) (by omega) (by exact hra) ?_)))
   refine Ll jdR rfl (by exact (hr.sl.old hs Own.nil).get g1) ?_
   refine Le jbK rfl (jaZ rfl (jaF (by omega)) ?_)
   refine Rt (Wt rfl (Ws (Wsq (ja4 (Wq (Lmm rfl rfl (Li jd4 jd1 rfl (ja6 _) (by omega) (by exact hra) ?_)))))))
   refine Ll jdR rfl (by exact (hr.sl.old hs Own.nil).get g1) ?_
   refine Lm rfl ?_
   refine Li jbK i_2 rfl (ja6 _) (by omega) (by exact g4.ao (by rw [il_length]; omega)) ?_
   refine Ll o_2 rfl (by exact (g4.old hs Own.nil).get (jaV (by omega))) ?_
   refine jgY rfl (jaA (by omega)) ?_
   refine Rt (Wf rfl (jaY (jaB (Nt (Wr (Lm rfl (jbG rfl (ja3 (by omega)) ?_)))))))
   refine La rfl (Rnl (Nq (j + 1, w) [0, 5, 6] rfl ?_ ?_))
   ·
    dsimp only
    refine ⟨by omega, fun q hq => ?_, hs⟩
    by_cases hqj : q = j
    ·
     rw [hqj]; simp only [el]; omega
    exact hE q (by omega)
   omega
  refine Wqq (Lmm rfl rfl (Lm rfl (Li jd4 jd1 rfl (ja6 _) (by omega) (by exact hra) ?_)))
  refine Ll jdR rfl (by exact (hr.sl.old hs Own.nil).get g1) ?_
  refine Le jbK rfl (jaZ rfl (jaA (by omega)) ?_)
  refine Rt (Wf rfl (jaK (ja0 (ja8 (ja1 (jaB (Nt (Wr (Lm rfl (jbG rfl (ja3 (by omega)) ?_))))))))))
  refine La rfl (Rnl (Nq (i + 1, w) [0, 5] rfl ?_ ?_))
  ·
   dsimp only
   refine ⟨by omega, fun q j2 hq hj2 => ?_, hs⟩
   by_cases hqi : q = i
   ·
    rw [hqi] at hj2 ⊢; exact hE j2 (by simp only [wid] at hj2; omega)
   exact hD q j2 (by omega) hj2
  omega
 obtain rfl : k = i := by omega
 have he : chk rows = 0 := by
  unfold chk
  rw [h1, h2, jqC fun q hq => anyI_no fun j hj => decide_eq_false (by have := hD q j (by omega) hj; simp only [el] at this; omega)]
  rfl
 refine Wqq (Lmm rfl rfl (Le jd4 rfl (jaZ rfl (jaA (by omega)) ?_)))
 refine Rt (Wf rfl (jaK (ja0 (ja8 (ja1 (Nt (Wq (La rfl (Rt (jaW (ja9 rfl rfl ?_)))))))))))
 exact ⟨_, rfl, by rw [he], hs⟩
end Go.Proofs.YtffobakdngbadaaGreat