/-
 A part of the proof: what functions that the statement reaches do, or a plain law on what they do. Each theorem holds under its own premises alone.
-/
import Derived.Test.YtffobakdngbadaaTKS
import Derived.Test.YtffobakdngbadaaKitP
namespace Go.Proofs.Ytffobakdngbadaa
open Go Go.Lk Go.Pr
/-! ### The closed run: what its two steps do -/
theorem NewsTo.zero_inv {r : Rul} {time : Nat} {ps : List Pq} {s u : NS} (h : NewsTo r time ps s 0 u) : u = s := by
 cases h; rfl
theorem NewsTo.succ_inv {r : Rul} {time : Nat} {ps : List Pq} {s v : NS} {j : Nat} (h : NewsTo r time ps s (j + 1) v) : ∃ u, NewsTo r time ps s j u ∧ (((0 < u.told.getD j 0 ∨ 256 ≤ u.os.length) ∧ v = u) ∨ (¬ (0 < u.told.getD j 0 ∨ 256 ≤ u.os.length) ∧ ∃ o : On, o.c = u.ck ∧ o.t = endT r (newT0 r u.next (ps.getD j pq0)) time ∧ o.xs = [(newT0 r u.next (ps.getD j pq0)).x] ∧ o.ys = [(newT0 r u.next (ps.getD j pq0)).y] ∧ v = ⟨u.os ++ [o], u.ck + 1, u.next + 1, u.told.set j u.next⟩)) := by
 cases h with
 | old h1 h2 => exact ⟨_, h1, .inl ⟨h2, rfl⟩⟩
 | new h1 h2 h3 h4 h5 h6 => exact ⟨_, h1, .inr ⟨h2, _, h3, h4, h5, h6, rfl⟩⟩
def pA : Plt := ⟨4621819117588971520, 0, 0, 0, 0⟩
def pB : Plt := ⟨4632233691727265792, 0, 0, 0, 0⟩
def sX : Stt := aheadF (startF (ptX pA) rW.noise rW.sway) (fop .sub 4607182418800017408 0) rW.sway
def sY : Stt := aheadF (startF (ptY pA) rW.noise rW.sway) (fop .sub 4607182418800017408 0) rW.sway
theorem e0 : costT rW.noise rW.gate sX sY (ptX pA) (ptY pA) = 0 := by decide +kernel
theorem e1 : costT rW.noise rW.gate sX sY (ptX pB) (ptY pB) = -1 := by decide +kernel
theorem cn_ptX (l : Plt) : cn (ptX l) = ptX l := cn_fop ..
theorem cn_ptY (l : Plt) : cn (ptY l) = ptY l := cn_fop ..
theorem start_congr {x y n q : Nat} (h : cn x = cn y) : (startF x n q).c = (startF y n q).c := by
 show (⟨cn x, cn 0, cn n, cn 0, cn q⟩ : Stt) = ⟨cn y, cn 0, cn n, cn 0, cn q⟩
 rw [h]
theorem costT_congr {n g : Nat} {x y x' y' : Stt} {px py px' py' : Nat} (hx : x.c = x'.c) (hy : y.c = y'.c) (h1 : cn px = cn px') (h2 : cn py = cn py') : costT n g x y px py = costT n g x' y' px' py' := by
 unfold costT; rw [dstF_congr hx hy h1 h2]
theorem endT_kind (r : Rul) (t : Trk) (time : Nat) : (endT r t time).kind = kindF r t.kind t.seen (t.steps + 1) := rfl
theorem kind_new (r : Rul) (id : Int) (p : Pq) (time : Nat) : (endT r (newT0 r id p) time).kind = kindF r 0 1 (0 + 1) := endT_kind ..
/-- the first step -/
theorem wake1 {k k' : Bok} {told : List Int} {os2 : List On} {ps : List Pq} {ms : List Int} {os3 : List On} (hk : k.os = []) (hr : k.r = rW) (hn : k.next = 1) (h : StepTo k 0 [pA] k' told os2 ps ms os3) :
  told = [1] ∧ k'.r = rW ∧ k'.last = 0 ∧ k'.next = 2 ∧ ∃ o : On, k'.os = [o] ∧ o.t.id = 1 ∧ o.t.kind = 0 ∧ o.t.seen = 1 ∧ o.t.steps = 1 ∧ o.t.last = 0 ∧ o.t.x.c = (startF (ptX pA) rW.noise rW.sway).c ∧ o.t.y.c = (startF (ptY pA) rW.noise rW.sway).c ∧ o.xs.length = 1 ∧ o.ys.length = 1 := by
 have ha := h.ahead
 rw [hk] at ha
 have hos2 : os2 = [] := List.eq_nil_of_length_eq_zero (by rw [ha.len]; rfl)
 subst hos2
 have hp := h.pts
 obtain ⟨p, rfl⟩ : ∃ p, ps = [p] := by
  cases hp with
  | cons h1 h2 => cases h2; exact ⟨_, rfl⟩
 have hpp : PtOk pA p := by cases hp with | cons h1 _ => exact h1
 have hh := h.hits
 have hos3 : os3 = [] := List.eq_nil_of_length_eq_zero (by rw [hh.len]; rfl)
 subst hos3
 have hw := h.news
 obtain ⟨u, hu, hc⟩ := NewsTo.succ_inv hw
 obtain rfl := NewsTo.zero_inv hu
 rcases hc with ⟨hc, _⟩ | ⟨_, o, h1, h2, h3, h4, h5⟩
 ·
  exfalso
  rcases hc with hc | hc
  ·
   exact absurd hc (by show ¬ (0 : Int) < 0; decide)
  ·
   exact absurd hc (by show ¬ 256 ≤ 0; decide)
 ·
  rw [hr, hn] at h2 h3 h4
  injection h5 with g1 g2 g3 g4
  refine ⟨by rw [g4, hn]; rfl, by rw [h.samer, hr], h.last, by rw [g3, hn]; rfl, o, by rw [g1]; rfl, by rw [h2]; rfl, by rw [h2, kind_new]; decide +kernel, by rw [h2]; rfl, by rw [h2]; rfl, by rw [h2]; rfl, ?_, ?_, by rw [h3]; rfl, by rw [h4]; rfl⟩
  ·
   rw [h2]
   show (startF p.x rW.noise rW.sway).c = _
   exact start_congr (hpp.1.trans (cn_ptX pA).symm)
  ·
   rw [h2]
   show (startF p.y rW.noise rW.sway).c = _
   exact start_congr (hpp.2.trans (cn_ptY pA).symm)
/-- the second step -/
theorem wake2 {k k' : Bok} {told : List Int} {os2 : List On} {ps : List Pq} {ms : List Int} {os3 : List On} {o : On} (hk : k.os = [o]) (hr : k.r = rW) (hn : k.next = 2) (ho : o.t.id = 1 ∧ o.t.kind = 0 ∧ o.t.seen = 1 ∧ o.t.steps = 1 ∧ o.t.last = 0) (hx : o.t.x.c = (startF (ptX pA) rW.noise rW.sway).c) (hy : o.t.y.c = (startF (ptY pA) rW.noise rW.sway).c) (hl : o.xs.length = 1 ∧ o.ys.length = 1)
  (h : StepTo k 4607182418800017408 [pA, pB] k' told os2 ps ms os3) :
  told = [1, 2] ∧ k'.next = 3 ∧ ∃ o1 o2 : On, k'.os = [o1, o2] ∧ o1.t.id = 1 ∧ o2.t.id = 2 ∧ o1.t.kind = 1 ∧ o2.t.kind = 0 ∧ o1.t.steps = 2 ∧ o1.xs.length = 2 ∧ o1.ys.length = 2 := by
 have ha := h.ahead
 rw [hk, hr] at ha
 have hal : [o].filter aliveB = [o] := by
  rw [List.filter_cons_of_pos (by unfold aliveB; rw [ho.2.1]; decide)]; rfl
 rw [hal] at ha
 obtain ⟨o', rfl⟩ : ∃ o', os2 = [o'] := by
  cases ha with
  | cons h1 h2 => cases h2; exact ⟨_, rfl⟩
 have hA : AheadR 4607182418800017408 rW.sway o o' := by cases ha with | cons h1 _ => exact h1
 have hp := h.pts
 obtain ⟨p, q, rfl⟩ : ∃ p q, ps = [p, q] := by
  cases hp with
  | cons h1 h2 => cases h2 with
   | cons h3 h4 => cases h4; exact ⟨_, _, rfl⟩
 have hpq : PtOk pA p ∧ PtOk pB q := by cases hp with | cons h1 h2 => cases h2 with | cons h3 _ => exact ⟨h1, h3⟩
 obtain ⟨x, y, hxc, hyc, rfl⟩ := hA
 have exs : x.c = sX.c := by
  rw [hxc, ho.2.2.2.2]; exact aheadF_congr hx rfl
 have eys : y.c = sY.c := by
  rw [hyc, ho.2.2.2.2]; exact aheadF_congr hy rfl
 obtain ⟨cnt, tt, hm⟩ := h.most
 have hrow : costRows k.r [p, q] [{ o with t := { o.t with x := x, y := y } }] = [[0, -1]] := by
  show [[costT k.r.noise k.r.gate x y p.x p.y, costT k.r.noise k.r.gate x y q.x q.y]] = _
  rw [hr, costT_congr exs eys (hpq.1.1.trans (cn_ptX pA).symm) (hpq.1.2.trans (cn_ptY pA).symm), costT_congr exs eys (hpq.2.1.trans (cn_ptX pB).symm) (hpq.2.2.trans (cn_ptY pB).symm), e0, e1]
 rw [hrow] at hm
 have hms : ms = [0] := by
  rcases hm with ⟨c1, _⟩ | ⟨_, _, f, hf, rfl, _⟩
  ·
   exact absurd c1 (by decide)
  ·
   have hf0 := best_is (G := [0, 1, 2]) (by decide) hf (by decide) (by decide) (by decide +kernel) 0 (by decide)
   have hf1 : f 0 = 0 := hf0
   show [(if f 0 < 2 then (f 0 : Int) else -1)] = [0]
   rw [hf1]; rfl
 subst hms
 have hh := h.hits
 obtain ⟨o3, rfl⟩ : ∃ o3, os3 = [o3] := by
  cases hh with
  | cons h1 h2 => cases h2; exact ⟨_, rfl⟩
 have hH : HitR k.r 4607182418800017408 [p, q] ({ o with t := { o.t with x := x, y := y } }, 0) o3 := by cases hh with | cons h1 _ => exact h1
 obtain ⟨t, g1, g2, g3, g4, g5, g6⟩ := hH
 rw [if_pos (by show (0 : Int) ≤ 0; decide)] at g1
 obtain ⟨x', y', _, _, rfl⟩ := g1
 have hw := h.news
 obtain ⟨u, hu, hc⟩ := NewsTo.succ_inv (j := 1) hw
 obtain ⟨u0, hu0, hc0⟩ := NewsTo.succ_inv (j := 0) hu
 obtain rfl := NewsTo.zero_inv hu0
 have hid : o3.t.id = 1 := by rw [g4]; exact ho.1
 have htold : ([({ o with t := { o.t with x := x, y := y } } : On)].zip [(0 : Int)]).foldl hitT (List.replicate [pA, pB].length 0) = [1, 0] := by
  show hitT [0, 0] ({ o with t := { o.t with x := x, y := y } }, 0) = [1, 0]
  show [o.t.id, 0] = [1, 0]
  rw [ho.1]
 rw [htold] at hc0
 rcases hc0 with ⟨_, rfl⟩ | ⟨hc0, _⟩
 ·
  rcases hc with ⟨hc, _⟩ | ⟨_, o4, h1, h2, h3, h4, h5⟩
  ·
   exfalso
   rcases hc with hc | hc
   ·
    exact absurd hc (by show ¬ (0 : Int) < 0; decide)
   ·
    exact absurd hc (by show ¬ 256 ≤ 1; decide)
  ·
   rw [hr, hn] at h2
   injection h5 with i1 i2 i3 i4
   refine ⟨by rw [i4, hn]; rfl, by rw [i3, hn]; rfl, o3, o4, by rw [i1]; rfl, hid, by rw [h2]; rfl, ?_, by rw [h2, kind_new]; decide +kernel, ?_, ?_, ?_⟩
   ·
    rw [g4, hr]
    show kindF rW o.t.kind (or16 (shl16 o.t.seen)) (o.t.steps + 1) = 1
    rw [ho.2.1, ho.2.2.1, ho.2.2.2.1]; decide +kernel
   ·
    rw [g4]
    show o.t.steps + 1 = 2
    rw [ho.2.2.2.1]; rfl
   ·
    rw [g5, List.length_append, hl.1]; rfl
   ·
    rw [g6, List.length_append, hl.2]; rfl
 ·
  exfalso
  exact hc0 (.inl (by show (0 : Int) < 1; decide))
end Go.Proofs.Ytffobakdngbadaa
