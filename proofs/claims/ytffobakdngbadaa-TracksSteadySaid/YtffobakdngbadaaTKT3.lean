/-
 A part of the proof: what functions that the statement reaches do, or a plain law on what they do. Each theorem holds under its own premises alone.
-/
import Derived.Test.YtffobakdngbadaaTKT2
namespace Go.Proofs.Ytffobakdngbadaa
open Go Go.Lk Go.Pr
/-! ### One plot at the same point at each step -/
def sn (i : Nat) : Nat := 2 ^ (min i 16) - 1
theorem low_sn' : ∀ a, a < 17 → ∀ n, n < 17 → lowF (2 ^ a - 1) n = min a n := by decide +kernel
theorem low_sn {i n : Nat} (hn : n ≤ 16) : lowF (sn i) n = min i n := by
 unfold sn
 rw [low_sn' (min i 16) (by omega) n (by omega)]
 omega
theorem next_sn' : ∀ a, a < 17 → or16 (shl16 (2 ^ a - 1)) = 2 ^ (min (a + 1) 16) - 1 := by decide +kernel
theorem next_sn (i : Nat) : or16 (shl16 (sn i)) = sn (i + 1) := by
 unfold sn
 rw [next_sn' (min i 16) (by omega), show min (min i 16 + 1) 16 = min (i + 1) 16 by omega]
theorem sn_odd' : ∀ a, a < 17 → 0 < a → (2 ^ a - 1) % 2 = 1 := by decide +kernel
theorem sn_odd {i : Nat} (h : 0 < i) : sn i % 2 = 1 := sn_odd' _ (by omega) (by omega)
theorem kind_sn {r : Rul} (hr : RulOk r) {j : Nat} (hj : 0 < j) {k : Int} (hk : k = if r.need ≤ ((j - 1 : Nat) : Int) then 1 else 0) : kindF r k (sn j) (j : Int) = if r.need ≤ (j : Int) then 1 else 0 := by
 have h1 := hr.miss1
 have h2 := hr.miss16
 have h3 := hr.of1
 have h4 := hr.of16
 have h5 := hr.needof
 unfold kindF
 rw [low_sn (by omega), low_sn (by omega), if_neg (by omega)]
 subst hk
 by_cases h6 : r.need ≤ (j : Int)
 ·
  rw [if_pos h6, if_pos (by right; omega)]
 ·
  rw [if_neg h6, if_neg (by rw [if_neg (by omega)]; omega), if_neg (by omega)]
/-- one track, one point that may be joined: they are -/
theorem most_one1 {m : Int} {ms : List Int} {cnt t : Int} (h0 : 0 ≤ m) (h1 : m ≤ 1099511627776) (h : MostAns [[m]] ms cnt t 0) : ms = [0] := by
 rcases h with ⟨h2, _⟩ | ⟨_, _, f, hf, rfl, _⟩
 ·
  exfalso
  rcases h2 with h2 | h2
  ·
   apply h2
   unfold chk
   rw [if_neg (by simp), if_neg (by simp [wid]), if_neg]
   intro h3
   rw [List.any_eq_true] at h3
   obtain ⟨x, hx, h4⟩ := h3
   rw [List.mem_singleton.1 hx, List.any_eq_true] at h4
   obtain ⟨y, hy, h5⟩ := h4
   rw [List.mem_singleton.1 hy, decide_eq_true_eq] at h5
   omega
  ·
   exact absurd h2 (show ¬ (1 : Nat) = 0 by decide)
 ·
  have hf : Best 2 1 (msC [[m]] 1) f := hf
  have hid : Bij 2 (fun j => j) := ⟨fun j h => h, fun a b _ _ h => h⟩
  have hl := hf.least _ hid
  have b0 := hf.bij.lt 0 (by decide)
  have b1 := hf.bij.lt 1 (by decide)
  have bi := hf.bij.inj 0 1 (by decide) (by decide)
  have hel : el [[m]] 0 0 = m := rfl
  have hlen : [[m]].length = 1 := rfl
  have c00 : msC [[m]] 1 0 0 = m := by
   unfold msC
   rw [hel, hlen, if_pos (show 0 < 1 by decide), if_neg (by decide), if_neg (by omega)]
  have c01 : msC [[m]] 1 0 1 = 562949953421312 := by
   unfold msC
   rw [hlen, if_pos (show 0 < 1 by decide), if_pos (by decide)]
  have c1 : ∀ j, msC [[m]] 1 1 j = 0 := fun j => by
   unfold msC
   rw [hlen, if_neg (show ¬ 1 < 1 by decide)]
  have hc : ∀ g : Nat → Nat, cst 2 (msC [[m]] 1) g = msC [[m]] 1 0 (g 0) := fun g => by
   show ((0 : Int) + msC [[m]] 1 0 (g 0)) + msC [[m]] 1 1 (g 1) = _
   rw [c1]; omega
  rw [hc, hc] at hl
  have hf0 : f 0 = 0 := by
   apply Classical.byContradiction
   intro hh
   have : f 0 = 1 := by omega
   rw [this, c00, c01] at hl
   omega
  show [(if f 0 < 1 then (f 0 : Int) else -1)] = [0]
  rw [hf0]; rfl
structure Sty (c i : Nat) (vx vy : Int) (r : Rul) (time : Nat) (o : On) : Prop where
 id : o.t.id = 1
 kind : o.t.kind = if r.need ≤ (i : Int) then 1 else 0
 seen : o.t.seen = sn i
 steps : o.t.steps = i
 last : o.t.last = time
 x : StS c (70 + 2 * i) (42 + i) vx o.t.x
 y : StS c (70 + 2 * i) (42 + i) vy o.t.y
 xs : o.xs.length = i
 ys : o.ys.length = i
 xl : o.xs.getD (i - 1) stt0 = o.t.x
 yl : o.ys.getD (i - 1) stt0 = o.t.y
theorem StS.congr {c Q R : Nat} {v : Int} {s u : Stt} (h : StS c Q R v s) (e : u.c = s.c) : StS c Q R v u := by
 obtain ⟨e1, e2, e3, e4, e5⟩ := Stt.parts e
 exact ⟨fv_congr h.x e1, fv_congr h.v e2, h.p.congr e3, h.q.congr e4, h.r.congr e5⟩
theorem AhS.congr {c Q R : Nat} {v : Int} {s u : Stt} (h : AhS c Q R v s) (e : u.c = s.c) : AhS c Q R v u := by
 obtain ⟨e1, e2, e3, e4, e5⟩ := Stt.parts e
 exact ⟨fv_congr h.x e1, fv_congr h.v e2, h.p.congr e3, h.q.congr e4, h.r.congr e5⟩
theorem start_S {c x n w : Nat} {v : Int} (hx : FV x v) (hn : NM c n (2 ^ 20)) (hw : NM c w (2 ^ 20)) : StS c 72 43 v (startF x n w) :=
 ⟨hx, fv_0, hn, ⟨0, fv_0, Int.le_refl _, Int.natCast_nonneg _⟩, hw.mono (pow_le (by omega))⟩
/-- what the statement's guards say of a rule -/
structure Pln (c : Nat) (r : Rul) : Prop where
 ok : RulOk r
 noise : ∃ N, FV r.noise N ∧ ((2 ^ c : Nat) : Int) ≤ N * 1048576 ∧ N ≤ ((1048576 * 2 ^ c : Nat) : Int)
 sway : NM c r.sway (2 ^ 20)
 gate : ∃ g, FV r.gate g ∧ 0 ≤ g
theorem Pln.nm {c : Nat} {r : Rul} (h : Pln c r) : NM c r.noise (2 ^ 20) := by
 obtain ⟨N, h1, h2, h3⟩ := h.noise
 have := Nat.two_pow_pos c
 exact ⟨N, h1, by omega, by rw [show 2 ^ 20 = 1048576 from rfl]; omega⟩
theorem steady1 {c : Nat} {r : Rul} {p : Plt} {vx vy : Int} {time : Nat} {k k' : Bok} {told : List Int} {os2 : List On} {ps : List Pq} {ms : List Int} {os3 : List On} (hr : Pln c r) (hx : FV (ptX p) vx) (hy : FV (ptY p) vy)
  (hk : k.os = []) (hkr : k.r = r) (hn : k.next = 1) (h : StepTo k time [p] k' told os2 ps ms os3) : told = [1] ∧ k'.next = 2 ∧ ∃ o, k'.os = [o] ∧ Sty c 1 vx vy r time o := by
 have ha := h.ahead
 rw [hk] at ha
 have hos2 : os2 = [] := List.eq_nil_of_length_eq_zero (by rw [ha.len]; rfl)
 subst hos2
 have hp := h.pts
 obtain ⟨q, rfl⟩ : ∃ q, ps = [q] := by
  cases hp with
  | cons h1 h2 => cases h2; exact ⟨_, rfl⟩
 have hpp : PtOk p q := by cases hp with | cons h1 _ => exact h1
 have hh := h.hits
 have hos3 : os3 = [] := List.eq_nil_of_length_eq_zero (by rw [hh.len]; rfl)
 subst hos3
 have hw := h.news
 obtain ⟨u, hu, hc⟩ := NewsTo.succ_inv hw
 obtain rfl := NewsTo.zero_inv hu
 rcases hc with ⟨hc, _⟩ | ⟨_, o, h1, h2, h3, h4, h5⟩
 ·
  exfalso
  rcases hc with hc | hc
  ·
   exact absurd hc (by show ¬ (0 : Int) < 0; decide)
  ·
   exact absurd hc (by show ¬ 256 ≤ 0; decide)
 ·
  rw [hkr, hn] at h2 h3 h4
  injection h5 with g1 g2 g3 g4
  refine ⟨by rw [g4, hn]; rfl, by rw [g3, hn]; rfl, o, by rw [g1]; rfl, ?_⟩
  have hs1 : StS c 72 43 vx (startF q.x r.noise r.sway) := start_S (fv_congr hx (hpp.1.trans (cn_ptX p).symm)) hr.nm hr.sway
  have hs2 : StS c 72 43 vy (startF q.y r.noise r.sway) := start_S (fv_congr hy (hpp.2.trans (cn_ptY p).symm)) hr.nm hr.sway
  refine ⟨by rw [h2]; rfl, ?_, by rw [h2]; rfl, by rw [h2]; rfl, by rw [h2]; rfl, by rw [h2]; exact hs1, by rw [h2]; exact hs2, by rw [h3]; rfl, by rw [h4]; rfl, by rw [h3, h2]; rfl, by rw [h4, h2]; rfl⟩
  rw [h2, kind_new]
  have := kind_sn hr.ok (j := 1) (by decide) (k := 0) (by rw [if_neg (by have := hr.ok.need1; omega)])
  exact this
theorem steady2 {c i : Nat} {r : Rul} {p : Plt} {vx vy : Int} {time time' : Nat} {k k' : Bok} {told : List Int} {os2 : List On} {ps : List Pq} {ms : List Int} {os3 : List On} {o : On} (hc : c = 1074) (hr : Pln c r) (hx : FV (ptX p) vx) (hy : FV (ptY p) vy) (hi : 1 ≤ i) (hi2 : i ≤ 200)
  (hk : k.os = [o]) (hkr : k.r = r) (hn : k.next = 2) (ho : Sty c i vx vy r time o) (ht : NM c (fop .sub time' time) (2 ^ 20)) (h : StepTo k time' [p] k' told os2 ps ms os3) : told = [1] ∧ k'.next = 2 ∧ ∃ o', k'.os = [o'] ∧ Sty c (i + 1) vx vy r time' o' := by
 have ha := h.ahead
 rw [hk, hkr] at ha
 have hkd : o.t.kind ≠ 2 := by rw [ho.kind]; split <;> decide
 have hal : [o].filter aliveB = [o] := by
  rw [List.filter_cons_of_pos (by unfold aliveB; rw [decide_eq_false hkd]; rfl)]; rfl
 rw [hal] at ha
 obtain ⟨o', rfl⟩ : ∃ o', os2 = [o'] := by
  cases ha with
  | cons h1 h2 => cases h2; exact ⟨_, rfl⟩
 have hA : AheadR time' r.sway o o' := by cases ha with | cons h1 _ => exact h1
 have hp := h.pts
 obtain ⟨q, rfl⟩ : ∃ q, ps = [q] := by
  cases hp with
  | cons h1 h2 => cases h2; exact ⟨_, rfl⟩
 have hpp : PtOk p q := by cases hp with | cons h1 _ => exact h1
 obtain ⟨x, y, hxc, hyc, rfl⟩ := hA
 obtain ⟨N, N1, N2, N3⟩ := hr.noise
 have ax : AhS c (70 + 2 * i) (42 + i) vx x := (ho.x.ahead hc (by omega) (by omega) (by omega) (by omega) (by rw [ho.last]; exact ht) hr.sway).congr hxc
 have ay : AhS c (70 + 2 * i) (42 + i) vy y := (ho.y.ahead hc (by omega) (by omega) (by omega) (by omega) (by rw [ho.last]; exact ht) hr.sway).congr hyc
 have hqx : FV q.x vx := fv_congr hx (hpp.1.trans (cn_ptX p).symm)
 have hqy : FV q.y vy := fv_congr hy (hpp.2.trans (cn_ptY p).symm)
 obtain ⟨sx, fx⟩ := ax.seen hc (by omega) (by omega) (by omega) hqx N1 N2 N3
 obtain ⟨sy, fy⟩ := ay.seen hc (by omega) (by omega) (by omega) hqy N1 N2 N3
 obtain ⟨g, g1, g2⟩ := hr.gate
 have hcost : 0 ≤ costT r.noise r.gate x y q.x q.y := cost_still fx fy g1 g2
 have hcr : costT r.noise r.gate x y q.x q.y ≤ 1099511627776 := by
  have := costT_rng (n := r.noise) (x := x) (y := y) (px := q.x) (py := q.y) hr.ok.gate
  omega
 obtain ⟨cnt, tt, hm⟩ := h.most
 have hrow : costRows k.r [q] [{ o with t := { o.t with x := x, y := y } }] = [[costT r.noise r.gate x y q.x q.y]] := by rw [hkr]; rfl
 rw [hrow] at hm
 have hms : ms = [0] := most_one1 hcost hcr hm
 subst hms
 have hh := h.hits
 obtain ⟨o3, rfl⟩ : ∃ o3, os3 = [o3] := by
  cases hh with
  | cons h1 h2 => cases h2; exact ⟨_, rfl⟩
 have hH : HitR k.r time' [q] ({ o with t := { o.t with x := x, y := y } }, 0) o3 := by cases hh with | cons h1 _ => exact h1
 obtain ⟨t, g1, g2, g3, g4, g5, g6⟩ := hH
 rw [if_pos (by show (0 : Int) ≤ 0; decide)] at g1
 obtain ⟨x', y', hx', hy', rfl⟩ := g1
 have hw := h.news
 obtain ⟨u, hu, hc2⟩ := NewsTo.succ_inv hw
 obtain rfl := NewsTo.zero_inv hu
 have htold : ([({ o with t := { o.t with x := x, y := y } } : On)].zip [(0 : Int)]).foldl hitT (List.replicate [p].length 0) = [1] := by
  show hitT [0] ({ o with t := { o.t with x := x, y := y } }, 0) = [1]
  show [o.t.id] = [1]
  rw [ho.id]
 rw [htold] at hc2
 rcases hc2 with ⟨_, h5⟩ | ⟨hc2, _⟩
 ·
  injection h5 with i1 i2 i3 i4
  have ex : o3.t.x = x' := by rw [g4]; rfl
  have ey : o3.t.y = y' := by rw [g4]; rfl
  refine ⟨i4, by rw [i3, hn], o3, i1, by rw [g4]; exact ho.id, ?_, ?_, ?_, by rw [g4]; rfl, ?_, ?_, ?_, ?_, ?_, ?_⟩
  ·
   rw [g4, hkr]
   show kindF r o.t.kind (or16 (shl16 o.t.seen)) (o.t.steps + 1) = _
   rw [ho.seen, ho.steps, next_sn]
   exact kind_sn hr.ok (j := i + 1) (by omega) ho.kind
  ·
   rw [g4]
   show or16 (shl16 o.t.seen) = _
   rw [ho.seen, next_sn]
  ·
   rw [g4]
   show o.t.steps + 1 = _
   rw [ho.steps]; omega
  ·
   rw [ex, show 70 + 2 * (i + 1) = 70 + 2 * i + 2 by omega, show 42 + (i + 1) = 42 + i + 1 by omega]
   rw [hkr] at hx'
   exact sx.congr hx'
  ·
   rw [ey, show 70 + 2 * (i + 1) = 70 + 2 * i + 2 by omega, show 42 + (i + 1) = 42 + i + 1 by omega]
   rw [hkr] at hy'
   exact sy.congr hy'
  ·
   rw [g5, List.length_append]; show o.xs.length + 1 = _; rw [ho.xs]
  ·
   rw [g6, List.length_append]; show o.ys.length + 1 = _; rw [ho.ys]
  ·
   rw [g5, ex, List.getD_eq_getElem?_getD, List.getElem?_append_right (by show o.xs.length ≤ _; rw [ho.xs]; omega)]
   show (([x'] : List Stt)[i + 1 - 1 - o.xs.length]?).getD stt0 = x'
   rw [ho.xs, show i + 1 - 1 - i = 0 by omega]; rfl
  ·
   rw [g6, ey, List.getD_eq_getElem?_getD, List.getElem?_append_right (by show o.ys.length ≤ _; rw [ho.ys]; omega)]
   show (([y'] : List Stt)[i + 1 - 1 - o.ys.length]?).getD stt0 = y'
   rw [ho.ys, show i + 1 - 1 - i = 0 by omega]; rfl
 ·
  exfalso
  exact hc2 (.inl (by show (0 : Int) < 1; decide))
end Go.Proofs.Ytffobakdngbadaa
