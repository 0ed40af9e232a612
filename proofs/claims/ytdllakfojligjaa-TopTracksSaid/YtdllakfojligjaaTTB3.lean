/-
  A part of the proof: what functions that the statement reaches do, or a plain law on what they do. Each theorem holds under its own premises alone.
-/
import Derived.Test.YtdllakfojligjaaTTB2
namespace Go.Proofs.Ytdllakfojligjaa
open Go Go.Lk Go.Pr
theorem cn_ptX (l : Plt) : cn (ptX l) = ptX l := cn_fop ..
theorem cn_ptY (l : Plt) : cn (ptY l) = ptY l := cn_fop ..
/-! ### TopTracks: what holds of all tracks behind a step -/
structure Tono (c j last : Nat) (o : On) : Prop where
 ex : ∃ i, i < j ∧ Tst c i o.t.x ∧ Tst c i o.t.y
 last : o.t.last = last
 steps : 1 ≤ o.t.steps
 xs : (o.xs.length : Int) = o.t.steps
 ys : (o.ys.length : Int) = o.t.steps
 lx : o.xs.getLast? = some o.t.x
 ly : o.ys.getLast? = some o.t.y
/-- what holds of a track behind a step: of one that was seen, and of a new one -/
structure Seen1 (c : Nat) (N : Int) (told : List Int) (o : On) : Prop where
 tol : ∃ q, told.getD q 0 = o.t.id
 px : ∃ z, FV o.t.x.p z ∧ z ≤ N
 py : ∃ z, FV o.t.y.p z ∧ z ≤ N
structure TopIn (c j : Nat) (N : Int) (k : Bok) (time : Nat) (l : List Plt) : Prop where
 j39 : j ≤ 39
 on : ∀ o ∈ k.os, Tono c j k.last o
 dt : ∀ o ∈ k.os, Dt c (fop .sub time k.last)
 noise : FV k.r.noise N
 N0 : ((2 ^ c : Nat) : Int) ≤ N
 N1 : N ≤ ((2 ^ 10 * 2 ^ c : Nat) : Int)
 sway : NM c k.r.sway (2 ^ 7)
 pts : ∀ p ∈ l, AM c (ptX p) (2 ^ 165) ∧ AM c (ptY p) (2 ^ 165)
theorem All2.right' {α β : Type} {R : α → β → Prop} : ∀ {l : List α} {m : List β}, All2 R l m → ∀ b ∈ m, ∃ a ∈ l, R a b
 | _, _, .nil, _, h => by cases h
 | _, _, .cons h1 h, b, hb => by
  rcases List.mem_cons.1 hb with rfl | hb
  ·
   exact ⟨_, List.mem_cons_self .., h1⟩
  ·
   obtain ⟨a, ha, hr⟩ := All2.right' h b hb
   exact ⟨a, List.mem_cons_of_mem _ ha, hr⟩
theorem news_all {r : Rul} {time : Nat} {ps : List Pq} {s u : NS} {j : Nat} (h : NewsTo r time ps s j u) (hj : j ≤ s.told.length) :
  u.told.length = s.told.length ∧ s.next ≤ u.next ∧ ∀ o ∈ u.os, o ∈ s.os ∨ ∃ i nx, i < j ∧ s.next ≤ nx ∧ o.t = endT r (newT0 r nx (ps.getD i pq0)) time ∧ o.xs = [(newT0 r nx (ps.getD i pq0)).x] ∧ o.ys = [(newT0 r nx (ps.getD i pq0)).y] ∧ u.told.getD i 0 = nx := by
 induction h with
 | zero => exact ⟨rfl, Int.le_refl _, fun o ho => .inl ho⟩
 | old _ _ ih =>
  obtain ⟨a, b, d⟩ := ih (by omega)
  exact ⟨a, b, fun o ho => (d o ho).imp id fun ⟨i, nx, h1, h2⟩ => ⟨i, nx, by omega, h2⟩⟩
 | @new j u o _ _ _ h4 h5 h6 ih =>
  obtain ⟨a, b, d⟩ := ih (by omega)
  refine ⟨by rw [List.length_set, a], by show s.next ≤ u.next + 1; omega, fun x hx => ?_⟩
  rcases List.mem_append.1 hx with hx | hx
  ·
   rcases d x hx with h1 | ⟨i, nx, h1, h2, h3, h4', h5', h6'⟩
   ·
    exact .inl h1
   ·
    refine .inr ⟨i, nx, by omega, h2, h3, h4', h5', ?_⟩
    show (u.told.set j u.next).getD i 0 = nx
    rw [List.getD_eq_getElem?_getD, List.getElem?_set_ne (by omega), ← List.getD_eq_getElem?_getD]
    exact h6'
  ·
   obtain rfl := List.mem_singleton.1 hx
   refine .inr ⟨j, u.next, by omega, b, h4, h5, h6, ?_⟩
   show (u.told.set j u.next).getD j 0 = u.next
   rw [List.getD_eq_getElem?_getD, List.getElem?_set_self (by omega)]; rfl
theorem last_snoc {α : Type} (l : List α) (a : α) : (l ++ [a]).getLast? = some a := by simp
theorem top_step {w0 : World} {n c j : Nat} {N : Int} {k k' : Bok} {time : Nat} {l : List Plt} {told : List Int} {os2 : List On} {ps : List Pq} {ms : List Int} {os3 : List On} (hc : c = 1074) (hk : k.ok w0 n) (hI : TopIn c j N k time l) (hl : l.length ≤ 256) (h : StepTo k time l k' told os2 ps ms os3) :
  ∀ o ∈ k'.os, Tono c (j + 1) time o ∧ (o.t.seen % 2 = 1 → Seen1 c N told o) ∧ (o.t.steps = 1 → k.next ≤ o.t.id) := by
 have hps := h.pts.len
 have hpt : ∀ q, q < l.length → AM c (ps.getD q pq0).x (2 ^ 165) ∧ AM c (ps.getD q pq0).y (2 ^ 165) := fun q hq => by
  have h1 := h.pts.at (i := q) (da := plt0) (db := pq0) hq
  obtain ⟨h2, h3⟩ := hI.pts (l.getD q plt0) (getD_mem hq)
  exact ⟨h2.congr (h1.1.trans (cn_ptX _).symm), h3.congr (h1.2.trans (cn_ptY _).symm)⟩
 have hnN : NM c k.r.noise (2 ^ 10) := by
  have := Nat.two_pow_pos c
  have := hI.N0
  exact ⟨N, hI.noise, by omega, hI.N1⟩
 -- ahead
 have h2 : ∀ o ∈ os2, (∃ i, i < j ∧ Aht c i o.t.x ∧ Aht c i o.t.y) ∧ 1 ≤ o.t.steps ∧ (o.xs.length : Int) = o.t.steps ∧ (o.ys.length : Int) = o.t.steps ∧ 1 ≤ o.t.id := fun o ho => by
  obtain ⟨b, hb, x, y, hx, hy, rfl⟩ := All2.right' h.ahead o ho
  have hbk := (List.mem_filter.1 hb).1
  have ht := hI.on b hbk
  obtain ⟨i, hi, tx, ty⟩ := ht.ex
  have hj := hI.j39
  have hd := hI.dt b hbk
  rw [← ht.last] at hd
  exact ⟨⟨i, hi, (tx.ahead hc (by omega) hd hI.sway).congr hx, (ty.ahead hc (by omega) hd hI.sway).congr hy⟩, ht.steps, ht.xs, ht.ys, (hk.low b hbk).1⟩
 obtain ⟨cnt, tt, hm⟩ := h.most
 have hle : os2.length ≤ 256 := by rw [h.ahead.len]; exact Nat.le_trans (List.length_filter_le ..) hk.cnt
 obtain ⟨_, hml, hmr⟩ := most_len hk.rul.gate (by omega) hle hm
 obtain ⟨H, hHe⟩ : ∃ H, H = (os2.zip ms).foldl hitT (List.replicate l.length 0) := ⟨_, rfl⟩
 have hnews := h.news
 rw [← hHe] at hnews
 -- what was hit
 have h3 : ∀ o ∈ os3, Tono c (j + 1) time o ∧ (o.t.seen % 2 = 1 → ∃ q, H.getD q 0 = o.t.id ∧ 0 < o.t.id) ∧ (o.t.seen % 2 = 1 → (∃ z, FV o.t.x.p z ∧ z ≤ N) ∧ ∃ z, FV o.t.y.p z ∧ z ≤ N) ∧ 1 < o.t.steps := fun o ho => by
  obtain ⟨z, hz, t, ht, e1, e2, e3, e4, e5⟩ := All2.right' h.hits o ho
  have hz1 := (List.of_mem_zip (show (z.1, z.2) ∈ _ from hz)).1
  have hz2 := (List.of_mem_zip (show (z.1, z.2) ∈ _ from hz)).2
  obtain ⟨⟨i, hi, ax, ay⟩, b1, b2, b3, b4⟩ := h2 z.1 hz1
  have hj := hI.j39
  have hs : o.t.steps = t.steps + 1 := by rw [e3]; rfl
  have hid : o.t.id = t.id := by rw [e3]; rfl
  have hse : o.t.seen = t.seen := by rw [e3]; rfl
  have hx : o.t.x = t.x := by rw [e3]; rfl
  have hy : o.t.y = t.y := by rw [e3]; rfl
  have hla : o.t.last = time := by rw [e3]; rfl
  have key : t.steps = z.1.t.steps ∧ t.id = z.1.t.id ∧ (∃ i, i < j + 1 ∧ Tst c i t.x ∧ Tst c i t.y) ∧ (t.seen % 2 = 1 → ∃ q, H.getD q 0 = o.t.id ∧ 0 < o.t.id) ∧ (t.seen % 2 = 1 → (∃ z, FV t.x.p z ∧ z ≤ N) ∧ ∃ z, FV t.y.p z ∧ z ≤ N) := by
   by_cases hm0 : 0 ≤ z.2
   ·
    rw [if_pos hm0] at ht
    obtain ⟨x, y, hx', hy', rfl⟩ := ht
    have hq := (hmr z.2 hz2).2
    obtain ⟨px, py⟩ := hpt z.2.toNat (by omega)
    obtain ⟨sx, zx, zx1, zx2, zx3⟩ := ax.seen hc (by omega) px hI.noise hI.N0 hI.N1
    obtain ⟨sy, zy, zy1, zy2, zy3⟩ := ay.seen hc (by omega) py hI.noise hI.N0 hI.N1
    refine ⟨rfl, rfl, ⟨i + 1, by omega, sx.congr hx', sy.congr hy'⟩, fun _ => ?_, fun _ => ⟨⟨zx, fv_congr zx1 (Stt.parts hx').2.2.1, zx3⟩, zy, fv_congr zy1 (Stt.parts hy').2.2.1, zy3⟩⟩
    rw [hid]
    have hql : z.2.toNat < l.length := by omega
    rcases hits_told (n := l.length) (os2.zip ms) z.2.toNat hql with ⟨z', y1, y2, y3⟩ | ⟨y1, _⟩
    ·
     refine ⟨z.2.toNat, ?_, by show 0 < z.1.t.id; omega⟩
     rw [hHe, y3]
     obtain ⟨a, ha, rfl⟩ := List.getElem_of_mem hz
     obtain ⟨b, hb, rfl⟩ := List.getElem_of_mem y1
     rw [List.length_zip] at ha hb
     rw [List.getElem_zip] at y2 hm0 ⊢
     rw [List.getElem_zip] at y2 ⊢
     have hab : a = b := MostAns.inj hm (by omega) (by omega) (by rw [List.getD_eq_getElem?_getD, List.getElem?_eq_getElem (by omega)]; exact hm0)
      (by rw [List.getD_eq_getElem?_getD, List.getElem?_eq_getElem (by omega), List.getD_eq_getElem?_getD, List.getElem?_eq_getElem (by omega)]; show ms[a] = ms[b]; have h9 : ms[b] = ((ms[a]).toNat : Int) := y2; have h8 : 0 ≤ ms[a] := hm0; omega)
     subst hab
     rfl
    ·
     exact absurd (by omega : z.2 = (z.2.toNat : Int)) (y1 z hz)
   ·
    rw [if_neg hm0] at ht
    subst ht
    refine ⟨rfl, rfl, ⟨i + 1, by omega, ax.miss, ay.miss⟩, fun hh => ?_, fun hh => ?_⟩
    ·
     exfalso
     have : shl16 z.1.t.seen % 2 = 1 := hh
     unfold shl16 at this
     omega
    ·
     exfalso
     have : shl16 z.1.t.seen % 2 = 1 := hh
     unfold shl16 at this
     omega
  obtain ⟨k1, k2, k3, k4, k5⟩ := key
  refine ⟨⟨by rw [hx, hy]; exact k3, hla, by omega, ?_, ?_, by rw [e4, hx]; exact last_snoc _ _, by rw [e5, hy]; exact last_snoc _ _⟩, by rw [hse]; exact k4, by rw [hse, hx, hy]; exact k5, by omega⟩
  ·
   rw [e4, List.length_append, List.length_singleton, hs, k1]; omega
  ·
   rw [e5, List.length_append, List.length_singleton, hs, k1]; omega
 have hHl : H.length = l.length := by rw [hHe, hitsT_len, List.length_replicate]
 obtain ⟨n1, _, n3⟩ := news_all hnews (by show l.length ≤ H.length; omega)
 obtain ⟨f1, f2, _, f4, _⟩ := hnews.facts hk.next1
 have n3 : ∀ o ∈ k'.os, o ∈ os3 ∨ ∃ i nx, i < l.length ∧ k.next ≤ nx ∧ o.t = endT k.r (newT0 k.r nx (ps.getD i pq0)) time ∧ o.xs = [(newT0 k.r nx (ps.getD i pq0)).x] ∧ o.ys = [(newT0 k.r nx (ps.getD i pq0)).y] ∧ told.getD i 0 = nx := n3
 have f4 : ∀ q, told.getD q 0 = H.getD q 0 ∨ (¬ 0 < H.getD q 0 ∧ k.next ≤ told.getD q 0) := f4
 intro o ho
 rcases n3 o ho with h1 | ⟨i, nx, hi, hnx, e1, e2, e3, e4⟩
 ·
  obtain ⟨g1, g2, g3, g4⟩ := h3 o h1
  refine ⟨g1, fun hh => ?_, fun hh => by omega⟩
  obtain ⟨q, q1, q2⟩ := g2 hh
  obtain ⟨gx, gy⟩ := g3 hh
  refine ⟨⟨q, ?_⟩, gx, gy⟩
  rcases f4 q with f | ⟨f, _⟩
  ·
   rw [f, q1]
  ·
   rw [q1] at f; exact absurd q2 f
 ·
  obtain ⟨px, py⟩ := hpt i hi
  have hx : o.t.x = startF (ps.getD i pq0).x k.r.noise k.r.sway := by rw [e1]; rfl
  have hy : o.t.y = startF (ps.getD i pq0).y k.r.noise k.r.sway := by rw [e1]; rfl
  refine ⟨⟨⟨0, by omega, by rw [hx]; exact start_T px hnN hI.sway, by rw [hy]; exact start_T py hnN hI.sway⟩, by rw [e1]; rfl, by rw [e1]; exact Int.le_refl 1, by rw [e1, e2]; rfl, by rw [e1, e3]; rfl, by rw [e1, e2]; rfl, by rw [e1, e3]; rfl⟩, fun _ => ⟨⟨i, by rw [e4, e1]; rfl⟩, ⟨N, by rw [hx]; exact hI.noise, Int.le_refl _⟩, N, by rw [hy]; exact hI.noise, Int.le_refl _⟩, fun _ => by rw [e1]; exact hnx⟩
end Go.Proofs.Ytdllakfojligjaa
