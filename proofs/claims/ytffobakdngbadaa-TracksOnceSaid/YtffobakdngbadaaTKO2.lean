/-
 A part of the proof: what functions that the statement reaches do, or a plain law on what they do. Each theorem holds under its own premises alone.
-/
import Derived.Test.YtffobakdngbadaaTKX
namespace Go.Proofs.Ytffobakdngbadaa
open Go Go.Lk Go.Pr
/-! ### Two books that are alike stay alike: a step has one answer, up to which NaN -/
structure OEq (o u : On) : Prop where
 t : TEq o.t u.t
 xs : o.xs.map Stt.c = u.xs.map Stt.c
 ys : o.ys.map Stt.c = u.ys.map Stt.c
theorem OEq.refl (o : On) : OEq o o := ⟨TEq.refl _, rfl, rfl⟩
def PqE (p q : Pq) : Prop := cn p.x = cn q.x ∧ cn p.y = cn q.y
def PltE (l m : Plt) : Prop := l.r = m.r ∧ l.b = m.b
theorem AheadR.eq {time q : Nat} {o o' u u' : On} (h : AheadR time q o o') (h' : AheadR time q u u') (he : OEq o u) : OEq o' u' := by
 obtain ⟨x, y, hx, hy, rfl⟩ := h
 obtain ⟨x', y', hx', hy', rfl⟩ := h'
 have et : cn (fop .sub time o.t.last) = cn (fop .sub time u.t.last) := by rw [fop_congr (x := time) rfl he.t.last]
 exact ⟨⟨he.t.id, he.t.kind, he.t.seen, he.t.steps, he.t.last, by show x.c = x'.c; rw [hx, hx', aheadF_congr he.t.x et], by show y.c = y'.c; rw [hy, hy', aheadF_congr he.t.y et]⟩, he.xs, he.ys⟩
theorem All2.two {α β γ δ : Type} {R : α → β → Prop} {S : γ → δ → Prop} {P : α → γ → Prop} {Q : β → δ → Prop} (hr : ∀ a b c d, R a b → S c d → P a c → Q b d) :
  ∀ {l : List α} {m : List β} {l' : List γ} {m' : List δ}, All2 R l m → All2 S l' m' → All2 P l l' → All2 Q m m'
 | _, _, _, _, .nil, h2, h3 => by cases h3; cases h2; exact .nil
 | _, _, _, _, .cons a1 h1, h2, h3 => by
  cases h3 with
  | cons c1 h3 =>
   cases h2 with
   | cons b1 h2 => exact .cons (hr _ _ _ _ a1 b1 c1) (All2.two hr h1 h2 h3)
theorem All2.filt {α β : Type} {R : α → β → Prop} {p : α → Bool} {q : β → Bool} (hp : ∀ a b, R a b → p a = q b) : ∀ {l : List α} {m : List β}, All2 R l m → All2 R (l.filter p) (m.filter q)
 | _, _, .nil => .nil
 | a :: _, b :: _, .cons h1 h => by
  rw [List.filter_cons, List.filter_cons, hp a b h1]
  split
  ·
   exact .cons h1 (All2.filt hp h)
  ·
   exact All2.filt hp h
theorem All2.app {α β : Type} {R : α → β → Prop} : ∀ {l : List α} {m : List β} {l' : List α} {m' : List β}, All2 R l m → All2 R l' m' → All2 R (l ++ l') (m ++ m')
 | _, _, _, _, .nil, h2 => h2
 | _, _, _, _, .cons a h1, h2 => .cons a (All2.app h1 h2)
theorem All2.map2 {α β γ : Type} {R : α → β → Prop} {f : α → γ} {g : β → γ} (h : ∀ a b, R a b → f a = g b) : ∀ {l : List α} {m : List β}, All2 R l m → l.map f = m.map g
 | _, _, .nil => rfl
 | _, _, .cons a h1 => by rw [List.map_cons, List.map_cons, h _ _ a, All2.map2 h h1]
theorem All2.refl {α : Type} {R : α → α → Prop} (h : ∀ a, R a a) : ∀ l : List α, All2 R l l
 | [] => .nil
 | a :: l => .cons (h a) (All2.refl h l)
theorem All2.zip {α β γ : Type} {R : α → β → Prop} : ∀ {l : List α} {m : List β} (ms : List γ), All2 R l m → All2 (fun z w => R z.1 w.1 ∧ z.2 = w.2) (l.zip ms) (m.zip ms)
 | _, _, _, .nil => by simpa using All2.nil
 | _, _, [], .cons _ _ => by simpa using All2.nil
 | _, _, x :: ms, .cons a h1 => .cons ⟨a, rfl⟩ (All2.zip ms h1)
theorem All2.left {α β : Type} {R : α → β → Prop} : ∀ {l : List α} {m : List β}, All2 R l m → ∀ a ∈ l, ∃ b ∈ m, R a b
 | _, _, .nil, a, h => by cases h
 | _, _, .cons h1 h, a, ha => by
  rcases List.mem_cons.1 ha with rfl | ha
  ·
   exact ⟨_, List.mem_cons_self .., h1⟩
  ·
   obtain ⟨b, hb, hr⟩ := All2.left h a ha
   exact ⟨b, List.mem_cons_of_mem _ hb, hr⟩
theorem PtOk.eq {l m : Plt} {p q : Pq} (h : PtOk l p) (h' : PtOk m q) (he : PltE l m) : PqE p q := by
 obtain ⟨e1, e2⟩ := he
 have ex : ptX l = ptX m := by unfold ptX; rw [e1, e2]
 have ey : ptY l = ptY m := by unfold ptY; rw [e1, e2]
 exact ⟨by rw [h.1, h'.1, ex], by rw [h.2, h'.2, ey]⟩
theorem costRow_eq {r : Rul} {ps qs : List Pq} {o u : On} (hp : All2 PqE ps qs) (he : OEq o u) : costRow r ps o = costRow r qs u :=
 All2.map2 (fun _ _ h => costT_congr he.t.x he.t.y h.1 h.2) hp
theorem costRows_eq {r : Rul} {ps qs : List Pq} {os us : List On} (hp : All2 PqE ps qs) (he : All2 OEq os us) : costRows r ps os = costRows r qs us :=
 All2.map2 (fun _ _ h => costRow_eq hp h) he
theorem All2.getE {ps qs : List Pq} (hp : All2 PqE ps qs) (i : Nat) : PqE (ps.getD i pq0) (qs.getD i pq0) := by
 by_cases h : i < ps.length
 ·
  exact hp.at h
 ·
  rw [List.getD_eq_getElem?_getD, List.getD_eq_getElem?_getD, List.getElem?_eq_none (by omega), List.getElem?_eq_none (by rw [hp.len]; omega)]; exact ⟨rfl, rfl⟩
theorem endT_eq {r : Rul} {t u : Trk} {time : Nat} (h : TEq t u) : TEq (endT r t time) (endT r u time) := by
 obtain ⟨h1, h2, h3, h4, h5, h6, h7⟩ := h
 exact ⟨h1, by show kindF r t.kind t.seen (t.steps + 1) = kindF r u.kind u.seen (u.steps + 1); rw [h2, h3, h4], h3, by show t.steps + 1 = u.steps + 1; rw [h4], rfl, h6, h7⟩
theorem HitR.eq {r : Rul} {time : Nat} {ps qs : List Pq} {z w : On × Int} {o u : On} (h : HitR r time ps z o) (h' : HitR r time qs w u) (hp : All2 PqE ps qs) (he : OEq z.1 w.1 ∧ z.2 = w.2) : OEq o u := by
 obtain ⟨t, h1, _, _, h4, h5, h6⟩ := h
 obtain ⟨t', h1', _, _, h4', h5', h6'⟩ := h'
 obtain ⟨e, e2⟩ := he
 have ht : TEq t t' := by
  rw [e2] at h1
  split at h1
  ·
   rename_i hw
   rw [if_pos hw] at h1'
   obtain ⟨x, y, hx, hy, rfl⟩ := h1
   obtain ⟨x', y', hx', hy', rfl⟩ := h1'
   have hq := All2.getE hp w.2.toNat
   exact ⟨e.t.id, e.t.kind, by show or16 (shl16 z.1.t.seen) = or16 (shl16 w.1.t.seen); rw [e.t.seen], e.t.steps, e.t.last, by show x.c = x'.c; rw [hx, hx', seenF_congr e.t.x hq.1], by show y.c = y'.c; rw [hy, hy', seenF_congr e.t.y hq.2]⟩
  ·
   rename_i hw
   rw [if_neg hw] at h1'
   subst h1
   subst h1'
   exact ⟨e.t.id, e.t.kind, by show shl16 z.1.t.seen = shl16 w.1.t.seen; rw [e.t.seen], e.t.steps, e.t.last, e.t.x, e.t.y⟩
 exact ⟨by rw [h4, h4']; exact endT_eq ht, by rw [h5, h5', List.map_append, List.map_append, e.xs, List.map_singleton, List.map_singleton, ht.x], by rw [h6, h6', List.map_append, List.map_append, e.ys, List.map_singleton, List.map_singleton, ht.y]⟩
theorem hits_eq : ∀ {zs ws : List (On × Int)} {told : List Int}, All2 (fun z w => OEq z.1 w.1 ∧ z.2 = w.2) zs ws → zs.foldl hitT told = ws.foldl hitT told
 | _, _, _, .nil => rfl
 | z :: _, u :: _, told, .cons ⟨a, b⟩ h => by
  have e : hitT told z = hitT told u := by unfold hitT; rw [b, a.t.id]
  rw [List.foldl_cons, List.foldl_cons, e]
  exact hits_eq h
structure NSE (s u : NS) : Prop where
 os : All2 OEq s.os u.os
 next : s.next = u.next
 told : s.told = u.told
theorem NewsTo.eq {r : Rul} {time : Nat} {ps qs : List Pq} {s s' : NS} {j : Nat} {u u' : NS} (hp : All2 PqE ps qs) (he : NSE s s') (h : NewsTo r time ps s j u) (h' : NewsTo r time qs s' j u') : NSE u u' := by
 induction j generalizing u u' with
 | zero => rw [h.zero_inv, h'.zero_inv]; exact he
 | succ j ih =>
  obtain ⟨v, hv, hc⟩ := h.succ_inv
  obtain ⟨v', hv', hc'⟩ := h'.succ_inv
  have e := ih hv hv'
  have hl := e.os.len
  rcases hc with ⟨hc, rfl⟩ | ⟨hc, o, h1, h2, h3, h4, rfl⟩
  ·
   rcases hc' with ⟨_, rfl⟩ | ⟨hc', _⟩
   ·
    exact e
   ·
    exact absurd (by rw [← e.told, hl]; exact hc) hc'
  ·
   rcases hc' with ⟨hc', _⟩ | ⟨_, o', h1', h2', h3', h4', rfl⟩
   ·
    exact absurd (by rw [e.told, ← hl]; exact hc') hc
   ·
    have hq := All2.getE hp j
    have hn : TEq (newT0 r v.next (ps.getD j pq0)) (newT0 r v'.next (qs.getD j pq0)) := ⟨e.next, rfl, rfl, rfl, rfl, start_congr hq.1, start_congr hq.2⟩
    refine ⟨e.os.app (.cons ⟨by rw [h2, h2']; exact endT_eq hn, by rw [h3, h3', List.map_singleton, List.map_singleton, hn.x], by rw [h4, h4', List.map_singleton, List.map_singleton, hn.y]⟩ .nil), by show v.next + 1 = v'.next + 1; rw [e.next], by show v.told.set j v.next = v'.told.set j v'.next; rw [e.next, e.told]⟩
structure BEq (k k' : Bok) : Prop where
 r : k.r = k'.r
 os : All2 OEq k.os k'.os
 next : k.next = k'.next
 last : k.last = k'.last
theorem StepTo.uniq {k1 k2 k1' k2' : Bok} {time : Nat} {l1 l2 : List Plt} {told1 told2 : List Int} {os1 os2 : List On} {ps1 ps2 : List Pq} {ms1 ms2 : List Int} {os3 os4 : List On} (hb : BEq k1 k2) (hl : All2 PltE l1 l2)
  (h1 : StepTo k1 time l1 k1' told1 os1 ps1 ms1 os3) (h2 : StepTo k2 time l2 k2' told2 os2 ps2 ms2 os4) : BEq k1' k2' ∧ told1 = told2 := by
 have hps : All2 PqE ps1 ps2 := All2.two (fun _ _ _ _ a b c => a.eq b c) h1.pts h2.pts hl
 have hf : All2 OEq (k1.os.filter aliveB) (k2.os.filter aliveB) := All2.filt (fun a b h => by unfold aliveB; rw [h.t.kind]) hb.os
 have ho : All2 OEq os1 os2 := All2.two (fun _ _ _ _ a b c => a.eq (by rw [hb.r]; exact b) c) h1.ahead h2.ahead hf
 obtain ⟨_, _, hm1⟩ := h1.most
 obtain ⟨_, _, hm2⟩ := h2.most
 rw [hb.r, costRows_eq hps ho] at hm1
 obtain ⟨rfl, _⟩ := MostAns.uniq hm1 hm2
 have hz := ho.zip ms1
 have h3 : All2 OEq os3 os4 := All2.two (fun _ _ _ _ a b c => a.eq (by rw [hb.r]; exact b) hps c) h1.hits h2.hits hz
 have hn1 := h1.news
 have hn2 := h2.news
 have hll := hl.len
 rw [hb.r] at hn1
 rw [hll] at hn2
 have := hn1.eq hps (⟨h3, hb.next, hits_eq hz⟩ : NSE ⟨os3, k1.ck, k1.next, _⟩ ⟨os4, k2.ck, k2.next, _⟩) hn2
 exact ⟨⟨by rw [h1.samer, h2.samer, hb.r], this.os, this.next, by rw [h1.last, h2.last]⟩, this.told⟩
theorem refE_eq {last time : Nat} {l m : List Plt} (h : All2 PltE l m) : refE last time l = refE last time m := by
 have e : l.all finP = m.all finP := by
  have : l.map finP = m.map finP := All2.map2 (fun a b ⟨x, y⟩ => by unfold finP; rw [x, y]) h
  have h1 : ∀ l : List Plt, l.all finP = (l.map finP).all id := fun l => by rw [List.all_map]; rfl
  rw [h1, h1, this]
 unfold refE
 rw [e, h.len]
/-- what is told names each track once, and tracks that are there -/
structure Once (k k' : Bok) (n : Nat) (told : List Int) : Prop where
 len : told.length = n
 ex : ∀ q, told.getD q 0 ≠ 0 → ∃ o ∈ k'.os, o.t.id = told.getD q 0 ∧ o.t.seen % 2 = 1
 inj : ∀ p q, p < q → told.getD p 0 = told.getD q 0 → told.getD q 0 = 0
 nw : ∀ q, told.getD q 0 ≠ 0 → (∀ o ∈ k.os, o.t.id ≠ told.getD q 0) → k.next ≤ told.getD q 0
 asc : ∀ p q, p < q → k.next ≤ told.getD p 0 → k.next ≤ told.getD q 0 → told.getD p 0 < told.getD q 0
 low : ∀ q, told.getD q 0 < k'.next
theorem NewsTo.once {r : Rul} {time : Nat} {ps : List Pq} {s u : NS} {j : Nat} (h : NewsTo r time ps s j u) (h0 : 1 ≤ s.next) (hlow : ∀ q, s.told.getD q 0 < s.next) :
  s.next ≤ u.next ∧ (∀ q, u.told.getD q 0 < u.next) ∧ (∀ q, u.told.getD q 0 = s.told.getD q 0 ∨ (q < j ∧ s.next ≤ u.told.getD q 0 ∧ ∃ o ∈ u.os, o.t.id = u.told.getD q 0 ∧ o.t.seen = 1)) ∧ (∀ o ∈ s.os, o ∈ u.os) ∧
  (∀ p q, p < q → s.next ≤ u.told.getD p 0 → s.next ≤ u.told.getD q 0 → u.told.getD p 0 < u.told.getD q 0) := by
 induction h with
 | zero => exact ⟨Int.le_refl _, hlow, fun _ => .inl rfl, fun _ h => h, fun p q _ h _ => by have := hlow p; omega⟩
 | old h1 _ ih =>
  obtain ⟨a, b, c, d, e⟩ := ih
  exact ⟨a, b, fun q => (c q).imp id fun ⟨x, y⟩ => ⟨by omega, y⟩, d, e⟩
 | @new j u o h1 h2 _ h4 _ _ ih =>
  obtain ⟨a, b, c, d, e⟩ := ih
  have hoid : o.t.id = u.next := by rw [h4]; rfl
  have hose : o.t.seen = 1 := by rw [h4]; rfl
  have g : ∀ q, (q = j ∧ (u.told.set j u.next).getD q 0 = u.next) ∨ (u.told.set j u.next).getD q 0 = u.told.getD q 0 := fun q => by
   by_cases hq : j = q
   ·
    subst hq
    by_cases hl : j < u.told.length
    ·
     left; refine ⟨rfl, ?_⟩; rw [List.getD_eq_getElem?_getD, List.getElem?_set_self hl]; rfl
    ·
     right; rw [List.set_eq_of_length_le (by omega)]
   ·
    right; rw [List.getD_eq_getElem?_getD, List.getElem?_set_ne hq, List.getD_eq_getElem?_getD]
  refine ⟨by show s.next ≤ u.next + 1; omega, fun q => ?_, fun q => ?_, fun x hx => List.mem_append_left _ (d x hx), fun p q hpq hp hq => ?_⟩
  ·
   show (u.told.set j u.next).getD q 0 < u.next + 1
   rcases g q with ⟨_, g⟩ | g
   ·
    rw [g]; omega
   ·
    rw [g]; have := b q; omega
  ·
   show (u.told.set j u.next).getD q 0 = _ ∨ (q < j + 1 ∧ s.next ≤ (u.told.set j u.next).getD q 0 ∧ ∃ x ∈ u.os ++ [o], x.t.id = (u.told.set j u.next).getD q 0 ∧ x.t.seen = 1)
   rcases g q with ⟨rfl, g⟩ | g
   ·
    rw [g]
    exact .inr ⟨by omega, a, o, List.mem_append_right _ (List.mem_singleton.2 rfl), hoid, hose⟩
   ·
    rw [g]
    rcases c q with c | ⟨c1, c2, x, hx, c3⟩
    ·
     exact .inl c
    ·
     exact .inr ⟨by omega, c2, x, List.mem_append_left _ hx, c3⟩
  ·
   show (u.told.set j u.next).getD p 0 < (u.told.set j u.next).getD q 0
   have hp' : s.next ≤ (u.told.set j u.next).getD p 0 := hp
   have hq' : s.next ≤ (u.told.set j u.next).getD q 0 := hq
   rcases g q with ⟨rfl, g1⟩ | g1
   ·
    rw [g1]
    rcases g p with ⟨rfl, _⟩ | g2
    ·
     omega
    ·
     rw [g2]; exact b p
   ·
    rw [g1] at hq' ⊢
    rcases g p with ⟨rfl, g2⟩ | g2
    ·
     exfalso
     rcases c q with c | ⟨c1, _⟩
     ·
      have := hlow q; omega
     ·
      omega
    ·
     rw [g2] at hp' ⊢
     exact e p q hpq hp' hq'
theorem or16_odd (s : Nat) : or16 s % 2 = 1 := by
 unfold or16
 rw [Nat.mod_two_eq_one_iff_testBit_zero, Nat.testBit_or]
 simp
theorem step_once {w0 : World} {N : Nat} {k k' : Bok} {time : Nat} {l : List Plt} {told : List Int} {os2 : List On} {ps : List Pq} {ms : List Int} {os3 : List On} (hk : k.ok w0 N) (hl : l.length ≤ 256) (h : StepTo k time l k' told os2 ps ms os3) : Once k k' l.length told := by
 have hps := h.pts.len
 obtain ⟨cnt, tt, hm⟩ := h.most
 have hal := h.ahead.len
 have hsub : ∀ o ∈ k.os.filter aliveB, o ∈ k.os := fun o ho => (List.mem_filter.1 ho).1
 have hle : os2.length ≤ 256 := by rw [hal]; exact Nat.le_trans (List.length_filter_le ..) hk.cnt
 obtain ⟨_, hml, hmr⟩ := most_len hk.rul.gate (by omega) hle hm
 have hids : (os2.map fun o => o.t.id) = (k.os.filter aliveB).map fun o => o.t.id := h.ahead.map_eq (f := fun o => o.t.id) fun _ _ hr => hr.tid
 have hnd : (os2.map fun o => o.t.id).Nodup := by
  rw [hids]
  have h1 : (k.os.map fun o => o.t.id).Nodup := by rw [← k.ids]; exact hk.ents.keys
  exact h1.sublist ((List.filter_sublist (p := aliveB)).map _)
 have hin : ∀ i, i < os2.length → ∃ o ∈ k.os, o.t.id = (os2.getD i on0).t.id := fun i hi => by
  have h1 : (os2.getD i on0).t.id ∈ os2.map fun o => o.t.id := List.mem_map.2 ⟨_, getD_mem hi, rfl⟩
  rw [hids] at h1
  obtain ⟨o, ho, he⟩ := List.mem_map.1 h1
  exact ⟨o, hsub o ho, he⟩
 have hid_inj : ∀ i j, i < os2.length → j < os2.length → (os2.getD i on0).t.id = (os2.getD j on0).t.id → i = j := fun i j hi hj he => by
  refine nodup_at hnd (i := i) (j := j) (x := (os2.getD i on0).t.id) (get_of_map rfl hi) ?_
  rw [he]; exact get_of_map rfl hj
 have hzi : ∀ z ∈ os2.zip ms, ∃ i, i < os2.length ∧ z = (os2.getD i on0, ms.getD i 0) := fun z hz => by
  obtain ⟨i, hi, rfl⟩ := List.getElem_of_mem hz
  rw [List.length_zip] at hi
  refine ⟨i, by omega, ?_⟩
  have h1 := zip_get (a := os2) (b := ms) (i := i) (da := on0) (db := 0) (by omega) (by omega)
  rw [List.getElem?_eq_getElem (by rw [List.length_zip]; omega)] at h1
  exact Option.some.inj h1
 obtain ⟨H, hHe⟩ : ∃ H, H = (os2.zip ms).foldl hitT (List.replicate l.length 0) := ⟨_, rfl⟩
 have hHl : H.length = l.length := by rw [hHe, hitsT_len, List.length_replicate]
 have hnews := h.news
 rw [← hHe] at hnews
 have hH : ∀ q, H.getD q 0 = 0 ∨ (q < l.length ∧ ∃ i, i < os2.length ∧ ms.getD i 0 = (q : Int) ∧ H.getD q 0 = (os2.getD i on0).t.id) := fun q => by
  by_cases hq : q < l.length
  ·
   rcases hits_told (n := l.length) (os2.zip ms) q hq with ⟨z, hz1, hz2, hz3⟩ | ⟨_, hz⟩
   ·
    obtain ⟨i, hi, rfl⟩ := hzi z hz1
    exact .inr ⟨hq, i, hi, hz2, by rw [hHe]; exact hz3⟩
   ·
    exact .inl (by rw [hHe]; exact hz)
  ·
   left
   rw [List.getD_eq_getElem?_getD, List.getElem?_eq_none (by omega)]; rfl
 have hHlow : ∀ q, H.getD q 0 < k.next := fun q => by
  have := hk.next1
  rcases hH q with h0 | ⟨_, i, hi, _, h0⟩
  ·
   omega
  ·
   obtain ⟨o, ho, he⟩ := hin i hi
   have := (hk.low o ho).2
   omega
 have htl : told.length = l.length := by
  have := (hnews.facts hk.next1).1
  have e : told.length = H.length := this
  omega
 obtain ⟨f1, f2, f3, f4, f5⟩ := hnews.once hk.next1 hHlow
 have f2 : ∀ q, told.getD q 0 < k'.next := f2
 have f3 : ∀ q, told.getD q 0 = H.getD q 0 ∨ (q < l.length ∧ k.next ≤ told.getD q 0 ∧ ∃ o ∈ k'.os, o.t.id = told.getD q 0 ∧ o.t.seen = 1) := f3
 have f5 : ∀ p q, p < q → k.next ≤ told.getD p 0 → k.next ≤ told.getD q 0 → told.getD p 0 < told.getD q 0 := f5
 have f4 : ∀ o ∈ os3, o ∈ k'.os := f4
 refine ⟨htl, fun q hq => ?_, fun p q hpq he => ?_, fun q hq hno => ?_, f5, f2⟩
 ·
  rcases f3 q with f | ⟨_, _, o, ho, h1, h2⟩
  ·
   rcases hH q with h0 | ⟨_, i, hi, hmi, h0⟩
   ·
    exact absurd (f.trans h0) hq
   ·
    have hz : (os2.getD i on0, ms.getD i 0) ∈ os2.zip ms := List.mem_of_getElem? (zip_get (a := os2) (b := ms) (i := i) (by omega) (by omega))
    obtain ⟨o, ho, t, ht, _, _, hot, _⟩ := h.hits.left _ hz
    rw [if_pos (by show 0 ≤ ms.getD i 0; omega)] at ht
    obtain ⟨x, y, _, _, rfl⟩ := ht
    refine ⟨o, f4 o ho, ?_, ?_⟩
    ·
     rw [hot, f, h0]; rfl
    ·
     rw [hot]; exact or16_odd _
  ·
   exact ⟨o, ho, h1, by rw [h2]⟩
 ·
  have hn1 := hk.next1
  rcases f3 q with f | ⟨_, f, _⟩
  ·
   rcases f3 p with g | ⟨_, g, _⟩
   ·
    rcases hH q with h0 | ⟨_, i, hi, hmi, h0⟩
    ·
     rw [f, h0]
    ·
     rcases hH p with h1 | ⟨_, j, hj, hmj, h1⟩
     ·
      rw [← he, g, h1]
     ·
      exfalso
      have : i = j := hid_inj i j hi hj (by rw [← h0, ← h1, ← f, ← g, he])
      subst this
      omega
   ·
    have := hHlow q; omega
  ·
   rcases f3 p with g | ⟨_, g, _⟩
   ·
    have := hHlow p; omega
   ·
    have := f5 p q hpq g f; omega
 ·
  rcases f3 q with f | ⟨_, f, _⟩
  ·
   rcases hH q with h0 | ⟨_, i, hi, hmi, h0⟩
   ·
    exact absurd (f.trans h0) hq
   ·
    obtain ⟨o, ho, he⟩ := hin i hi
    exact absurd (by rw [he, f, h0]) (hno o ho)
  ·
   exact f
end Go.Proofs.Ytffobakdngbadaa
