/-
  A part of the proof: what functions that the statement reaches do, or a plain law on what they do. Each theorem holds under its own premises alone.
-/
import Derived.Test.YtdllakfojligjaaTKM
namespace Go.Proofs.Ytdllakfojligjaa
open Go Go.Lk
/-! ### What a step does -/
inductive All2 {α β : Type} (R : α → β → Prop) : List α → List β → Prop where
 | nil : All2 R [] []
 | cons {a : α} {b : β} {l : List α} {m : List β} : R a b → All2 R l m → All2 R (a :: l) (b :: m)
theorem All2.len {α β : Type} {R : α → β → Prop} {l : List α} {m : List β} (h : All2 R l m) : m.length = l.length := by
 induction h with
 | nil => rfl
 | cons _ _ ih => simp [ih]
theorem All2.snoc {α β : Type} {R : α → β → Prop} {l : List α} {m : List β} {a : α} {b : β} (h : All2 R l m) (hab : R a b) : All2 R (l ++ [a]) (m ++ [b]) := by
 induction h with
 | nil => exact .cons hab .nil
 | cons h1 _ ih => exact .cons h1 ih
theorem All2.at {α β : Type} {R : α → β → Prop} {l : List α} {m : List β} (h : All2 R l m) {da : α} {db : β} {i : Nat} (hi : i < l.length) : R (l.getD i da) (m.getD i db) := by
 induction h generalizing i with
 | nil => simp at hi
 | cons h1 _ ih =>
  cases i with
  | zero => exact h1
  | succ i => exact ih (by simpa using hi)
theorem All2.mono {α β : Type} {R S : α → β → Prop} {l : List α} {m : List β} (h : All2 R l m) (hrs : ∀ a b, R a b → S a b) : All2 S l m := by
 induction h with
 | nil => exact .nil
 | cons h1 _ ih => exact .cons (hrs _ _ h1) ih
structure Pq where
 x : Nat
 y : Nat
def pq0 : Pq := ⟨0, 0⟩
def Pq.cells (p : Pq) : List Value := [.float .f64 p.x, .float .f64 p.y]
def pqs (ps : List Pq) : List Value := ps.flatMap Pq.cells
theorem pqs_app (a b : List Pq) : pqs (a ++ b) = pqs a ++ pqs b := List.flatMap_append ..
theorem pqs_len : ∀ ps : List Pq, (pqs ps).length = ps.length * 2
 | [] => rfl
 | p :: ps => by
  show (p.cells ++ pqs ps).length = _
  rw [List.length_append, pqs_len ps, List.length_cons, show p.cells.length = 2 from rfl]; omega
theorem pqs_get : ∀ {ps : List Pq} {i q : Nat} {v : Value}, i < ps.length → (ps.getD i pq0).cells[q]? = some v → (pqs ps)[i * 2 + q]? = some v
 | [], _, _, _, hi, _ => by simp at hi
 | t :: ts, 0, q, v, _, h => by
  have hq := (List.getElem?_eq_some_iff.1 h).1
  show (t.cells ++ pqs ts)[0 * 2 + q]? = _
  rw [show 0 * 2 + q = q by omega, List.getElem?_append_left (by simpa using hq)]
  simpa using h
 | t :: ts, i + 1, q, v, hi, h => by
  show (t.cells ++ pqs ts)[(i + 1) * 2 + q]? = _
  have hl : t.cells.length = 2 := rfl
  rw [List.getElem?_append_right (by omega), show (i + 1) * 2 + q - t.cells.length = i * 2 + q by omega]
  exact pqs_get (by simpa using hi) h
theorem pqs_made (k : Nat) : (List.replicate k [Value.float .f64 0, .float .f64 0]).flatten = pqs (List.replicate k pq0) := by
 induction k with
 | zero => rfl
 | succ k ih => rw [List.replicate_succ, List.flatten_cons, ih]; rfl
theorem pqs_put {ps : List Pq} {i m : Nat} {p : Pq} (hi : ps.length = i) : (pqs (ps ++ List.replicate (m + 1) pq0)).take (i * 2) ++ p.cells ++ (pqs (ps ++ List.replicate (m + 1) pq0)).drop (i * 2 + 2) = pqs ((ps ++ [p]) ++ List.replicate m pq0) := by
 have e : pqs (ps ++ List.replicate (m + 1) pq0) = pqs ps ++ (pq0.cells ++ pqs (List.replicate m pq0)) := by rw [pqs_app, List.replicate_succ]; rfl
 have hl := pqs_len ps
 rw [hi] at hl
 rw [e, List.take_left' hl, ← List.append_assoc (pqs ps) pq0.cells, List.drop_left' (by rw [List.length_append, hl]; rfl), pqs_app, pqs_app, show pqs [p] = p.cells by simp [pqs]]
def PtOk (l : Plt) (p : Pq) : Prop := cn p.x = ptX l ∧ cn p.y = ptY l
def aliveB (o : On) : Bool := !decide (o.t.kind = 2)
def AheadR (time q : Nat) (o o' : On) : Prop := ∃ x y : Stt, x.c = (aheadF o.t.x (fop .sub time o.t.last) q).c ∧ y.c = (aheadF o.t.y (fop .sub time o.t.last) q).c ∧ o' = { o with t := { o.t with x := x, y := y } }
def costRow (r : Rul) (ps : List Pq) (o : On) : List Int := ps.map fun p => costT r.noise r.gate o.t.x o.t.y p.x p.y
def costRows (r : Rul) (ps : List Pq) (os : List On) : List (List Int) := os.map (costRow r ps)
def shl16 (s : Nat) : Nat := s * 2 % 65536
def or16 (s : Nat) : Nat := s ||| 1
def HitR (r : Rul) (time : Nat) (ps : List Pq) (z : On × Int) (o : On) : Prop := ∃ t : Trk, (if 0 ≤ z.2 then ∃ x y : Stt, x.c = (seenF z.1.t.x (ps.getD z.2.toNat pq0).x r.noise).c ∧ y.c = (seenF z.1.t.y (ps.getD z.2.toNat pq0).y r.noise).c ∧ t = { z.1.t with x := x, y := y, seen := or16 (shl16 z.1.t.seen) } else t = { z.1.t with seen := shl16 z.1.t.seen }) ∧
 o.p = z.1.p ∧ o.c = z.1.c ∧ o.t = endT r t time ∧ o.xs = z.1.xs ++ [t.x] ∧ o.ys = z.1.ys ++ [t.y]
def hitT (told : List Int) (z : On × Int) : List Int := if 0 ≤ z.2 then told.set z.2.toNat z.1.t.id else told
def newT0 (r : Rul) (id : Int) (p : Pq) : Trk := ⟨id, 0, startF p.x r.noise r.sway, startF p.y r.noise r.sway, 1, 0, 0⟩
structure NS where
 os : List On
 ck : Nat
 next : Int
 told : List Int
inductive NewsTo (r : Rul) (time : Nat) (ps : List Pq) (s : NS) : Nat → NS → Prop where
 | zero : NewsTo r time ps s 0 s
 | old {j : Nat} {u : NS} : NewsTo r time ps s j u → 0 < u.told.getD j 0 ∨ 256 ≤ u.os.length → NewsTo r time ps s (j + 1) u
 | new {j : Nat} {u : NS} {o : On} : NewsTo r time ps s j u → ¬ (0 < u.told.getD j 0 ∨ 256 ≤ u.os.length) → o.c = u.ck → o.t = endT r (newT0 r u.next (ps.getD j pq0)) time → o.xs = [(newT0 r u.next (ps.getD j pq0)).x] → o.ys = [(newT0 r u.next (ps.getD j pq0)).y] →
   NewsTo r time ps s (j + 1) ⟨u.os ++ [o], u.ck + 1, u.next + 1, u.told.set j u.next⟩
/-- a step that is not refused: what was there, the plots; what is there, what was told -/
structure StepTo (k : Bok) (time : Nat) (l : List Plt) (k' : Bok) (told : List Int) (os2 : List On) (ps : List Pq) (ms : List Int) (os3 : List On) : Prop where
 sameB : k'.B = k.B
 samem : k'.mb = k.mb
 samer : k'.r = k.r
 last : k'.last = time
 ahead : All2 (AheadR time k.r.sway) (k.os.filter aliveB) os2
 pts : All2 PtOk l ps
 most : ∃ cnt t, MostAns (costRows k.r ps os2) ms cnt t 0
 lenm : ms.length = os2.length
 hits : All2 (HitR k.r time ps) (os2.zip ms) os3
 news : NewsTo k.r time ps ⟨os3, k.ck, k.next, (os2.zip ms).foldl hitT (List.replicate l.length 0)⟩ l.length ⟨k'.os, k'.ck, k'.next, told⟩
theorem costRows_len (r : Rul) (ps : List Pq) (os : List On) : (costRows r ps os).length = os.length := List.length_map ..
theorem costRows_get {r : Rul} {ps : List Pq} {os : List On} : ∀ x ∈ costRows r ps os, x.length = ps.length := fun x hx => by
 obtain ⟨o, _, rfl⟩ := List.mem_map.1 hx
 exact List.length_map ..
theorem chk_cost {r : Rul} {ps : List Pq} {os : List On} (hg : GateOk r.gate) (h1 : ps.length ≤ 256) (h2 : os.length ≤ 256) : chk (costRows r ps os) = 0 := by
 unfold chk
 have hw : ∀ x ∈ costRows r ps os, x.length = wid (costRows r ps os) 0 := by
  intro x hx
  have hx1 := costRows_get x hx
  unfold wid
  have h0 : 0 < (costRows r ps os).length := List.length_pos_of_mem hx
  rw [List.getD_eq_getElem?_getD, List.getElem?_eq_getElem h0, Option.getD_some, costRows_get _ (List.getElem_mem h0), hx1]
 rw [if_neg, if_neg, if_neg]
 ·
  intro h
  obtain ⟨x, hx, h⟩ := List.any_eq_true.1 h
  obtain ⟨c, hc, h⟩ := List.any_eq_true.1 h
  obtain ⟨o, _, rfl⟩ := List.mem_map.1 hx
  obtain ⟨p, _, rfl⟩ := List.mem_map.1 hc
  have := costT_rng (n := r.noise) (x := o.t.x) (y := o.t.y) (px := p.x) (py := p.y) hg
  rw [decide_eq_true_eq] at h
  omega
 ·
  intro h
  obtain ⟨x, hx, h⟩ := List.any_eq_true.1 h
  rw [decide_eq_true_eq] at h
  exact h (hw x hx)
 ·
  intro h
  rw [Bool.or_eq_true, decide_eq_true_eq] at h
  rcases h with h | h
  ·
   rw [costRows_len] at h; omega
  ·
   obtain ⟨x, hx, h⟩ := List.any_eq_true.1 h
   rw [decide_eq_true_eq, costRows_get x hx] at h
   omega
theorem most_len {r : Rul} {ps : List Pq} {os : List On} {ms : List Int} {cnt t e : Int} (hg : GateOk r.gate) (h1 : ps.length ≤ 256) (h2 : os.length ≤ 256) (h : MostAns (costRows r ps os) ms cnt t e) : e = 0 ∧ ms.length = os.length ∧ ∀ m ∈ ms, -1 ≤ m ∧ m < ps.length := by
 have hc := chk_cost hg h1 h2
 rcases h with ⟨h3, rfl, _, _, rfl⟩ | ⟨_, hne, f, _, rfl, _, _, rfl⟩
 ·
  refine ⟨hc, ?_, fun m hm => (by cases hm)⟩
  rcases h3 with h3 | h3
  ·
   exact absurd hc h3
  ·
   rw [costRows_len] at h3; rw [h3]; rfl
 ·
  refine ⟨rfl, by rw [List.length_map, List.length_range, costRows_len], fun m hm => ?_⟩
  obtain ⟨i, _, rfl⟩ := List.mem_map.1 hm
  have hw : wid (costRows r ps os) 0 = ps.length := by
   unfold wid
   have h0 : 0 < (costRows r ps os).length := Nat.pos_of_ne_zero hne
   rw [List.getD_eq_getElem?_getD, List.getElem?_eq_getElem h0, Option.getD_some, costRows_get _ (List.getElem_mem h0)]
  rw [hw]
  split <;> omega
/-- the dead, dropped -/
theorem HS.alive {w0 w : World} {L : Bks} {os : List On} {p : On → Bool} (h : HS w0 w (obs os ++ L)) (ho : ∀ o ∈ os, o.ok w0) : HS w0 w (obs (os.filter p) ++ L) := by
 have hsub : ((os.filter p).flatMap On.bks).Sublist (os.flatMap On.bks) := by
  clear h ho
  induction os with
  | nil => exact List.Sublist.refl _
  | cons o os ih =>
   rw [List.flatMap_cons]
   by_cases hp : p o = true
   ·
    rw [List.filter_cons_of_pos hp, List.flatMap_cons]; exact (List.Sublist.refl _).append ih
   ·
    rw [List.filter_cons_of_neg hp]; exact ih.trans (List.sublist_append_right _ _)
 refine h.sub (fun q hq => ?_) ?_ (fun q hq => ?_)
 ·
  rcases List.mem_append.1 hq with hq | hq
  ·
   exact List.mem_append_left _ (hsub.subset hq)
  ·
   exact List.mem_append_right _ hq
 ·
  exact h.nodup.sublist ((hsub.append (List.Sublist.refl _)).map _)
 ·
  rcases List.mem_append.1 hq with hq | hq
  ·
   obtain ⟨o, ho', hq⟩ := List.mem_flatMap.1 hq
   exact .inr ((ho o ho').own q hq)
  ·
   exact .inl (List.mem_append_right _ hq)
def kdOf (os : List On) (x : Ent) : Int := match os.find? (fun o => decide (o.t.id = x.1)) with
 | some o => o.t.kind
 | none => 0
theorem kdOf_eq {os : List On} (h : (os.map fun o => o.t.id).Nodup) {o : On} (ho : o ∈ os) : kdOf os (entOf o) = o.t.kind := by
 have e : os.find? (fun u => decide (u.t.id = (entOf o).1)) = some o := by
  induction os with
  | nil => cases ho
  | cons u os ih =>
   rw [List.map_cons, List.nodup_cons] at h
   rcases List.mem_cons.1 ho with rfl | ho
   ·
    exact List.find?_cons_of_pos (by simp [entOf])
   ·
    rw [List.find?_cons_of_neg]
    ·
     exact ih h.2 ho
    ·
     intro he
     exact h.1 (List.mem_map.2 ⟨o, ho, (of_decide_eq_true he).symm⟩)
 unfold kdOf
 rw [e]
theorem ents_alive {os : List On} (h : (os.map fun o => o.t.id).Nodup) : (os.map entOf).filter (fun x => !decide (kdOf os x = 2)) = (os.filter aliveB).map entOf := by
 rw [List.filter_map]
 congr 1
 apply List.filter_congr
 intro o ho
 show (!decide (kdOf os (entOf o) = 2)) = _
 rw [kdOf_eq h ho]; rfl
theorem Trk.inj {s u : Trk} (h : s.cells.toArray = u.cells.toArray) : s = u := by
 have h1 := congrArg Array.toList h
 obtain ⟨i, k, ⟨x, v, p, q, r⟩, ⟨x2, v2, p2, q2, r2⟩, se, st, la⟩ := s
 obtain ⟨i', k', ⟨x', v', p', q', r'⟩, ⟨x2', v2', p2', q2', r2'⟩, se', st', la'⟩ := u
 simp only [Trk.cells, List.cons.injEq, Value.float.injEq, Value.int.injEq, true_and, and_true] at h1
 obtain ⟨rfl, rfl, rfl, rfl, rfl, rfl, rfl, rfl, rfl, rfl, rfl, rfl, hse, rfl, rfl⟩ := h1
 have : se = se' := by omega
 rw [this]
theorem Pq.inj {s u : Pq} (h : s.cells.toArray = u.cells.toArray) : s = u := by
 have h1 := congrArg Array.toList h
 obtain ⟨x, y⟩ := s
 obtain ⟨x', y'⟩ := u
 simp only [Pq.cells, List.cons.injEq, Value.float.injEq, true_and, and_true] at h1
 obtain ⟨rfl, rfl⟩ := h1
 rfl
theorem HS.dropL {w0 w : World} {A B : Bks} (h : HS w0 w (A ++ B)) (hA : Own w0 A) : HS w0 w B :=
 h.sub (fun p hp => List.mem_append_right _ hp) (by have := h.nodup; rw [List.map_append, List.nodup_append] at this; exact this.2.1) (fun p hp => (List.mem_append.1 hp).elim (fun h => .inr (hA p h)) .inl)
theorem shl16_ok (s : Nat) (hs : s < 65536) : IntKind.u16.wrap ((s : Int) * 2 ^ (min (Int.toNat 1) (IntKind.bits .u16))) = ((shl16 s : Nat) : Int) := by
 show IntKind.u16.wrap ((s : Int) * 2) = _
 rw [IntKind.wrap_u16]
 unfold shl16
 omega
theorem shl16_lt (s : Nat) : shl16 s < 65536 := Nat.mod_lt _ (by decide)
theorem or16_lt {s : Nat} (h : s < 65536) : or16 s < 65536 := Nat.or_lt_two_pow (n := 16) h (by decide)
theorem zip_get {α β : Type} {a : List α} {b : List β} {i : Nat} {da : α} {db : β} (h1 : i < a.length) (h2 : i < b.length) : (a.zip b)[i]? = some (a.getD i da, b.getD i db) := by
 have h : i < (a.zip b).length := by rw [List.length_zip]; omega
 rw [List.getElem?_eq_getElem h, List.getElem_zip, List.getD_eq_getElem?_getD, List.getElem?_eq_getElem h1, List.getD_eq_getElem?_getD, List.getElem?_eq_getElem h2]; rfl
theorem hitT_len (told : List Int) (z : On × Int) : (hitT told z).length = told.length := by
 unfold hitT; split
 ·
  rw [List.length_set]
 ·
  rfl
theorem hitsT_len (zs : List (On × Int)) : ∀ told : List Int, (zs.foldl hitT told).length = told.length := by
 induction zs with
 | nil => exact fun _ => rfl
 | cons z zs ih => intro told; rw [List.foldl_cons, ih, hitT_len]
theorem mput_new {es : List Ent} {k : Int} {v ck : Nat} (h : ∀ x ∈ es, x.1 ≠ k) : mput k v ck es = es ++ [(k, v, ck)] ∧ mclk k ck es = ck + 1 := by
 constructor
 ·
  induction es with
  | nil => rfl
  | cons y es ih =>
   unfold mput
   rw [if_neg (h y (List.mem_cons_self ..)), ih fun x hx => h x (List.mem_cons_of_mem _ hx)]; rfl
 ·
  unfold mclk
  rw [mget_not h]; rfl
theorem EntOk.push {es : List Ent} {ck : Nat} (h : EntOk es ck) {k : Int} {p : Nat} (hk : ∀ x ∈ es, x.1 < k) (h0 : 0 ≤ k) (h1 : k < 9223372036854775807) (hl : es.length ≤ 999) : EntOk (es ++ [(k, p, ck)]) (ck + 1) := by
 refine ⟨?_, fun x hx => ?_, fun x hx => ?_, ?_, by rw [List.length_append, List.length_singleton]; omega⟩
 ·
  rw [List.map_append]
  refine List.pairwise_append.2 ⟨h.asc, by simp, fun a ha b hb => ?_⟩
  obtain ⟨x, hx, rfl⟩ := List.mem_map.1 ha
  simp only [List.map_cons, List.map_nil, List.mem_singleton] at hb
  rw [hb]; exact hk x hx
 ·
  rcases List.mem_append.1 hx with hx | hx
  ·
   exact h.rng x hx
  ·
   rw [List.mem_singleton.1 hx]; exact ⟨h0, h1⟩
 ·
  rcases List.mem_append.1 hx with hx | hx
  ·
   have := h.born x hx; omega
  ·
   rw [List.mem_singleton.1 hx]; exact Nat.lt_succ_self _
 ·
  rw [List.map_append]
  refine List.nodup_append.2 ⟨h.nd, by simp, fun a ha b hb => ?_⟩
  obtain ⟨x, hx, rfl⟩ := List.mem_map.1 ha
  simp only [List.map_cons, List.map_nil, List.mem_singleton] at hb
  have := h.born x hx
  rw [hb]; omega
theorem All2.map_eq {α β γ : Type} {R : α → β → Prop} {f : α → γ} {g : β → γ} {l : List α} {m : List β} (h : All2 R l m) (hf : ∀ a b, R a b → g b = f a) : m.map g = l.map f := by
 induction h with
 | nil => rfl
 | cons h1 _ ih => rw [List.map_cons, List.map_cons, hf _ _ h1, ih]
theorem AheadR.ent {time q : Nat} {o o' : On} (h : AheadR time q o o') : entOf o' = entOf o := by
 obtain ⟨x, y, _, _, rfl⟩ := h; rfl
theorem HitR.ent {r : Rul} {time : Nat} {ps : List Pq} {z : On × Int} {o : On} (h : HitR r time ps z o) : entOf o = entOf z.1 := by
 obtain ⟨t, h1, h2, h3, h4, _⟩ := h
 have hid : t.id = z.1.t.id := by
  split at h1
  ·
   obtain ⟨x, y, _, _, rfl⟩ := h1; rfl
  ·
   rw [h1]
 unfold entOf
 rw [h2, h3, h4, show (endT r t time).id = t.id from rfl, hid]
theorem zip_fst {α β γ : Type} (f : α → γ) : ∀ {a : List α} {b : List β}, a.length = b.length → (a.zip b).map (fun z => f z.1) = a.map f
 | [], [], _ => rfl
 | x :: a, y :: b, h => by rw [List.zip_cons_cons, List.map_cons, List.map_cons, zip_fst f (by simpa using h)]
def SPK (n g : Nat) (f : FuncId) (args : Array Value) (v : Value) : Prop := match f, args.toList with
 | 42, [_, .agg a, .agg b] => ∀ (t : Trk) (p : Pq), a = t.cells.toArray → b = p.cells.toArray → v = .int .i64 (costT n g t.x t.y p.x p.y)
 | _, _ => False
theorem costH {w0 w : World} {L : Bks} (hs : HS w0 w L) (B n g : Nat) (cs : List Value) (t : Trk) (p : Pq) (hg : GateOk g) (hB : (B, Row 88 cs) ∈ L) (h0 : cs[0]? = some (.float .f64 n)) (h2 : cs[2]? = some (.float .f64 g)) :
  Ret Try.prog 42 [bv B, .agg t.cells.toArray, .agg p.cells.toArray] w fun v w' => SPK n g 42 [bv B, .agg t.cells.toArray, .agg p.cells.toArray].toArray v ∧ HS w0 w' L :=
 Calls.mono (cost_ok B n g t p.x p.y w hg (Lk.cell_of_row (hs.has _ hB) h0) (Lk.cell_of_row (hs.has _ hB) h2)) fun e w' => by
  rintro ⟨v, rfl, rfl, hs'⟩
  refine ⟨_, rfl, fun t' p' ht hp => ?_, hs.nil hs'⟩
  rw [Trk.inj ht, Pq.inj hp]
end Go.Proofs.Ytdllakfojligjaa
