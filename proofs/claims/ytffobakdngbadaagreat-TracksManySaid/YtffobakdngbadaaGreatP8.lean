/-
  A part of the proof: laws for walks, and plain laws, over any program of the model. Each theorem holds under its own premises alone.
-/
import Derived.Test.YtffobakdngbadaaGreatKit
import Derived.Test.YtffobakdngbadaaGreatP7
import Derived.Test.YtffobakdngbadaaGreatKitY
namespace Go.Proofs.YtffobakdngbadaaGreat
open Go Go.Lk
abbrev Ent := Int × Nat × Nat
theorem filter_lt {α : Type} {p q : α -> Bool} : ∀ {l : List α}, (∀ x ∈ l, p x = true -> q x = true) -> (∃ x ∈ l, q x = true /\ p x = false) -> (l.filter p).length < (l.filter q).length
 | [], _, ⟨x, hx, _⟩ => by cases hx
 | y :: l, h, ⟨x, hx, hq, hp⟩ => by
  have hle : (l.filter p).length <= (l.filter q).length := by
   have h' : ∀ {l : List α}, (∀ x ∈ l, p x = true -> q x = true) -> (l.filter p).length <= (l.filter q).length := by
    intro l hl
    induction l with
    | nil => exact Nat.le_refl _
    | cons z l ih =>
     have ih' := ih (fun x hx => hl x (List.mem_cons_of_mem _ hx))
     have hz := hl z (List.mem_cons_self ..)
     cases h1 : p z <;> cases h2 : q z <;> simp [h1, h2] at hz ⊢ <;> omega
   exact h' (fun x hx => h x (List.mem_cons_of_mem _ hx))
  rcases List.mem_cons.1 hx with rfl | hx
  ·
   simp [hq, hp]; omega
  have ih := filter_lt (p := p) (q := q) (l := l) (fun x hx => h x (List.mem_cons_of_mem _ hx)) ⟨x, hx, hq, hp⟩
  have hy := h y (List.mem_cons_self ..)
  cases h1 : p y <;> cases h2 : q y <;> simp [h1, h2] at hy ⊢ <;> omega
def unseen (seen : List Nat) (es : List Ent) : List Ent := es.filter fun x => !seen.contains x.2.2
theorem unseen_lt {seen : List Nat} {es : List Ent} {x : Ent} (hx : x ∈ es) (hs : x.2.2 ∉ seen) : (unseen (seen ++ [x.2.2]) es).length < (unseen seen es).length :=
 filter_lt (fun y _ hy => by simp at hy ⊢; exact hy.1) ⟨x, hx, by simp [hs], by simp⟩
theorem jnW (k : Int) : ∀ {l : List Ent}, (l.map (·.1)).Nodup -> mdel k l = l.filter fun y => !decide (y.1 = k)
 | [], _ => rfl
 | x :: l, h => by
  rw [List.map_cons, List.nodup_cons] at h
  unfold mdel
  by_cases hx : x.1 = k
  ·
   rw [if_pos hx, List.filter_cons_of_neg (by simp [hx]), List.filter_eq_self.2]
   intro y hy
   have : y.1 ≠ k := fun hyk => h.1 (List.mem_map.2 ⟨y, hy, by rw [hyk, hx]⟩)
   simp [this]
  rw [if_neg hx, List.filter_cons_of_pos (by simp [hx]), jnW k h.2]
def curE (es : List Ent) (D : List Int) : List Ent := es.filter fun y => !D.contains y.1
theorem curE_snoc (es : List Ent) (D : List Int) (k : Int) : curE es (D ++ [k]) = (curE es D).filter fun y => !decide (y.1 = k) := by
 unfold curE
 rw [List.filter_filter]
 apply List.filter_congr
 intro y _
 cases h : D.contains y.1 <;> by_cases hk : y.1 = k <;> simp_all
theorem nodup_at {α : Type} {l : List α} (h : l.Nodup) {i j : Nat} {x : α} (hi : l[i]? = some x) (hj : l[j]? = some x) : i = j := by
 obtain ⟨hi1, hi2⟩ := List.getElem?_eq_some_iff.1 hi
 obtain ⟨hj1, hj2⟩ := List.getElem?_eq_some_iff.1 hj
 have hp := List.pairwise_iff_getElem.1 h
 rcases Nat.lt_trichotomy i j with h3 | h3 | h3
 ·
  exact absurd (hi2.trans hj2.symm) (hp i j hi1 hj1 h3)
 ·
  exact h3
 exact absurd (hj2.trans hi2.symm) (hp j i hj1 hi1 h3)
theorem map_inj {α : Type} {f : Ent -> α} {es : List Ent} (h : (es.map f).Nodup) {x y : Ent} (hx : x ∈ es) (hy : y ∈ es) (hxy : f x = f y) : x = y := by
 obtain ⟨i, hi, rfl⟩ := List.getElem_of_mem hx
 obtain ⟨j, hj, rfl⟩ := List.getElem_of_mem hy
 have : i = j := nodup_at h (i := i) (j := j) (x := f es[i]) (by simp [hi]) (by simp [hj, hxy])
 subst this; rfl
theorem EntOk.keys {es : List Ent} {ck : Nat} (h : EntOk es ck) : (es.map (·.1)).Nodup := h.asc.imp fun hab => Int.ne_of_lt hab
theorem EntOk.sub {es : List Ent} {ck : Nat} (h : EntOk es ck) (p : Ent -> Bool) : EntOk (es.filter p) ck :=
 ⟨h.asc.sublist ((List.filter_sublist (p := p)).map _), fun x hx => h.rng x (List.mem_filter.1 hx).1, fun x hx => h.born x (List.mem_filter.1 hx).1, h.nd.sublist ((List.filter_sublist (p := p)).map _), Nat.le_trans (List.length_filter_le ..) h.len⟩
theorem curE_end {es : List Ent} {ck : Nat} {p : Ent -> Bool} {D : List Int} {vis : List Ent} (hK : EntOk es ck) (h1 : ∀ x ∈ vis, p x = true -> x.1 ∈ D) (h2 : ∀ k ∈ D, ∃ x ∈ es, x.1 = k /\ p x = true) (hsub : ∀ x ∈ vis, x ∈ es) (hall : ∀ x ∈ curE es D, x.2.2 ∈ vis.map (·.2.2)) : curE es D = es.filter fun x => !p x := by
 unfold curE
 apply List.filter_congr
 intro y hy
 congr 1
 rw [Bool.eq_iff_iff, List.contains_iff_mem]
 constructor
 ·
  intro hD
  obtain ⟨x, hx, hxk, ha⟩ := h2 _ hD
  rw [<- map_inj hK.keys hx hy hxk]; exact ha
 intro ha
 apply Classical.byContradiction
 intro hD
 have hc : y ∈ curE es D := List.mem_filter.2 ⟨hy, by simp [hD]⟩
 obtain ⟨z, hz, hzb⟩ := List.mem_map.1 (hall y hc)
 have : z = y := map_inj hK.nd (hsub z hz) hy hzb
 subst this
 exact hD (h1 z hz ha)
theorem dead_ok (w0 w : World) (L : Bks) (k : Int) (p : Nat) (cs : List Value) (kd : Int) (hs : HS w0 w L) (hp : (p, Row 76 cs) ∈ L) (hc : cs[1]? = some (.int .i8 kd)) :
  Ret Tryz.prog 32 [.int .i64 k, pv p] w fun v w' => v = .bool (decide (kd = 2)) /\ HS w0 w' L := by
 refine ja7 Tryz.func32 rfl rfl rfl (Wq (La rfl (Rq (Lm rfl (Ln rfl (Lf 0 jpM rfl jcE (Lf 1 jcC rfl jmS (Ll o_46 rfl (by exact jb6 hs hp hc) ?_))))))))
 refine jdS rfl rfl (La rfl (Rt (jaW (ja9 rfl rfl ?_))))
 exact ⟨_, rfl, rfl, hs⟩
abbrev K3 : KeyT Tryz.prog 3 (Value.int .i64) := KeyT.int u_3
set_option maxHeartbeats 1000000 in
theorem delete_ok (w0 w : World) (mb ck : Nat) (es : List Ent) (kd : Ent -> Int) (A : Bks) (hs : HS w0 w ((mb, jeY (Value.int .i64) pv es ck) :: A)) (hK : EntOk es ck) (hA : ∀ x ∈ es, ∃ cs, (x.2.1, Row 76 cs) ∈ A /\ cs[1]? = some (.int .i8 (kd x))) :
  Ret Tryz.prog 31 [.map (some mb), .func (.func 32) #[] #[]] w fun _ w' => HS w0 w' ((mb, jeY (Value.int .i64) pv (es.filter fun x => !decide (kd x = 2)) ck) :: A) := by
 refine ja7 Tryz.func31 rfl rfl rfl (Wq (Lm rfl ?_))
 refine L_range rfl hs (List.mem_cons_self ..) jpY rfl ?_; intro b7 w hb7 _ hs; replace hs := HS.push hs
 refine Rt (ja4 (jcT (fun (vis : List Ent) (D : List Int) (w : World) => [(0, .map (some mb)), (1, .func (.func 32) #[] #[]), (7, .pointer (some ⟨b7, 0, none⟩))]) (fun vis D w => w) (fun vis D w => (∀ x ∈ vis, x ∈ es) /\ (∀ x ∈ vis, decide (kd x = 2) = true -> x.1 ∈ D) /\ (∀ k ∈ D, ∃ x ∈ es, x.1 = k /\ decide (kd x = 2) = true) /\ (HS w0 w ((b7, ItO mb ck (vis.map (·.2.2)) ck) :: (mb, jeY (Value.int .i64) pv (curE es D) ck) :: A))) (fun vis D w => (unseen (vis.map (·.2.2)) es).length) ([]) ([]) (_) (is := [0, 1, 7]) rfl rfl ?_ ?_))
 ·
  refine ⟨fun x hx => (by cases hx), fun x hx => (by cases hx), fun x hx => (by cases hx), ?_⟩
  rw [show curE es [] = es by unfold curE; rw [List.filter_eq_self]; intro y _; rfl]
  exact hs
 clear hs
 intro vis D w hI
 show W _ _ _ _ [(0, .map (some mb)), (1, .func (.func 32) #[] #[]), (7, .pointer (some ⟨b7, 0, none⟩))] w
 obtain ⟨hsub, hD1, hD2, hs⟩ := hI
 have hKc := hK.sub (fun y => !D.contains y.1)
 refine Wq (L_next rfl hs (i := 0) rfl (List.mem_cons_of_mem _ (List.mem_cons_self ..)) hKc.born (Nat.le_refl _) rfl ?_ ?_)
 ·
  intro hall
  rw [curE_end hK hD1 hD2 hsub hall] at hs
  replace hs := HS.pop hs hb7
  refine Lx rfl rfl (Rt (Wsq (Wf rfl (jaK (ja0 (ja8 (ja1 (jg0 rfl ?_))))))))
  exact ⟨_, rfl, hs⟩
 intro x hx hxs w hs
 have hxe : x ∈ es := (List.mem_filter.1 hx).1
 obtain ⟨cs, hcA, hcs⟩ := hA x hxe
 replace hs : HS w0 w ((b7, ItO mb ck (vis.map (·.2.2) ++ [x.2.2]) ck) :: (mb, jeY (Value.int .i64) pv (curE es D) ck) :: A) := hs
 refine Lx rfl rfl (Rt (Wsq (Wt rfl (Ws (ja4 (Wq (L_entry rfl hs (List.mem_cons_self ..) (List.mem_cons_of_mem _ (List.mem_cons_self ..)) hx hKc.nd rfl (Lx rfl rfl (Lx rfl rfl (La rfl (La rfl (Rq (Lmm rfl rfl (Lm rfl (jmB rfl f_32 rfl rfl (dead_ok w0 w _ x.1 x.2.1 cs (kd x) hs (List.mem_cons_of_mem _ (List.mem_cons_of_mem _ hcA)) hcs) ?_)))))))))))))))
 rintro _ w1 ⟨rfl, hs1⟩
 clear hs
 have hs := hs1
 clear hs1
 have fmap : (vis ++ [x]).map (·.2.2) = vis.map (·.2.2) ++ [x.2.2] := by simp
 have flt : (unseen ((vis ++ [x]).map (·.2.2)) es).length < (unseen (vis.map (·.2.2)) es).length := by rw [fmap]; exact unseen_lt hxe hxs
 have fsub : ∀ y ∈ vis ++ [x], y ∈ es := fun y hy => (List.mem_append.1 hy).elim (hsub y) fun h => by rw [List.mem_singleton.1 h]; exact hxe
 by_cases h1 : kd x = 2
 ·
  have haw : decide (kd x = 2) = true := decide_eq_true h1
  rw [haw]
  refine Rt (Wt rfl (Wr (Lmm rfl rfl ?_)))
  refine L_mdel hs (i := 1) (k := x.1) rfl K3 jpY rfl rfl ?_; intro w hs
  refine Rnl (jaB (Nq (vis ++ [x], D ++ [x.1], _) [0, 1, 7] rfl ?_ ?_))
  ·
   dsimp only
   refine ⟨fsub, fun y hy ha => ?_, fun k hk => ?_, ?_⟩
   ·
    rcases List.mem_append.1 hy with h | h
    ·
     exact List.mem_append_left _ (hD1 y h ha)
    rw [List.mem_singleton.1 h]; exact List.mem_append_right _ (List.mem_singleton.2 rfl)
   ·
    rcases List.mem_append.1 hk with h | h
    ·
     exact hD2 k h
    exact ⟨x, hxe, (List.mem_singleton.1 h).symm, haw⟩
   rw [fmap, curE_snoc, <- jnW (l := curE es D) x.1 hKc.keys]
   exact hs
  exact flt
 have haw : decide (kd x = 2) = false := decide_eq_false h1
 rw [haw]
 refine Rt (Wf rfl (jaY (jaB (Nq (vis ++ [x], D, _) [0, 1, 7] rfl ?_ ?_))))
 ·
  dsimp only
  refine ⟨fsub, fun y hy ha => (List.mem_append.1 hy).elim (fun h => hD1 y h ha) fun h => ?_, hD2, by rw [fmap]; exact hs⟩
  rw [List.mem_singleton.1 h, haw] at ha; cases ha
 exact flt
structure Bok where
 B : Nat
 mb : Nat
 r : Rul
 os : List On
 ck : Nat
 next : Int
 last : Nat
abbrev Bok.cells (k : Bok) : List Value := k.r.cells ++ [.map (some k.mb), .int .i64 k.next, .float .f64 k.last]
def jc1 (o : On) : Ent := (o.t.id, o.p, o.c)
def Bok.ents (k : Bok) : List Ent := k.os.map jc1
def obs (os : List On) : Bks := os.flatMap On.bks
abbrev Bok.row (k : Bok) : Nat × Obj := (k.B, Row 66 k.cells)
abbrev Bok.mrow (k : Bok) : Nat × Obj := (k.mb, jeY (Value.int .i64) pv k.ents k.ck)
abbrev Bok.bks (k : Bok) : Bks := k.row :: k.mrow :: obs k.os
def bv (B : Nat) : Value := .pointer (some ⟨B, 0, none⟩)
structure Bok.ok (w0 : World) (n : Nat) (k : Bok) : Prop where
 B : w0.heap.size <= k.B
 mb : w0.heap.size <= k.mb
 each : ∀ o ∈ k.os, o.ok w0
 ents : EntOk k.ents k.ck
 low : ∀ o ∈ k.os, 1 <= o.t.id /\ o.t.id < k.next
 next1 : 1 <= k.next
 next2 : k.next <= 1000000
 hist : ∀ o ∈ k.os, o.xs.length <= n /\ o.ys.length <= n /\ 0 <= o.t.steps /\ o.t.steps <= n
 rul : RulOk k.r
 cnt : k.os.length <= 256
def inB (n a b : Int) : Bool := decide (a <= n) && decide (n <= b)
def gtB (x y : Nat) : Bool := FloatKind.f64.format.order x y == some .gt
def jfA (r : Rul) : Int := if [r.noise, r.sway, r.gate].all je6 = false then 6 else if leB r.noise 0 then 2 else if ltB r.sway 0 then 2 else if leB r.gate 0 then 2 else if gtB r.gate 4697254411347427328 then 2 else if inB r.of 1 16 = false then 2 else if inB r.need 1 r.of = false then 2 else if inB r.miss 1 16 = false then 2 else 0
def ninf : Nat := 18442240474082181120
abbrev bok0 (r : Rul) (B mb : Nat) : Bok := ⟨B, mb, r, [], 0, 1, ninf⟩
abbrev jfU (r : Rul) (mb : Nat) : List Value := r.cells ++ [.map (some mb), .int .i64 1, .float .f64 ninf]
theorem HS.swp {w0 w : World} {p q : Nat × Obj} (h : HS w0 w [q, p]) : HS w0 w [p, q] := HS.push (L := [q]) h
def newPhi (r : Rul) (b1 : Nat) (i : Nat) (v : Value) (m : Bks) : Prop := match i with
 | 0 => v = .agg r.cells.toArray /\ m = []
 | 1 => ∃ mb, v = .map (some mb) /\ m = [(mb, jeY (Value.int .i64) pv [] 0)]
 | 2 => v = .float .f64 ninf /\ m = []
 | 3 => ∃ mb, v = .agg (jfU r mb).toArray /\ m = [(mb, jeY (Value.int .i64) pv [] 0)]
 | 6 => v = .int .i64 0 /\ m = []
 | _ => ∃ B mb, v = bv B /\ m = [(mb, jeY (Value.int .i64) pv [] 0), (B, Row 66 (jfU r mb))]
set_option maxHeartbeats 1000000 in
theorem new_ok (r : Rul) (hn : r.noise < 18446744073709551616) (hsw : r.sway < 18446744073709551616) (hg : r.gate < 18446744073709551616) (w0 : World) : Ret Tryz.prog 7 [.agg r.cells.toArray] w0 fun v w' =>
  (jfA r ≠ 0 /\ v = .tuple #[.pointer none, .int .i64 (jfA r)] /\ HS w0 w' []) ∨ (jfA r = 0 /\ ∃ B mb, v = .tuple #[bv B, .int .i64 0] /\ HS w0 w' (bok0 r B mb).bks /\ (bok0 r B mb).ok w0 0) := by
 refine Ret.start fun w hs => ?_
 refine ja7 Tryz.func7 rfl rfl rfl (Wq (jeH rfl hs rfl ?_))
 intro b1 w hb1 hnb1 hs
 dsimp only [sS, sZ, sA, sN] at hs
 replace hs : HS w0 w [(b1, Row 24 r.cells)] := hs
 refine La rfl (La rfl (Rt (Wsq (ja4 (Wq (Lf 0 jbM rfl jaS (Ll jb5 rfl (by exact hs.cell (i := 0) rfl rfl) ?_)))))))
 refine Lf 1 jbM rfl jaS (Ll jb5 rfl (by exact hs.cell (i := 0) rfl rfl) ?_)
 refine Lf 2 jbM rfl jaS (Ll jb5 rfl (by exact hs.cell (i := 0) rfl rfl) ?_)
 refine jb0 rfl hs u_96 jaS rfl (by decide) rfl rfl ?_
 intro b11 w hb11 hnb11 hs
 simp only [List.map_cons, List.map_nil] at hs
 dsimp only [sS, sZ, sA, sN] at hs
 replace hs : HS w0 w [(b1, Row 24 r.cells), (b11, Row 22 (fl [r.noise, r.sway, r.gate]))] := hs
 have hx : SlC w (some ⟨b11, 0, none⟩) (fl [r.noise, r.sway, r.gate]) := SlC.of_row (sp := []) (hs.get (i := 1) rfl)
 refine Lc f_17 rfl (jp5 (some ⟨b11, 0, none⟩) 3 3 [r.noise, r.sway, r.gate] w hx rfl (by decide) (fun z hz => by match z, hz with | 0, _ => exact hn | 1, _ => exact hsw | 2, _ => exact hg)) ?_
 rintro _ w1 ⟨rfl, hs'⟩
 replace hs := hs.nil hs'
 clear hs'
 replace hs : HS w0 w1 [(b1, Row 24 r.cells)] := HS.pop (HS.swp (p := (b11, Row 22 (fl [r.noise, r.sway, r.gate]))) hs) hb11
 clear hx
 cases h0 : [r.noise, r.sway, r.gate].all je6
 ·
  refine jcP rfl (La rfl (Rt (Wt rfl (Wq (La rfl (La rfl (Rt (jaW (jaG (ja2 (jb9 rfl rfl rfl ?_)))))))))))
  have e : jfA r = 6 := by unfold jfA; rw [if_pos h0]
  exact ⟨_, rfl, .inl ⟨by rw [e]; decide, by rw [e], hs.forget (Own.cons hb1 Own.nil)⟩⟩
 refine jcP rfl (La rfl (Rt (Wf rfl ?_)))
 cases h1 : leB r.noise 0
 ·
  have f1 : (FloatKind.f64.format.order r.noise 0 == some .lt || FloatKind.f64.format.order r.noise 0 == some .eq) = false := h1
  refine Wqq (Lf 0 jbM rfl jaS (Ll jb5 rfl (by exact hs.cell (i := 0) rfl rfl) ?_))
  refine Cf rfl (fun _ => by rw [binOp_float_cmp_leq, f1]; rfl) ?_
  refine La rfl (Rt (Wf rfl ?_))
  cases h2 : ltB r.sway 0
  ·
   have f2 : (FloatKind.f64.format.order r.sway 0 == some .lt) = false := h2
   refine Wq (Lf 1 jbM rfl jaS (Ll jb5 rfl (by exact hs.cell (i := 0) rfl rfl) ?_))
   refine Cf rfl (fun _ => by rw [binOp_float_cmp_lss, f2]; rfl) ?_
   refine La rfl (Rt (Wf rfl ?_))
   cases h3 : leB r.gate 0
   ·
    have f3 : (FloatKind.f64.format.order r.gate 0 == some .lt || FloatKind.f64.format.order r.gate 0 == some .eq) = false := h3
    refine Wq (Lf 2 jbM rfl jaS (Ll jb5 rfl (by exact hs.cell (i := 0) rfl rfl) ?_))
    refine Cf rfl (fun _ => by rw [binOp_float_cmp_leq, f3]; rfl) ?_
    refine La rfl (Rt (Wf rfl ?_))
    cases h4 : gtB r.gate 4697254411347427328
    ·
     have f4 : (FloatKind.f64.format.order r.gate 4697254411347427328 == some .gt) = false := h4
     refine Wr (Lf 2 jbM rfl jaS (Ll jb5 rfl (by exact hs.cell (i := 0) rfl rfl) ?_))
     refine Cf rfl (fun _ => by rw [binOp_float_cmp_gtr, f4]; rfl) ?_
     refine La rfl (Rt (Wf rfl (Wqq (Lf 4 jbM rfl i_3 (Ll o_3 rfl (by exact hs.cell (i := 0) rfl rfl) ?_)))))
     refine Lc f_18 rfl (in_ok r.of 1 16 w1) ?_
     rintro _ w1 ⟨rfl, rfl⟩
     rw [show (decide (1 <= r.of) && decide (r.of <= 16)) = inB r.of 1 16 from rfl]
     cases h5 : inB r.of 1 16
     ·
      refine jcP rfl (La rfl (Rt (Wt rfl (Ws (Wt rfl (Wq (La rfl (La rfl (Rt (jaW (jaG (ja2 (jb9 rfl rfl rfl ?_)))))))))))))
      have e : jfA r = 2 := by unfold jfA; rw [if_neg (by rw [h0]; decide)]; rw [if_neg (by rw [h1]; decide)]; rw [if_neg (by rw [h2]; decide)]; rw [if_neg (by rw [h3]; decide)]; rw [if_neg (by rw [h4]; decide)]; rw [if_pos h5]
      exact ⟨_, rfl, .inl ⟨by rw [e]; decide, by rw [e], hs.forget (Own.cons hb1 Own.nil)⟩⟩
     refine jcP rfl (La rfl (Rt (Wf rfl (Wq (Lf 3 jbM rfl i_3 (Ll o_3 rfl (by exact hs.cell (i := 0) rfl rfl) ?_))))))
     refine Lf 4 jbM rfl i_3 (Ll o_3 rfl (by exact hs.cell (i := 0) rfl rfl) ?_)
     refine Lc f_18 rfl (in_ok r.need 1 r.of w1) ?_
     rintro _ w1 ⟨rfl, rfl⟩
     rw [show (decide (1 <= r.need) && decide (r.need <= r.of)) = inB r.need 1 r.of from rfl]
     cases h6 : inB r.need 1 r.of
     ·
      refine jcP rfl (La rfl (Rt (Wt rfl (Ws (Wt rfl (Wq (La rfl (La rfl (Rt (jaW (jaG (ja2 (jb9 rfl rfl rfl ?_)))))))))))))
      have e : jfA r = 2 := by unfold jfA; rw [if_neg (by rw [h0]; decide)]; rw [if_neg (by rw [h1]; decide)]; rw [if_neg (by rw [h2]; decide)]; rw [if_neg (by rw [h3]; decide)]; rw [if_neg (by rw [h4]; decide)]; rw [if_neg (by rw [h5]; decide)]; rw [if_pos h6]
      exact ⟨_, rfl, .inl ⟨by rw [e]; decide, by rw [e], hs.forget (Own.cons hb1 Own.nil)⟩⟩
     refine jcP rfl (La rfl (Rt (Wf rfl (Wr (Lf 5 jbM rfl i_3 (Ll o_3 rfl (by exact hs.cell (i := 0) rfl rfl) ?_))))))
     refine Lc f_18 rfl (in_ok r.miss 1 16 w1) ?_
     rintro _ w1 ⟨rfl, rfl⟩
     rw [show (decide (1 <= r.miss) && decide (r.miss <= 16)) = inB r.miss 1 16 from rfl]
     cases h7 : inB r.miss 1 16
     ·
      refine jcP rfl (La rfl (Rt (Wt rfl (Wq (La rfl (La rfl (Rt (jaW (jaG (ja2 (jb9 rfl rfl rfl ?_)))))))))))
      have e : jfA r = 2 := by unfold jfA; rw [if_neg (by rw [h0]; decide)]; rw [if_neg (by rw [h1]; decide)]; rw [if_neg (by rw [h2]; decide)]; rw [if_neg (by rw [h3]; decide)]; rw [if_neg (by rw [h4]; decide)]; rw [if_neg (by rw [h5]; decide)]; rw [if_neg (by rw [h6]; decide)]; rw [if_pos h7]
      exact ⟨_, rfl, .inl ⟨by rw [e]; decide, by rw [e], hs.forget (Own.cons hb1 Own.nil)⟩⟩
     refine jcP rfl (La rfl (Rt (Wf rfl ?_)))
     have e : jfA r = 0 := by unfold jfA; rw [if_neg (by rw [h0]; decide)]; rw [if_neg (by rw [h1]; decide)]; rw [if_neg (by rw [h2]; decide)]; rw [if_neg (by rw [h3]; decide)]; rw [if_neg (by rw [h4]; decide)]; rw [if_neg (by rw [h5]; decide)]; rw [if_neg (by rw [h6]; decide)]; rw [if_neg (by rw [h7]; decide)]
     have hs0 : HS w0 w1 [(b1, Row 24 r.cells)] := hs
     refine jaY (jaB (Nt (Wsq (W_any (newPhi r b1) (fun i => ([[], [], [], [0, 1, 2], [3], [4], []] : List (List Nat)).getD i []) (fun i => ([[], [], [], [1], [3], [4], []] : List (List Nat)).getD i []) Tryz.mixed (by kernel_rfl) hs ?_ ?_))))
     ·
      intro i oo d ho hd V M E R w Q' hdep hlook hold hR hs hc
      match i, ho with
      | 0, ho =>
       cases ho; cases hd
       refine jb7 rfl a_24 jfP (hold 1 _ rfl (nd (by kernel_rfl))) (jaE (hs.has _ (List.mem_append_left _ (List.mem_append_left _ (List.mem_cons_self ..))))) ?_
       exact hc _ [] w ⟨rfl, rfl⟩ Own.nil hs
      | 1, ho =>
       cases ho; cases hd
       replace hs : HS w0 w (_ ++ []) := hs
       rw [List.append_nil] at hs
       refine L_makeMap rfl hs ?_
       intro mb w hm _ hs
       exact hc _ _ _ ⟨mb, rfl, rfl⟩ (Own.cons hm Own.nil) hs
      | 2, ho =>
       cases ho; cases hd
       refine Lc f_19 rfl (ninf_ok w) ?_
       rintro _ w ⟨rfl, rfl⟩
       exact hc _ [] w ⟨rfl, rfl⟩ Own.nil hs
      | 3, ho =>
       cases ho; cases hd
       have e0 : Lk.look E 42 = some (.agg r.cells.toArray) := by rw [hlook 0 (by decide) _ _ rfl rfl, (hdep 0 (by decide)).1.1]
       have e2 : Lk.look E 44 = some (.float .f64 ninf) := by rw [hlook 2 (by decide) _ _ rfl rfl, (hdep 2 (by decide)).1.1]
       obtain ⟨mb, hv1, hm1⟩ : ∃ mb, V 1 = .map (some mb) /\ M 1 = [(mb, jeY (Value.int .i64) pv [] 0)] := (hdep 1 (by decide)).1
       have o1 := (hdep 1 (by decide)).2
       have e1 : Lk.look E 43 = some (.map (some mb)) := by rw [hlook 1 (by decide) _ _ rfl rfl, hv1]
       rw [hm1] at o1
       replace hs : HS w0 w (_ ++ (M 1 ++ [])) := hs
       rw [hm1, List.append_nil] at hs
       have hev : jf6 E [(0, .tmp 42), (1, .tmp 43), (2, .const (.int .i64 1)), (3, .tmp 44)] = some [(0, .agg r.cells.toArray), (1, .map (some mb)), (2, .int .i64 1), (3, .float .f64 ninf)] := by
        simp [jf6, jaD, e0, e1, e2]
       refine jbE rfl hev (Pl.builtN Tryz.pl66 rfl) ?_
       exact hc _ _ _ ⟨mb, rfl, rfl⟩ o1 hs
      | 4, ho =>
       cases ho; cases hd
       obtain ⟨mb, hv3, hm3⟩ : ∃ mb, V 3 = .agg (jfU r mb).toArray /\ M 3 = [(mb, jeY (Value.int .i64) pv [] 0)] := (hdep 3 (by decide)).1
       have o3 := (hdep 3 (by decide)).2
       have e3 : Lk.look E 45 = some (.agg (jfU r mb).toArray) := by rw [hlook 3 (by decide) _ _ rfl rfl, hv3]
       rw [hm3] at o3
       replace hs : HS w0 w (_ ++ (M 3 ++ [])) := hs
       rw [hm3, List.append_nil] at hs
       refine jeH rfl hs e3 ?_
       intro B w hB _ hs
       rw [List.append_assoc] at hs
       exact hc _ _ _ ⟨B, mb, rfl, rfl⟩ (o3.app (Own.cons hB Own.nil)) hs
      | 5, ho =>
       cases ho; cases hd
       have o4 := (hdep 4 (by decide)).2
       have e4 : Lk.look E 46 = some (V 4) := hlook 4 (by decide) _ _ rfl rfl
       replace hs : HS w0 w (_ ++ (M 4 ++ [])) := hs
       rw [List.append_nil] at hs
       refine jg1 rfl e4 ?_
       exact hc _ (M 4) w (hdep 4 (by decide)).1 o4 hs
      | 6, ho =>
       cases ho; cases hd
       refine La rfl ?_
       exact hc _ [] w ⟨rfl, rfl⟩ Own.nil hs
     intro V M own w hΦ hs hown hnd E hold hlook
     have h56 : ∀ j ∈ own, j = 5 ∨ M j = [] := fun j hj => by
      have h1 := (hown j).1 hj
      have h2 := h1.1
      match j, h2 with
      | 0, _ => exact .inr (hΦ 0 (by decide)).1.2
      | 1, _ => exact absurd (List.mem_singleton.2 rfl) (h1.2 3 (by decide))
      | 2, _ => exact .inr (hΦ 2 (by decide)).1.2
      | 3, _ => exact absurd (List.mem_singleton.2 rfl) (h1.2 4 (by decide))
      | 4, _ => exact absurd (List.mem_singleton.2 rfl) (h1.2 5 (by decide))
      | 5, _ => exact .inl rfl
      | 6, _ => exact .inr (hΦ 6 (by decide)).1.2
     obtain ⟨B, mb, hv, hm⟩ : ∃ B mb, V 5 = bv B /\ M 5 = [(mb, jeY (Value.int .i64) pv [] 0), (B, Row 66 (jfU r mb))] := (hΦ 5 (by decide)).1
     have ho5 := (hΦ 5 (by decide)).2
     have hs2 := hs.pickOwn (k := 5) ((hown 5).2 ⟨by decide, by decide⟩) (fun j hj => (hΦ j ((hown j).1 hj).1).2)
     rw [hm] at hs2 ho5
     have e2 : Lk.look E 2 = some (bv B) := by rw [hlook 5 _ _ rfl rfl, hv]
     have e3 : Lk.look E 3 = some (.int .i64 0) := by rw [hlook 6 _ _ rfl rfl, (hΦ 6 (by decide)).1.1]
     refine Nx_env (e := [(2, bv B), (3, .int .i64 0)]) ?_ (jdN e2 (jdN e3 jkL))
     have hBo := ho5 (B, Row 66 (jfU r mb)) (by simp)
     have hmo := ho5 (mb, jeY (Value.int .i64) pv [] 0) (by simp)
     clear hΦ hown hold hlook hnd hm hv e2 e3
     refine Nt (jaW (jb9 rfl rfl rfl ?_))
     refine ⟨_, rfl, .inr ⟨e, B, mb, rfl, ?_, ?_⟩⟩
     ·
      have h3 : HS w0 w (([(b1, Row 24 r.cells)] : Bks) ++ [(mb, jeY (Value.int .i64) pv [] 0), (B, Row 66 (jfU r mb))]) := hs2
      have h4 : HS w0 w [(mb, jeY (Value.int .i64) pv [] 0), (B, Row 66 (jfU r mb))] := HS.pop h3 hb1
      exact HS.swp h4
     unfold inB at h5 h6 h7
     rw [Bool.and_eq_true, decide_eq_true_eq, decide_eq_true_eq] at h5 h6 h7
     have hfin : je6 r.gate = true := List.all_eq_true.1 h0 _ (by simp)
     exact ⟨hBo, hmo, fun o ho => (by cases ho), ⟨List.Pairwise.nil, fun x hx => (by cases hx), fun x hx => (by cases hx), List.nodup_nil, (show (0 : Nat) <= 1000 by decide)⟩, fun o ho => (by cases ho), (show (1 : Int) <= 1 by decide), (show (1 : Int) <= 1000000 by decide), fun o ho => (by cases ho), ⟨⟨hg, hfin, h4⟩, hn, hsw, h5.1, h5.2, h6.1, h6.2, h7.1, h7.2⟩, (show (0 : Nat) <= 256 by decide)⟩
    have f4 : (FloatKind.f64.format.order r.gate 4697254411347427328 == some .gt) = true := h4
    refine Wr (Lf 2 jbM rfl jaS (Ll jb5 rfl (by exact hs.cell (i := 0) rfl rfl) ?_))
    refine Cf rfl (fun _ => by rw [binOp_float_cmp_gtr, f4]; rfl) ?_
    refine La rfl (Rt (Wt rfl (Wq (La rfl (La rfl (Rt (jaW (jaG (ja2 (jb9 rfl rfl rfl ?_))))))))))
    have e : jfA r = 2 := by unfold jfA; rw [if_neg (by rw [h0]; decide)]; rw [if_neg (by rw [h1]; decide)]; rw [if_neg (by rw [h2]; decide)]; rw [if_neg (by rw [h3]; decide)]; rw [if_pos h4]
    exact ⟨_, rfl, .inl ⟨by rw [e]; decide, by rw [e], hs.forget (Own.cons hb1 Own.nil)⟩⟩
   have f3 : (FloatKind.f64.format.order r.gate 0 == some .lt || FloatKind.f64.format.order r.gate 0 == some .eq) = true := h3
   refine Wq (Lf 2 jbM rfl jaS (Ll jb5 rfl (by exact hs.cell (i := 0) rfl rfl) ?_))
   refine Cf rfl (fun _ => by rw [binOp_float_cmp_leq, f3]; rfl) ?_
   refine La rfl (Rt (Wt rfl (Ws (Wt rfl (Wq (La rfl (La rfl (Rt (jaW (jaG (ja2 (jb9 rfl rfl rfl ?_))))))))))))
   have e : jfA r = 2 := by unfold jfA; rw [if_neg (by rw [h0]; decide)]; rw [if_neg (by rw [h1]; decide)]; rw [if_neg (by rw [h2]; decide)]; rw [if_pos h3]
   exact ⟨_, rfl, .inl ⟨by rw [e]; decide, by rw [e], hs.forget (Own.cons hb1 Own.nil)⟩⟩
  have f2 : (FloatKind.f64.format.order r.sway 0 == some .lt) = true := h2
  refine Wq (Lf 1 jbM rfl jaS (Ll jb5 rfl (by exact hs.cell (i := 0) rfl rfl) ?_))
  refine Cf rfl (fun _ => by rw [binOp_float_cmp_lss, f2]; rfl) ?_
  refine La rfl (Rt (Wt rfl (Ws (Wt rfl (Wq (La rfl (La rfl (Rt (jaW (jaG (ja2 (jb9 rfl rfl rfl ?_))))))))))))
  have e : jfA r = 2 := by unfold jfA; rw [if_neg (by rw [h0]; decide)]; rw [if_neg (by rw [h1]; decide)]; rw [if_pos h2]
  exact ⟨_, rfl, .inl ⟨by rw [e]; decide, by rw [e], hs.forget (Own.cons hb1 Own.nil)⟩⟩
 have f1 : (FloatKind.f64.format.order r.noise 0 == some .lt || FloatKind.f64.format.order r.noise 0 == some .eq) = true := h1
 refine Wqq (Lf 0 jbM rfl jaS (Ll jb5 rfl (by exact hs.cell (i := 0) rfl rfl) ?_))
 refine Cf rfl (fun _ => by rw [binOp_float_cmp_leq, f1]; rfl) ?_
 refine La rfl (Rt (Wt rfl (Ws (Wt rfl (Wq (La rfl (La rfl (Rt (jaW (jaG (ja2 (jb9 rfl rfl rfl ?_))))))))))))
 have e : jfA r = 2 := by unfold jfA; rw [if_neg (by rw [h0]; decide)]; rw [if_pos h1]
 exact ⟨_, rfl, .inl ⟨by rw [e]; decide, by rw [e], hs.forget (Own.cons hb1 Own.nil)⟩⟩
def tcs (ts : List Trk) : List Value := ts.flatMap Trk.cells
theorem tcs_app (a b : List Trk) : tcs (a ++ b) = tcs a ++ tcs b := List.flatMap_append ..
theorem jh2 : ∀ ts : List Trk, (tcs ts).length = ts.length * 15
 | [] => rfl
 | t :: ts => by
  show (t.cells ++ tcs ts).length = _
  rw [List.length_append, jh2 ts, List.length_cons, show t.cells.length = 15 from rfl]; omega
theorem tcs_get : ∀ {ts : List Trk} {i q : Nat} {v : Value}, i < ts.length -> (ts.getD i trk0).cells[q]? = some v -> (tcs ts)[i * 15 + q]? = some v
 | [], _, _, _, hi, _ => by simp at hi
 | t :: ts, 0, q, v, _, h => by
  have hq := (List.getElem?_eq_some_iff.1 h).1
  show (t.cells ++ tcs ts)[0 * 15 + q]? = _
  rw [show 0 * 15 + q = q by omega, List.getElem?_append_left (by simpa using hq)]
  simpa using h
 | t :: ts, i + 1, q, v, hi, h => by
  show (t.cells ++ tcs ts)[(i + 1) * 15 + q]? = _
  have hl : t.cells.length = 15 := rfl
  rw [List.getElem?_append_right (by omega), show (i + 1) * 15 + q - t.cells.length = i * 15 + q by omega]
  exact tcs_get (by simpa using hi) h
theorem mget_mem {es : List Ent} (h : (es.map (·.1)).Nodup) {x : Ent} (hx : x ∈ es) : mget x.1 es = some x.2.1 := by
 induction es with
 | nil => cases hx
 | cons y es ih =>
  rw [List.map_cons, List.nodup_cons] at h
  unfold mget
  rcases List.mem_cons.1 hx with rfl | hx
  ·
   rw [if_pos rfl]
  rw [if_neg (fun he => h.1 (List.mem_map.2 ⟨x, hx, he.symm⟩)), ih h.2 hx]
theorem mget_not {es : List Ent} {k : Int} (h : ∀ x ∈ es, x.1 ≠ k) : mget k es = none := by
 induction es with
 | nil => rfl
 | cons y es ih =>
  unfold mget
  rw [if_neg (h y (List.mem_cons_self ..)), ih fun x hx => h x (List.mem_cons_of_mem _ hx)]
theorem jfG (a b : List On) : obs (a ++ b) = obs a ++ obs b := List.flatMap_append ..
theorem jr1 {os : List On} {o : On} (h : o ∈ os) : ∀ p ∈ o.bks, p ∈ obs os := fun _ hp => List.mem_flatMap.2 ⟨o, h, hp⟩
theorem On.row_mem {o : On} : (o.p, Row 76 o.cells) ∈ o.bks := List.mem_cons_self ..
theorem Bok.ok.own {w0 : World} {n : Nat} {k : Bok} (h : k.ok w0 n) : Own w0 k.bks := Own.cons h.B (Own.cons h.mb fun p hp => by
 obtain ⟨o, ho, hp⟩ := List.mem_flatMap.1 hp
 exact (h.each o ho).own p hp)
theorem Bok.get {k : Bok} {w0 : World} {n : Nat} (h : k.ok w0 n) {o : On} (ho : o ∈ k.os) : mget o.t.id k.ents = some o.p := mget_mem (x := jc1 o) h.ents.keys (List.mem_map.2 ⟨o, ho, rfl⟩)
theorem Bok.getN {k : Bok} {id : Int} (h : ∀ o ∈ k.os, o.t.id ≠ id) : mget id k.ents = none := mget_not fun x hx => by
 obtain ⟨o, ho, rfl⟩ := List.mem_map.1 hx
 exact h o ho
theorem Bok.ids (k : Bok) : k.ents.map (·.1) = k.os.map fun o => o.t.id := by unfold Bok.ents; rw [List.map_map]; rfl
theorem Bok.ents_len (k : Bok) : k.ents.length = k.os.length := List.length_map ..
abbrev on0' : On := on0
set_option maxHeartbeats 1000000 in
theorem jnB (w0 w : World) (n : Nat) (k : Bok) (L : Bks) (hs : HS w0 w (k.bks ++ L)) (hk : k.ok w0 n) (hL : Own w0 L) :
  Ret Tryz.prog 12 [bv k.B] w fun v w' => ∃ M, HS w0 w' (k.bks ++ L ++ M) /\ Bl w0 51 15 v k.os.length (tcs (k.os.map On.t)) M := by
 obtain ⟨A, hA⟩ : ∃ A, A = k.bks ++ L := ⟨_, rfl⟩
 have hB : k.row ∈ A := by rw [hA]; exact List.mem_append_left _ (List.mem_cons_self ..)
 have hm : k.mrow ∈ A := by rw [hA]; exact List.mem_append_left _ (List.mem_cons_of_mem _ (List.mem_cons_self ..))
 have hO : ∀ o ∈ k.os, ∀ p ∈ o.bks, p ∈ A := fun o ho p hp => by rw [hA]; exact List.mem_append_left _ (List.mem_cons_of_mem _ (List.mem_cons_of_mem _ (jr1 ho p hp)))
 have hAo : Own w0 A := by rw [hA]; exact hk.own.app hL
 rw [<- hA] at hs ⊢
 have hlen := hk.ents.len
 rw [k.ents_len] at hlen
 refine ja7 Tryz.func12 rfl rfl rfl (Wq (La rfl (Rqq (Lm rfl (jcV rfl u_28 rfl rfl (Rt (Wf rfl (jaY ?_))))))))
 refine Nt (Wq (La rfl (Rqq (Lm rfl (Lc f_29 rfl (ids_ok k.B k.mb k.ck k.ents w0 w A k.cells hs hB rfl hm hk.ents hAo) ?_)))))
 rintro vi w1 ⟨Mi, hs1, hbi⟩
 rw [k.ids, k.ents_len] at hbi
 obtain ⟨ai, ci, rfl, hci⟩ := hbi.slice
 refine Le jbW rfl (Lm rfl (Rt (ja4 (jcK (fun (i : Nat) (v : Value) (M : Bks) (w : World) => [(0, bv k.B), (3, v), (9, .slice ai k.os.length ci), (10, .int .i64 k.os.length), (11, .int .i64 i)]) (fun i v M w => w) (fun i v M w => (i <= k.os.length) /\ (HS w0 w ((A ++ Mi) ++ M)) /\ (Bl w0 51 15 v i (tcs ((k.os.take i).map On.t)) M)) (fun i v M w => k.os.length - i) (0) (_) ([]) (_) (is := [0, 3, 9, 10, 11]) rfl rfl ?_ ?_))))
 ·
  exact ⟨Nat.zero_le _, by rw [List.append_nil]; exact hs1, Bl.nil⟩
 clear hs hs1
 intro i v M w hI
 show W _ _ _ _ [(0, bv k.B), (3, v), (9, .slice ai k.os.length ci), (10, .int .i64 k.os.length), (11, .int .i64 i)] w
 obtain ⟨hi, hs, hb⟩ := hI
 by_cases hlt2 : i < k.os.length
 ·
  have ho : k.os.getD i on0 ∈ k.os := jc6 hlt2
  obtain ⟨o, hoe⟩ : ∃ o, o = k.os.getD i on0 := ⟨_, rfl⟩
  rw [<- hoe] at ho
  have hid : (k.os.map fun o => o.t.id)[i]? = some o.t.id := by rw [hoe]; exact jm8 rfl hlt2
  have hrow : (o.p, Row 76 o.cells) ∈ A := hO o ho _ On.row_mem
  have hsi : SlC w ai (il (k.os.map fun o => o.t.id)) := Bl.slcM hbi hs (fun p hp => List.mem_append_left _ (List.mem_append_right _ hp))
  have hai := hsi.ao (by rw [il_length, List.length_map]; omega)
  have hcell : w.cell? ((aD ai).add i) = some (.int .i64 o.t.id) := hsi.2 i _ (by unfold il; rw [List.getElem?_map, hid]; rfl)
  refine Wq (jaZ rfl (jaF (by omega)) ?_)
  refine Rt (Wsq (Wt rfl (Ws (Wsq (ja4 (Wq (Li jbW i_3 rfl (ja6 _) (by omega) hai ?_)))))))
  refine Ll o_3 rfl (by exact hcell) ?_
  refine La rfl (Rr (Lmm rfl rfl (Ln rfl (Lf 6 jfS rfl i_63 (Ll o_63 rfl (by exact jb6 hs (List.mem_append_left _ (List.mem_append_left _ hB)) (j := 6) rfl) ?_)))))
  refine Lm rfl ?_
  refine jf4 (k := o.t.id) (ev := pv) (z := .pointer none) rfl K3 jpY i_77 (hs.has _ (List.mem_append_left _ (List.mem_append_left _ hm))) rfl rfl ?_; rw [Bok.get hk ho]
  refine Ln rfl (Lf 0 jpM rfl jcE (jb7 rfl a_51 jcE rfl (by exact jaX (cs := o.t.cells) (n := 15) (hs.has _ (List.mem_append_left _ (List.mem_append_left _ hrow))) rfl) ?_))
  refine jb4 rfl hs jnA jcE rfl (by decide) rfl (by simp [Value.cells, Trk.cells]) ?_
  intro b25 w hb25 hnb25 hs
  replace hs : HS w0 w (((A ++ Mi) ++ M) ++ [(b25, Row 51 o.t.cells)]) := hs
  refine jb8 (L := A ++ Mi) rfl jnA jcE rfl hs hb25 hb rfl rfl rfl (Trk.one _) (by omega) (by omega) ?_
  intro v' w M' hs hb'
  refine La rfl (Rnl (jaB (Nt (Wr (jbG rfl (ja3 (by omega)) ?_)))))
  refine Lm rfl (Rnl (Nq (i + 1, _, M', _) [0, 3, 9, 10, 11] rfl ?_ ?_))
  ·
   dsimp only
   refine ⟨by omega, hs, ?_⟩
   have e : (k.os.take (i + 1)).map On.t = (k.os.take i).map On.t ++ [o.t] := by
    rw [jcX (j := i) (x := o) (by rw [hoe, List.getElem?_eq_getElem hlt2, List.getD_eq_getElem?_getD, List.getElem?_eq_getElem hlt2]; rfl), List.map_append]; rfl
   rw [e, tcs_app, show tcs [o.t] = o.t.cells by simp [tcs]]
   exact hb'
  omega
 obtain rfl : k.os.length = i := by omega
 refine Wq (jaZ rfl (jaA (by omega)) ?_)
 refine Rt (Wsq (Wf rfl (jaK (ja0 (ja8 (ja1 (Nt (Wq (Lm rfl (La rfl (Rt (jaW (ja9 rfl rfl ?_)))))))))))))
 rw [List.take_length] at hb
 refine ⟨_, rfl, M, ?_, hb⟩
 have h1 : HS w0 w (Mi ++ (A ++ M)) := HS.re hs (fun c => by simp only [mpA, mpC, mpN, smA, smC, smN]; omega)
 exact h1.sub (fun p hp => List.mem_append_right _ hp) (by have := h1.nodup; rw [List.map_append, List.nodup_append] at this; exact this.2.1) (fun p hp => (List.mem_append.1 hp).elim (fun h => .inr (hbi.own p h)) .inl)
theorem get_some (w0 w : World) (n : Nat) (k : Bok) (L : Bks) (o : On) (hs : HS w0 w (k.bks ++ L)) (hk : k.ok w0 n) (ho : o ∈ k.os) :
  Ret Tryz.prog 15 [bv k.B, .int .i64 o.t.id] w fun v w' => v = .tuple #[.agg o.t.cells.toArray, .bool true] /\ HS w0 w' (k.bks ++ L) := by
 obtain ⟨A, hA⟩ : ∃ A, A = k.bks ++ L := ⟨_, rfl⟩
 have hB : k.row ∈ A := by rw [hA]; exact List.mem_append_left _ (List.mem_cons_self ..)
 have hm : k.mrow ∈ A := by rw [hA]; exact List.mem_append_left _ (List.mem_cons_of_mem _ (List.mem_cons_self ..))
 have hrow : (o.p, Row 76 o.cells) ∈ A := by rw [hA]; exact List.mem_append_left _ (List.mem_cons_of_mem _ (List.mem_cons_of_mem _ (jr1 ho _ On.row_mem)))
 have hg := Bok.get hk ho
 rw [<- hA] at hs ⊢
 clear hA
 refine ja7 Tryz.func15 rfl rfl rfl (Wq ?_)
 refine jbL rfl hs jcE ?_; intro b4 w hb4 _ hs; replace hs := HS.push hs
 replace hs : HS w0 w ((b4, Row 51 trk0.cells) :: A) := hs
 refine La rfl (Rqq (Lm rfl (jcV rfl u_28 rfl rfl (Lm rfl (Gm rfl rfl (Rw rfl (Ln rfl (Rw rfl (Lf 6 jfS rfl i_63 (Rw rfl (Ll o_63 rfl (by exact jb6 hs (List.mem_cons_of_mem _ hB) (j := 6) rfl) ?_)))))))))))
 refine Gm rfl rfl (Rw rfl (jf4 (k := o.t.id) (ev := pv) (z := .pointer none) rfl K3 jpY i_77 (hs.has _ (List.mem_cons_of_mem _ hm)) rfl rfl ?_))
 rw [hg]
 refine Rw rfl (jcV rfl u_77 rfl rfl (Lpf rfl (Rt (Wf rfl (Ws (Wq (Lm rfl (Ln rfl (Lf 6 jfS rfl i_63 (Ll o_63 rfl (by exact jb6 hs (List.mem_cons_of_mem _ hB) (j := 6) rfl) ?_))))))))))
 refine Lm rfl ?_
 refine jf4 (k := o.t.id) (ev := pv) (z := .pointer none) rfl K3 jpY i_77 (hs.has _ (List.mem_cons_of_mem _ hm)) rfl rfl ?_; rw [hg]
 refine Ln rfl (Lf 0 jpM rfl jcE (jb7 rfl a_51 jcE rfl (by exact jaX (cs := o.t.cells) (n := 15) (hs.has _ (List.mem_cons_of_mem _ hrow)) rfl) ?_))
 refine jaQ hs (i := 0) rfl jcE rfl rfl (by rfl) (by simp [Trk.cells]) (by exact Trk.one _) ?_
 intro w hs
 dsimp only [sS, sZ, sA, sN] at hs
 refine La rfl (Rt (jaW (jkW rfl rfl rfl a_51 jcE (by exact jaE (hs.get (i := 0) rfl)) ?_)))
 exact ⟨_, rfl, rfl, HS.pop hs hb4⟩
theorem get_none (w0 w : World) (n : Nat) (k : Bok) (L : Bks) (id : Int) (hs : HS w0 w (k.bks ++ L)) (hk : k.ok w0 n) (ho : ∀ o ∈ k.os, o.t.id ≠ id) :
  Ret Tryz.prog 15 [bv k.B, .int .i64 id] w fun v w' => v = .tuple #[.agg trk0.cells.toArray, .bool false] /\ HS w0 w' (k.bks ++ L) := by
 obtain ⟨A, hA⟩ : ∃ A, A = k.bks ++ L := ⟨_, rfl⟩
 have hB : k.row ∈ A := by rw [hA]; exact List.mem_append_left _ (List.mem_cons_self ..)
 have hm : k.mrow ∈ A := by rw [hA]; exact List.mem_append_left _ (List.mem_cons_of_mem _ (List.mem_cons_self ..))
 have hg := Bok.getN ho
 rw [<- hA] at hs ⊢
 clear hA
 refine ja7 Tryz.func15 rfl rfl rfl (Wq ?_)
 refine jbL rfl hs jcE ?_; intro b4 w hb4 _ hs; replace hs := HS.push hs
 replace hs : HS w0 w ((b4, Row 51 trk0.cells) :: A) := hs
 refine La rfl (Rqq (Lm rfl (jcV rfl u_28 rfl rfl (Lm rfl (Gm rfl rfl (Rw rfl (Ln rfl (Rw rfl (Lf 6 jfS rfl i_63 (Rw rfl (Ll o_63 rfl (by exact jb6 hs (List.mem_cons_of_mem _ hB) (j := 6) rfl) ?_)))))))))))
 refine Gm rfl rfl (Rw rfl (jf4 (k := id) (ev := pv) (z := .pointer none) rfl K3 jpY i_77 (hs.has _ (List.mem_cons_of_mem _ hm)) rfl rfl ?_))
 rw [hg]
 refine Rw rfl (jcV rfl u_77 rfl rfl (Lpf rfl (Rt (Wt rfl (Wq (jbE rfl rfl (Pl.built Tryz.pl51 rfl) (jaQ hs (i := 0) rfl jcE rfl rfl (by rfl) (by simp [Trk.cells]) (by simp [Value.oneCell']) ?_)))))))
 intro w hs
 dsimp only [sS, sZ, sA, sN] at hs
 refine La rfl (Rt (jaW (ja2 (jkW rfl rfl rfl a_51 jcE (by exact jaE (hs.get (i := 0) rfl)) ?_))))
 exact ⟨_, rfl, rfl, HS.pop hs hb4⟩
theorem scs_one' (xs : List Stt) : ∀ v ∈ scs xs, v.oneCell' = true := fun v h => by
 obtain ⟨s, _, h⟩ := List.mem_flatMap.1 h
 simp only [Stt.cells, List.mem_cons, List.not_mem_nil, or_false] at h
 rcases h with rfl | rfl | rfl | rfl | rfl <;> simp [Value.oneCell']
theorem clone_ok (a : Option Addr) (k c : Nat) (xs : List Stt) (w0 : World) (hx : SlC w0 a (scs xs)) (hk : xs.length = k) (hk2 : k <= 1000000) :
  Ret Tryz.prog 40 [.slice a k c] w0 fun v w' => ∃ M, HS w0 w' M /\ Bl w0 48 5 v k (scs xs) M := by
 refine Ret.start fun w hs => ?_
 refine ja7 Tryz.func40 rfl rfl rfl (Wq (La rfl (Rqq (Lm rfl (jaT rfl (R_sliceNil jkX rfl rfl) (Rt ?_))))))
 cases a with
 | none =>
  have hk0 : k = 0 := by
   apply Classical.byContradiction
   intro h
   have := hx.1 (by rw [jqN]; omega)
   cases this
  subst hk0
  obtain rfl : xs = [] := List.eq_nil_of_length_eq_zero hk
  refine Wt rfl (Wq (La rfl (Rt (jaW (ja2 (ja9 rfl rfl ?_))))))
  exact ⟨_, rfl, [], hs, Bl.nil⟩
 | some ad =>
  ·
   refine Wf rfl (Ws (Wq (jb4 rfl hs jkX jbP rfl (by decide) rfl (by simp [Value.cells]) ?_)))
   intro b5 w hb5 hnb5 hs
   simp only [List.flatMap_cons, List.flatMap_nil, jeT, jdL, jcS, je1, jd2, jcR, jdK, jeS, jeU, List.append_nil, List.set_cons_succ, List.set_cons_zero, List.cons_append, List.nil_append] at hs
   refine Lm rfl ?_
   replace hs : HS w0 w ([] ++ [(b5, Row 48 ([] ++ []))]) := hs
   have hb : Bl w0 48 5 (.slice (some ⟨b5, 0, none⟩) 0 0) 0 [] [(b5, Row 48 ([] ++ []))] := Bl.row hb5 rfl rfl (Nat.le_refl _)
   refine L_appendS (L := []) rfl jkX jbP rfl (by decide) hs hb rfl rfl (by rw [jqN, hk]) (hx.old hs hb.own) (scs_one' xs) (by omega) (by omega) ?_
   intro v' w M' hs hb'
   rw [Nat.zero_add, List.nil_append] at hb'
   refine La rfl (Rt (jaW (ja9 rfl rfl ?_)))
   exact ⟨_, rfl, M', hs, hb'⟩
def pastP (w0 : World) (B mb : Nat) (o : On) (k : Nat) (v : Value) (m : Bks) : Prop := match k with
 | 0 | 1 | 10 | 11 => v = bv B /\ m = []
 | 2 | 12 => v = .pointer (some ((Addr.mk B 0 none).add 6)) /\ m = []
 | 3 | 13 => v = .map (some mb) /\ m = []
 | 4 | 14 => v = .int .i64 o.t.id /\ m = []
 | 5 | 6 | 15 | 16 => v = pv o.p /\ m = []
 | 7 => v = .pointer (some ((Addr.mk o.p 0 none).add 15)) /\ m = []
 | 17 => v = .pointer (some ((Addr.mk o.p 0 none).add 16)) /\ m = []
 | 8 => v = o.vx /\ m = []
 | 18 => v = o.vy /\ m = []
 | 9 | 20 => Bl w0 48 5 v o.xs.length (scs o.xs) m
 | 19 | 21 => Bl w0 48 5 v o.ys.length (scs o.ys) m
 | _ => False
theorem pair_perm {l : List Nat} (hn : l.Nodup) {a b : Nat} (ha : a ∈ l) (hb : b ∈ l) (hab : a ≠ b) : l.Perm (a :: b :: l.filter fun j => j != a && j != b) := by
 refine (List.perm_ext_iff_of_nodup hn ?_).2 fun x => ?_
 ·
  refine List.nodup_cons.2 ⟨by simp [hab], List.nodup_cons.2 ⟨by simp, hn.filter _⟩⟩
 by_cases h1 : x = a
 ·
  simp [h1, ha]
 by_cases h2 : x = b
 ·
  simp [h2, hb]
 simp [h1, h2]
theorem past_none (w0 w : World) (n : Nat) (k : Bok) (L : Bks) (id : Int) (hs : HS w0 w (k.bks ++ L)) (hk : k.ok w0 n) (ho : ∀ o ∈ k.os, o.t.id ≠ id) :
  Ret Tryz.prog 14 [bv k.B, .int .i64 id] w fun v w' => v = .tuple #[.slice none 0 0, .slice none 0 0] /\ HS w0 w' (k.bks ++ L) := by
 obtain ⟨A, hA⟩ : ∃ A, A = k.bks ++ L := ⟨_, rfl⟩
 have hB : k.row ∈ A := by rw [hA]; exact List.mem_append_left _ (List.mem_cons_self ..)
 have hm : k.mrow ∈ A := by rw [hA]; exact List.mem_append_left _ (List.mem_cons_of_mem _ (List.mem_cons_self ..))
 have hg := Bok.getN ho
 rw [<- hA] at hs ⊢
 clear hA
 refine ja7 Tryz.func14 rfl rfl rfl (Wq (La rfl (La rfl (Rqq (Lm rfl (jcV rfl u_28 rfl rfl (Lm rfl (Rw rfl ?_))))))))
 refine Lm rfl (Rw rfl (Ln rfl (Rw rfl (Lf 6 jfS rfl i_63 (Rw rfl (Ll o_63 rfl (by exact jb6 hs hB (j := 6) rfl) ?_))))))
 refine Gm rfl rfl (Rw rfl (jf4 (k := id) (ev := pv) (z := .pointer none) rfl K3 jpY i_77 (hs.has _ hm) rfl rfl ?_))
 rw [hg]
 refine Rw rfl (jcV rfl u_77 rfl rfl (Lpf rfl (Rt (Wt rfl (Wq (La rfl (La rfl (Rt (jaW (ja2 (jb9 rfl rfl rfl ?_)))))))))))
 exact ⟨_, rfl, rfl, hs⟩
set_option maxHeartbeats 1000000 in
theorem past_some (w0 w : World) (n : Nat) (k : Bok) (L : Bks) (o : On) (hs : HS w0 w (k.bks ++ L)) (hk : k.ok w0 n) (ho : o ∈ k.os) (hL : Own w0 L) (hn : n <= 1000000) :
  Ret Tryz.prog 14 [bv k.B, .int .i64 o.t.id] w fun v w' => ∃ vx Mx vy My, v = .tuple #[vx, vy] /\ HS w0 w' (k.bks ++ L ++ (Mx ++ My)) /\ Bl w0 48 5 vx o.xs.length (scs o.xs) Mx /\ Bl w0 48 5 vy o.ys.length (scs o.ys) My := by
 obtain ⟨A, hA⟩ : ∃ A, A = k.bks ++ L := ⟨_, rfl⟩
 have hB : k.row ∈ A := by rw [hA]; exact List.mem_append_left _ (List.mem_cons_self ..)
 have hm : k.mrow ∈ A := by rw [hA]; exact List.mem_append_left _ (List.mem_cons_of_mem _ (List.mem_cons_self ..))
 have hoA : ∀ p ∈ o.bks, p ∈ A := fun p hp => by rw [hA]; exact List.mem_append_left _ (List.mem_cons_of_mem _ (List.mem_cons_of_mem _ (jr1 ho p hp)))
 have hrow : (o.p, Row 76 o.cells) ∈ A := hoA _ On.row_mem
 have hAo : Own w0 A := by rw [hA]; exact hk.own.app hL
 have hg := Bok.get hk ho
 have hh := hk.hist o ho
 have hko := hk.each o ho
 rw [<- hA] at hs ⊢
 clear hA
 have hcx : ∀ {w' : World} {L' : Bks}, HS w0 w' L' -> Own w0 L' -> (∀ p ∈ A, p ∈ L') -> Ret Tryz.prog 40 [o.vx] w' fun v w'' => ∃ M, HS w0 w'' (L' ++ M) /\ Bl w0 48 5 v o.xs.length (scs o.xs) M := by
  intro w' L' h1 h2 h3
  have hbx := hko.bx
  obtain ⟨ax, cx, hvx, hcc⟩ := hbx.slice
  rw [hvx] at hbx ⊢
  have hslc : SlC w' ax (scs o.xs) := Bo.slcM hbx h1 (fun p hp => h3 p (hoA p (List.mem_cons_of_mem _ (List.mem_append_left _ hp))))
  refine Calls.mono (clone_ok ax _ cx o.xs w' hslc rfl (by omega)) fun e w'' => ?_
  rintro ⟨v, rfl, M, h4, h5⟩
  exact ⟨_, rfl, M, h1.call h4 h5.own, h5.mono h1.size⟩
 have hcy : ∀ {w' : World} {L' : Bks}, HS w0 w' L' -> Own w0 L' -> (∀ p ∈ A, p ∈ L') -> Ret Tryz.prog 40 [o.vy] w' fun v w'' => ∃ M, HS w0 w'' (L' ++ M) /\ Bl w0 48 5 v o.ys.length (scs o.ys) M := by
  intro w' L' h1 h2 h3
  have hbx := hko.by'
  obtain ⟨ax, cx, hvx, hcc⟩ := hbx.slice
  rw [hvx] at hbx ⊢
  have hslc : SlC w' ax (scs o.ys) := Bo.slcM hbx h1 (fun p hp => h3 p (hoA p (List.mem_cons_of_mem _ (List.mem_append_right _ hp))))
  refine Calls.mono (clone_ok ax _ cx o.ys w' hslc rfl (by omega)) fun e w'' => ?_
  rintro ⟨v, rfl, M, h4, h5⟩
  exact ⟨_, rfl, M, h1.call h4 h5.own, h5.mono h1.size⟩
 refine ja7 Tryz.func14 rfl rfl rfl (Wq (La rfl (La rfl (Rqq (Lm rfl (jcV rfl u_28 rfl rfl (Lm rfl (Rw rfl ?_))))))))
 refine Lm rfl (Rw rfl (Ln rfl (Rw rfl (Lf 6 jfS rfl i_63 (Rw rfl (Ll o_63 rfl (by exact jb6 hs hB (j := 6) rfl) ?_))))))
 refine Gm rfl rfl (Rw rfl (jf4 (k := o.t.id) (ev := pv) (z := .pointer none) rfl K3 jpY i_77 (hs.has _ hm) rfl rfl ?_))
 rw [hg]
 refine Rw rfl (jcV rfl u_77 rfl rfl (Lpf rfl (Rt (Wf rfl (Ws (Wsq (W_any (pastP w0 k.B k.mb o) (fun i => ([[], [0], [1], [2], [], [3, 4], [5], [6], [7], [8], [], [10], [11], [12], [], [13, 14], [15], [16], [17], [18], [9], [19]] : List (List Nat)).getD i []) (fun i => ([[], [], [], [], [], [], [], [], [], [], [], [], [], [], [], [], [], [], [], [], [9], [19]] : List (List Nat)).getD i []) Tryz.mixed (by kernel_rfl) hs ?_ ?_)))))))
 ·
  intro i oo d ho hd V M E R w Q' hdep hlook hold hR hs hc
  match i, ho with
  | 0, ho =>
   cases ho; cases hd
   refine jgK rfl (hold 0 _ rfl (nd (by kernel_rfl))) ?_
   exact hc _ [] w ⟨rfl, rfl⟩ Own.nil hs
  | 1, ho =>
   cases ho; cases hd
   have e1 : Lk.look E 17 = some (bv k.B) := by rw [hlook 0 (by decide) _ _ rfl rfl, (hdep 0 (by decide)).1.1]
   refine jc4 rfl e1 ?_
   exact hc _ [] w ⟨rfl, rfl⟩ Own.nil hs
  | 2, ho =>
   cases ho; cases hd
   have e1 : Lk.look E 18 = some (bv k.B) := by rw [hlook 1 (by decide) _ _ rfl rfl, (hdep 1 (by decide)).1.1]
   refine jbT rfl (off := 6) jfS rfl rfl i_63 e1 ?_
   exact hc _ [] w ⟨rfl, rfl⟩ Own.nil hs
  | 3, ho =>
   cases ho; cases hd
   have e1 : Lk.look E 19 = some (.pointer (some ((Addr.mk k.B 0 none).add 6))) := by rw [hlook 2 (by decide) _ _ rfl rfl, (hdep 2 (by decide)).1.1]
   refine jgX rfl o_63 e1 (jb6 hs (List.mem_append_left _ (List.mem_append_left _ hB)) rfl) ?_
   exact hc _ [] w ⟨rfl, rfl⟩ Own.nil hs
  | 4, ho =>
   cases ho; cases hd
   refine jgK rfl (hold 1 _ rfl (nd (by kernel_rfl))) ?_
   exact hc _ [] w ⟨rfl, rfl⟩ Own.nil hs
  | 5, ho =>
   cases ho; cases hd
   have e1 : Lk.look E 20 = some (.map (some k.mb)) := by rw [hlook 3 (by decide) _ _ rfl rfl, (hdep 3 (by decide)).1.1]
   have e2 : Lk.look E 21 = some (.int .i64 o.t.id) := by rw [hlook 4 (by decide) _ _ rfl rfl, (hdep 4 (by decide)).1.1]
   refine jf4 (k := o.t.id) (ev := pv) (z := .pointer none) rfl K3 jpY i_77 (hs.has _ (List.mem_append_left _ (List.mem_append_left _ hm))) e1 e2 ?_
   rw [hg]
   exact hc _ [] w ⟨rfl, rfl⟩ Own.nil hs
  | 6, ho =>
   cases ho; cases hd
   have e1 : Lk.look E 22 = some (pv o.p) := by rw [hlook 5 (by decide) _ _ rfl rfl, (hdep 5 (by decide)).1.1]
   refine jc4 rfl e1 ?_
   exact hc _ [] w ⟨rfl, rfl⟩ Own.nil hs
  | 7, ho =>
   cases ho; cases hd
   have e1 : Lk.look E 23 = some (pv o.p) := by rw [hlook 6 (by decide) _ _ rfl rfl, (hdep 6 (by decide)).1.1]
   refine jbT rfl (off := 15) jpM rfl rfl jn1 e1 ?_
   exact hc _ [] w ⟨rfl, rfl⟩ Own.nil hs
  | 8, ho =>
   cases ho; cases hd
   have e1 : Lk.look E 24 = some (.pointer (some ((Addr.mk o.p 0 none).add 15))) := by rw [hlook 7 (by decide) _ _ rfl rfl, (hdep 7 (by decide)).1.1]
   refine jgX rfl o_55 e1 (jb6 hs (List.mem_append_left _ (List.mem_append_left _ hrow)) rfl) ?_
   exact hc _ [] w ⟨rfl, rfl⟩ Own.nil hs
  | 10, ho =>
   cases ho; cases hd
   refine jgK rfl (hold 0 _ rfl (nd (by kernel_rfl))) ?_
   exact hc _ [] w ⟨rfl, rfl⟩ Own.nil hs
  | 11, ho =>
   cases ho; cases hd
   have e1 : Lk.look E 27 = some (bv k.B) := by rw [hlook 10 (by decide) _ _ rfl rfl, (hdep 10 (by decide)).1.1]
   refine jc4 rfl e1 ?_
   exact hc _ [] w ⟨rfl, rfl⟩ Own.nil hs
  | 12, ho =>
   cases ho; cases hd
   have e1 : Lk.look E 28 = some (bv k.B) := by rw [hlook 11 (by decide) _ _ rfl rfl, (hdep 11 (by decide)).1.1]
   refine jbT rfl (off := 6) jfS rfl rfl i_63 e1 ?_
   exact hc _ [] w ⟨rfl, rfl⟩ Own.nil hs
  | 13, ho =>
   cases ho; cases hd
   have e1 : Lk.look E 29 = some (.pointer (some ((Addr.mk k.B 0 none).add 6))) := by rw [hlook 12 (by decide) _ _ rfl rfl, (hdep 12 (by decide)).1.1]
   refine jgX rfl o_63 e1 (jb6 hs (List.mem_append_left _ (List.mem_append_left _ hB)) rfl) ?_
   exact hc _ [] w ⟨rfl, rfl⟩ Own.nil hs
  | 14, ho =>
   cases ho; cases hd
   refine jgK rfl (hold 1 _ rfl (nd (by kernel_rfl))) ?_
   exact hc _ [] w ⟨rfl, rfl⟩ Own.nil hs
  | 15, ho =>
   cases ho; cases hd
   have e1 : Lk.look E 30 = some (.map (some k.mb)) := by rw [hlook 13 (by decide) _ _ rfl rfl, (hdep 13 (by decide)).1.1]
   have e2 : Lk.look E 31 = some (.int .i64 o.t.id) := by rw [hlook 14 (by decide) _ _ rfl rfl, (hdep 14 (by decide)).1.1]
   refine jf4 (k := o.t.id) (ev := pv) (z := .pointer none) rfl K3 jpY i_77 (hs.has _ (List.mem_append_left _ (List.mem_append_left _ hm))) e1 e2 ?_
   rw [hg]
   exact hc _ [] w ⟨rfl, rfl⟩ Own.nil hs
  | 16, ho =>
   cases ho; cases hd
   have e1 : Lk.look E 32 = some (pv o.p) := by rw [hlook 15 (by decide) _ _ rfl rfl, (hdep 15 (by decide)).1.1]
   refine jc4 rfl e1 ?_
   exact hc _ [] w ⟨rfl, rfl⟩ Own.nil hs
  | 17, ho =>
   cases ho; cases hd
   have e1 : Lk.look E 33 = some (pv o.p) := by rw [hlook 16 (by decide) _ _ rfl rfl, (hdep 16 (by decide)).1.1]
   refine jbT rfl (off := 16) jpM rfl rfl jn1 e1 ?_
   exact hc _ [] w ⟨rfl, rfl⟩ Own.nil hs
  | 18, ho =>
   cases ho; cases hd
   have e1 : Lk.look E 34 = some (.pointer (some ((Addr.mk o.p 0 none).add 16))) := by rw [hlook 17 (by decide) _ _ rfl rfl, (hdep 17 (by decide)).1.1]
   refine jgX rfl o_55 e1 (jb6 hs (List.mem_append_left _ (List.mem_append_left _ hrow)) rfl) ?_
   exact hc _ [] w ⟨rfl, rfl⟩ Own.nil hs
  | 9, ho =>
   cases ho; cases hd
   replace hs : HS w0 w (_ ++ []) := hs
   rw [List.append_nil] at hs
   have e1 : Lk.look E 25 = some o.vx := by rw [hlook 8 (by decide) _ _ rfl rfl, (hdep 8 (by decide)).1.1]
   refine L_call rfl f_40 (by simp only [jdF, jaD, e1]) (hcx hs (hAo.app hR) (fun p hp => List.mem_append_left _ hp)) ?_
   rintro v w ⟨M', hs', hb⟩
   exact hc _ _ _ hb hb.own hs'
  | 19, ho =>
   cases ho; cases hd
   replace hs : HS w0 w (_ ++ []) := hs
   rw [List.append_nil] at hs
   have e1 : Lk.look E 35 = some o.vy := by rw [hlook 18 (by decide) _ _ rfl rfl, (hdep 18 (by decide)).1.1]
   refine L_call rfl f_40 (by simp only [jdF, jaD, e1]) (hcy hs (hAo.app hR) (fun p hp => List.mem_append_left _ hp)) ?_
   rintro v w ⟨M', hs', hb⟩
   exact hc _ _ _ hb hb.own hs'
  | 20, ho =>
   cases ho; cases hd
   have e1 : Lk.look E 26 = some (V 9) := hlook 9 (by decide) _ _ rfl rfl
   replace hs : HS w0 w (_ ++ (M 9 ++ [])) := hs
   rw [List.append_nil] at hs
   refine jg1 rfl e1 ?_
   exact hc _ (M 9) w (hdep 9 (by decide)).1 (hdep 9 (by decide)).2 hs
  | 21, ho =>
   cases ho; cases hd
   have e1 : Lk.look E 36 = some (V 19) := hlook 19 (by decide) _ _ rfl rfl
   replace hs : HS w0 w (_ ++ (M 19 ++ [])) := hs
   rw [List.append_nil] at hs
   refine jg1 rfl e1 ?_
   exact hc _ (M 19) w (hdep 19 (by decide)).1 (hdep 19 (by decide)).2 hs
 intro V M own w hΦ hs hown hnd E hold hlook
 have h20 : Bl w0 48 5 (V 20) o.xs.length (scs o.xs) (M 20) := (hΦ 20 (by decide)).1
 have h21 : Bl w0 48 5 (V 21) o.ys.length (scs o.ys) (M 21) := (hΦ 21 (by decide)).1
 have e4 : Lk.look E 4 = some (V 20) := hlook 20 _ _ rfl rfl
 have e5 : Lk.look E 5 = some (V 21) := hlook 21 _ _ rfl rfl
 have hs2 : HS w0 w (A ++ (M 20 ++ M 21)) := by
  have hp : own.Perm (20 :: 21 :: own.filter fun j => j != 20 && j != 21) := by
   have m20 := (hown 20).2 ⟨by decide, by decide⟩
   have m21 := (hown 21).2 ⟨by decide, by decide⟩
   exact pair_perm hnd m20 m21 (by decide)
  have h3 : HS w0 w (A ++ (20 :: 21 :: own.filter fun j => j != 20 && j != 21).flatMap M) := hs.mem_perm ((List.perm_append_left_iff _).2 (hp.flatMap_right _))
  have h3' : HS w0 w (A ++ (M 20 ++ (M 21 ++ (own.filter fun j => j != 20 && j != 21).flatMap M))) := h3
  have h4 : HS w0 w ((M 20 ++ M 21) ++ (A ++ (own.filter fun j => j != 20 && j != 21).flatMap M)) := HS.re h3' (fun c => by simp only [mpA, mpC, mpN, smA, smC, smN]; omega)
  have h5 := HS.re (L' := (own.filter fun j => j != 20 && j != 21).flatMap M ++ (A ++ (M 20 ++ M 21))) h4 (fun c => by simp only [mpA, mpC, mpN, smA, smC, smN]; omega)
  refine h5.sub (fun p hp => List.mem_append_right _ hp) (by have := h5.nodup; rw [List.map_append, List.nodup_append] at this; exact this.2.1) (fun p hp => (List.mem_append.1 hp).elim (fun h => ?_) .inl)
  obtain ⟨j, hj, hp⟩ := List.mem_flatMap.1 h
  exact .inr ((hΦ j ((hown j).1 (List.mem_filter.1 hj).1).1).2 p hp)
 refine Nx_env (e := [(4, V 20), (5, V 21)]) ?_ (jdN e4 (jdN e5 jkL))
 clear hs
 have hs := hs2
 clear hs2 hΦ hown hold hlook hnd e4 e5
 refine Nt (jaW (jb9 rfl rfl rfl ?_))
 exact ⟨_, rfl, _, _, _, _, rfl, hs, h20, h21⟩
inductive All2 {α β : Type} (R : α -> β -> Prop) : List α -> List β -> Prop where
 | nil : All2 R [] []
 | cons {a : α} {b : β} {l : List α} {m : List β} : R a b -> All2 R l m -> All2 R (a :: l) (b :: m)
theorem All2.len {α β : Type} {R : α -> β -> Prop} {l : List α} {m : List β} (h : All2 R l m) : m.length = l.length := by
 induction h with
 | nil => rfl
 | cons _ _ ih => simp [ih]
theorem All2.snoc {α β : Type} {R : α -> β -> Prop} {l : List α} {m : List β} {a : α} {b : β} (h : All2 R l m) (hab : R a b) : All2 R (l ++ [a]) (m ++ [b]) := by
 induction h with
 | nil => exact .cons hab .nil
 | cons h1 _ ih => exact .cons h1 ih
theorem All2.at {α β : Type} {R : α -> β -> Prop} {l : List α} {m : List β} (h : All2 R l m) {da : α} {db : β} {i : Nat} (hi : i < l.length) : R (l.getD i da) (m.getD i db) := by
 induction h generalizing i with
 | nil => simp at hi
 | cons h1 _ ih =>
  cases i with
  | zero => exact h1
  | succ i => exact ih (by simpa using hi)
theorem All2.mono {α β : Type} {R S : α -> β -> Prop} {l : List α} {m : List β} (h : All2 R l m) (hrs : ∀ a b, R a b -> S a b) : All2 S l m := by
 induction h with
 | nil => exact .nil
 | cons h1 _ ih => exact .cons (hrs _ _ h1) ih
structure Pq where
 x : Nat
 y : Nat
def pq0 : Pq := ⟨0, 0⟩
def Pq.cells (p : Pq) : List Value := [.float .f64 p.x, .float .f64 p.y]
def pqs (ps : List Pq) : List Value := ps.flatMap Pq.cells
theorem pqs_app (a b : List Pq) : pqs (a ++ b) = pqs a ++ pqs b := List.flatMap_append ..
theorem pqs_len : ∀ ps : List Pq, (pqs ps).length = ps.length * 2
 | [] => rfl
 | p :: ps => by
  show (p.cells ++ pqs ps).length = _
  rw [List.length_append, pqs_len ps, List.length_cons, show p.cells.length = 2 from rfl]; omega
theorem jqU : ∀ {ps : List Pq} {i q : Nat} {v : Value}, i < ps.length -> (ps.getD i pq0).cells[q]? = some v -> (pqs ps)[i * 2 + q]? = some v
 | [], _, _, _, hi, _ => by simp at hi
 | t :: ts, 0, q, v, _, h => by
  have hq := (List.getElem?_eq_some_iff.1 h).1
  show (t.cells ++ pqs ts)[0 * 2 + q]? = _
  rw [show 0 * 2 + q = q by omega, List.getElem?_append_left (by simpa using hq)]
  simpa using h
 | t :: ts, i + 1, q, v, hi, h => by
  show (t.cells ++ pqs ts)[(i + 1) * 2 + q]? = _
  have hl : t.cells.length = 2 := rfl
  rw [List.getElem?_append_right (by omega), show (i + 1) * 2 + q - t.cells.length = i * 2 + q by omega]
  exact jqU (by simpa using hi) h
theorem pqs_made (k : Nat) : (List.replicate k [Value.float .f64 0, .float .f64 0]).flatten = pqs (List.replicate k pq0) := by
 induction k with
 | zero => rfl
 | succ k ih => rw [List.replicate_succ, List.flatten_cons, ih]; rfl
theorem pqs_put {ps : List Pq} {i m : Nat} {p : Pq} (hi : ps.length = i) : (pqs (ps ++ List.replicate (m + 1) pq0)).take (i * 2) ++ p.cells ++ (pqs (ps ++ List.replicate (m + 1) pq0)).drop (i * 2 + 2) = pqs ((ps ++ [p]) ++ List.replicate m pq0) := by
 have e : pqs (ps ++ List.replicate (m + 1) pq0) = pqs ps ++ (pq0.cells ++ pqs (List.replicate m pq0)) := by rw [pqs_app, List.replicate_succ]; rfl
 have hl := pqs_len ps
 rw [hi] at hl
 rw [e, List.take_left' hl, <- List.append_assoc (pqs ps) pq0.cells, List.drop_left' (by rw [List.length_append, hl]; rfl), pqs_app, pqs_app, show pqs [p] = p.cells by simp [pqs]]
def PtOk (l : Plt) (p : Pq) : Prop := cn p.x = ptX l /\ cn p.y = ptY l
def jcB (o : On) : Bool := !decide (o.t.kind = 2)
def AheadR (time q : Nat) (o o' : On) : Prop := ∃ x y : Stt, x.c = (jdB o.t.x (fop .sub time o.t.last) q).c /\ y.c = (jdB o.t.y (fop .sub time o.t.last) q).c /\ o' = { o with t := { o.t with x := x, y := y } }
def jc2 (r : Rul) (ps : List Pq) (o : On) : List Int := ps.map fun p => jdV r.noise r.gate o.t.x o.t.y p.x p.y
def jbX (r : Rul) (ps : List Pq) (os : List On) : List (List Int) := os.map (jc2 r ps)
def jcF (s : Nat) : Nat := s * 2 % 65536
def jnS (s : Nat) : Nat := s ||| 1
def HitR (r : Rul) (time : Nat) (ps : List Pq) (z : On × Int) (o : On) : Prop := ∃ t : Trk, (if 0 <= z.2 then ∃ x y : Stt, x.c = (jcY z.1.t.x (ps.getD z.2.toNat pq0).x r.noise).c /\ y.c = (jcY z.1.t.y (ps.getD z.2.toNat pq0).y r.noise).c /\ t = { z.1.t with x := x, y := y, seen := jnS (jcF z.1.t.seen) } else t = { z.1.t with seen := jcF z.1.t.seen }) /\
 o.p = z.1.p /\ o.c = z.1.c /\ o.t = endT r t time /\ o.xs = jeX (z.1.xs ++ [t.x]) /\ o.ys = jeX (z.1.ys ++ [t.y])
def jmT (told : List Int) (z : On × Int) : List Int := if 0 <= z.2 then told.set z.2.toNat z.1.t.id else told
def jmR (r : Rul) (id : Int) (p : Pq) : Trk := ⟨id, 0, jdY p.x r.noise r.sway, jdY p.y r.noise r.sway, 1, 0, 0⟩
structure NS where
 os : List On
 ck : Nat
 next : Int
 told : List Int
inductive NewsTo (r : Rul) (time : Nat) (ps : List Pq) (s : NS) : Nat -> NS -> Prop where
 | zero : NewsTo r time ps s 0 s
 | old {j : Nat} {u : NS} : NewsTo r time ps s j u -> 0 < u.told.getD j 0 ∨ 256 <= u.os.length -> NewsTo r time ps s (j + 1) u
 | new {j : Nat} {u : NS} {o : On} : NewsTo r time ps s j u -> ¬ (0 < u.told.getD j 0 ∨ 256 <= u.os.length) -> o.c = u.ck -> o.t = endT r (jmR r u.next (ps.getD j pq0)) time -> o.xs = [(jmR r u.next (ps.getD j pq0)).x] -> o.ys = [(jmR r u.next (ps.getD j pq0)).y] ->
   NewsTo r time ps s (j + 1) ⟨u.os ++ [o], u.ck + 1, u.next + 1, u.told.set j u.next⟩
structure StepTo (k : Bok) (time : Nat) (l : List Plt) (k' : Bok) (told : List Int) (os2 : List On) (ps : List Pq) (ms : List Int) (os3 : List On) : Prop where
 sameB : k'.B = k.B
 samem : k'.mb = k.mb
 samer : k'.r = k.r
 last : k'.last = time
 ahead : All2 (AheadR time k.r.sway) (k.os.filter jcB) os2
 pts : All2 PtOk l ps
 most : ∃ cnt t, MostAns (jbX k.r ps os2) ms cnt t 0
 lenm : ms.length = os2.length
 hits : All2 (HitR k.r time ps) (os2.zip ms) os3
 news : NewsTo k.r time ps ⟨os3, k.ck, k.next, (os2.zip ms).foldl jmT (List.replicate l.length 0)⟩ l.length ⟨k'.os, k'.ck, k'.next, told⟩
theorem jdG (r : Rul) (ps : List Pq) (os : List On) : (jbX r ps os).length = os.length := List.length_map ..
theorem je0 {r : Rul} {ps : List Pq} {os : List On} : ∀ x ∈ jbX r ps os, x.length = ps.length := fun x hx => by
 obtain ⟨o, _, rfl⟩ := List.mem_map.1 hx
 exact List.length_map ..
theorem chk_cost {r : Rul} {ps : List Pq} {os : List On} (hg : GateOk r.gate) (h1 : ps.length <= 256) (h2 : os.length <= 256) : chk (jbX r ps os) = 0 := by
 unfold chk
 have hw : ∀ x ∈ jbX r ps os, x.length = wid (jbX r ps os) 0 := by
  intro x hx
  have hx1 := je0 x hx
  unfold wid
  have h0 : 0 < (jbX r ps os).length := List.length_pos_of_mem hx
  rw [List.getD_eq_getElem?_getD, List.getElem?_eq_getElem h0, Option.getD_some, je0 _ (List.getElem_mem h0), hx1]
 rw [if_neg, if_neg, if_neg]
 ·
  intro h
  obtain ⟨x, hx, h⟩ := List.any_eq_true.1 h
  obtain ⟨c, hc, h⟩ := List.any_eq_true.1 h
  obtain ⟨o, _, rfl⟩ := List.mem_map.1 hx
  obtain ⟨p, _, rfl⟩ := List.mem_map.1 hc
  have := costT_rng (n := r.noise) (x := o.t.x) (y := o.t.y) (px := p.x) (py := p.y) hg
  rw [decide_eq_true_eq] at h
  omega
 ·
  intro h
  obtain ⟨x, hx, h⟩ := List.any_eq_true.1 h
  rw [decide_eq_true_eq] at h
  exact h (hw x hx)
 intro h
 rw [Bool.or_eq_true, decide_eq_true_eq] at h
 rcases h with h | h
 ·
  rw [jdG] at h; omega
 obtain ⟨x, hx, h⟩ := List.any_eq_true.1 h
 rw [decide_eq_true_eq, je0 x hx] at h
 omega
theorem jr3 {r : Rul} {ps : List Pq} {os : List On} {ms : List Int} {cnt t e : Int} (hg : GateOk r.gate) (h1 : ps.length <= 256) (h2 : os.length <= 256) (h : MostAns (jbX r ps os) ms cnt t e) : e = 0 /\ ms.length = os.length /\ ∀ m ∈ ms, -1 <= m /\ m < ps.length := by
 have hc := chk_cost hg h1 h2
 rcases h with ⟨h3, rfl, _, _, rfl⟩ | ⟨_, hne, f, _, rfl, _, _, rfl⟩
 ·
  refine ⟨hc, ?_, fun m hm => (by cases hm)⟩
  rcases h3 with h3 | h3
  ·
   exact absurd hc h3
  rw [jdG] at h3; rw [h3]; rfl
 refine ⟨rfl, by rw [List.length_map, List.length_range, jdG], fun m hm => ?_⟩
 obtain ⟨i, _, rfl⟩ := List.mem_map.1 hm
 have hw : wid (jbX r ps os) 0 = ps.length := by
  unfold wid
  have h0 : 0 < (jbX r ps os).length := Nat.pos_of_ne_zero hne
  rw [List.getD_eq_getElem?_getD, List.getElem?_eq_getElem h0, Option.getD_some, je0 _ (List.getElem_mem h0)]
 rw [hw]
 split <;> omega
theorem HS.alive {w0 w : World} {L : Bks} {os : List On} {p : On -> Bool} (h : HS w0 w (obs os ++ L)) (ho : ∀ o ∈ os, o.ok w0) : HS w0 w (obs (os.filter p) ++ L) := by
 have hsub : ((os.filter p).flatMap On.bks).Sublist (os.flatMap On.bks) := by
  clear h ho
  induction os with
  | nil => exact List.Sublist.refl _
  | cons o os ih =>
   rw [List.flatMap_cons]
   by_cases hp : p o = true
   ·
    rw [List.filter_cons_of_pos hp, List.flatMap_cons]; exact (List.Sublist.refl _).append ih
   rw [List.filter_cons_of_neg hp]; exact ih.trans (List.sublist_append_right _ _)
 refine h.sub (fun q hq => ?_) ?_ (fun q hq => ?_)
 ·
  rcases List.mem_append.1 hq with hq | hq
  ·
   exact List.mem_append_left _ (hsub.subset hq)
  exact List.mem_append_right _ hq
 ·
  exact h.nodup.sublist ((hsub.append (List.Sublist.refl _)).map _)
 rcases List.mem_append.1 hq with hq | hq
 ·
  obtain ⟨o, ho', hq⟩ := List.mem_flatMap.1 hq
  exact .inr ((ho o ho').own q hq)
 exact .inl (List.mem_append_right _ hq)
def kdOf (os : List On) (x : Ent) : Int := match os.find? (fun o => decide (o.t.id = x.1)) with
 | some o => o.t.kind
 | none => 0
theorem kdOf_eq {os : List On} (h : (os.map fun o => o.t.id).Nodup) {o : On} (ho : o ∈ os) : kdOf os (jc1 o) = o.t.kind := by
 have e : os.find? (fun u => decide (u.t.id = (jc1 o).1)) = some o := by
  induction os with
  | nil => cases ho
  | cons u os ih =>
   rw [List.map_cons, List.nodup_cons] at h
   rcases List.mem_cons.1 ho with rfl | ho
   ·
    exact List.find?_cons_of_pos (by simp [jc1])
   rw [List.find?_cons_of_neg]
   ·
    exact ih h.2 ho
   intro he
   exact h.1 (List.mem_map.2 ⟨o, ho, (of_decide_eq_true he).symm⟩)
 unfold kdOf
 rw [e]
theorem jqA {os : List On} (h : (os.map fun o => o.t.id).Nodup) : (os.map jc1).filter (fun x => !decide (kdOf os x = 2)) = (os.filter jcB).map jc1 := by
 rw [List.filter_map]
 congr 1
 apply List.filter_congr
 intro o ho
 show (!decide (kdOf os (jc1 o) = 2)) = _
 rw [kdOf_eq h ho]; rfl
theorem Trk.inj {s u : Trk} (h : s.cells.toArray = u.cells.toArray) : s = u := by
 have h1 := congrArg Array.toList h
 obtain ⟨i, k, ⟨x, v, p, q, r⟩, ⟨x2, v2, p2, q2, r2⟩, se, st, la⟩ := s
 obtain ⟨i', k', ⟨x', v', p', q', r'⟩, ⟨x2', v2', p2', q2', r2'⟩, se', st', la'⟩ := u
 simp only [Trk.cells, List.cons.injEq, Value.float.injEq, Value.int.injEq, true_and, and_true] at h1
 obtain ⟨rfl, rfl, rfl, rfl, rfl, rfl, rfl, rfl, rfl, rfl, rfl, rfl, hse, rfl, rfl⟩ := h1
 have : se = se' := by omega
 rw [this]
theorem Pq.inj {s u : Pq} (h : s.cells.toArray = u.cells.toArray) : s = u := by
 have h1 := congrArg Array.toList h
 obtain ⟨x, y⟩ := s
 obtain ⟨x', y'⟩ := u
 simp only [Pq.cells, List.cons.injEq, Value.float.injEq, true_and, and_true] at h1
 obtain ⟨rfl, rfl⟩ := h1
 rfl
theorem HS.dropL {w0 w : World} {A B : Bks} (h : HS w0 w (A ++ B)) (hA : Own w0 A) : HS w0 w B :=
 h.sub (fun p hp => List.mem_append_right _ hp) (by have := h.nodup; rw [List.map_append, List.nodup_append] at this; exact this.2.1) (fun p hp => (List.mem_append.1 hp).elim (fun h => .inr (hA p h)) .inl)
theorem shl16_ok (s : Nat) (hs : s < 65536) : IntKind.u16.wrap ((s : Int) * 2 ^ (min (Int.toNat 1) (IntKind.bits .u16))) = ((jcF s : Nat) : Int) := by
 show IntKind.u16.wrap ((s : Int) * 2) = _
 rw [IntKind.wrap_u16]
 unfold jcF
 omega
theorem jhE (s : Nat) : jcF s < 65536 := Nat.mod_lt _ (by decide)
theorem or16_lt {s : Nat} (h : s < 65536) : jnS s < 65536 := Nat.or_lt_two_pow (n := 16) h (by decide)
theorem zip_get {α β : Type} {a : List α} {b : List β} {i : Nat} {da : α} {db : β} (h1 : i < a.length) (h2 : i < b.length) : (a.zip b)[i]? = some (a.getD i da, b.getD i db) := by
 have h : i < (a.zip b).length := by rw [List.length_zip]; omega
 rw [List.getElem?_eq_getElem h, List.getElem_zip, List.getD_eq_getElem?_getD, List.getElem?_eq_getElem h1, List.getD_eq_getElem?_getD, List.getElem?_eq_getElem h2]; rfl
theorem hitT_len (told : List Int) (z : On × Int) : (jmT told z).length = told.length := by
 unfold jmT; split
 ·
  rw [List.length_set]
 rfl
theorem jp2 (zs : List (On × Int)) : ∀ told : List Int, (zs.foldl jmT told).length = told.length := by
 induction zs with
 | nil => exact fun _ => rfl
 | cons z zs ih => intro told; rw [List.foldl_cons, ih, hitT_len]
theorem mput_new {es : List Ent} {k : Int} {v ck : Nat} (h : ∀ x ∈ es, x.1 ≠ k) : mput k v ck es = es ++ [(k, v, ck)] /\ mclk k ck es = ck + 1 := by
 constructor
 ·
  induction es with
  | nil => rfl
  | cons y es ih =>
   unfold mput
   rw [if_neg (h y (List.mem_cons_self ..)), ih fun x hx => h x (List.mem_cons_of_mem _ hx)]; rfl
 unfold mclk
 rw [mget_not h]; rfl
theorem EntOk.push {es : List Ent} {ck : Nat} (h : EntOk es ck) {k : Int} {p : Nat} (hk : ∀ x ∈ es, x.1 < k) (h0 : 0 <= k) (h1 : k < 9223372036854775807) (hl : es.length <= 999) : EntOk (es ++ [(k, p, ck)]) (ck + 1) := by
 refine ⟨?_, fun x hx => ?_, fun x hx => ?_, ?_, by rw [List.length_append, List.length_singleton]; omega⟩
 ·
  rw [List.map_append]
  refine List.pairwise_append.2 ⟨h.asc, by simp, fun a ha b hb => ?_⟩
  obtain ⟨x, hx, rfl⟩ := List.mem_map.1 ha
  simp only [List.map_cons, List.map_nil, List.mem_singleton] at hb
  rw [hb]; exact hk x hx
 ·
  rcases List.mem_append.1 hx with hx | hx
  ·
   exact h.rng x hx
  rw [List.mem_singleton.1 hx]; exact ⟨h0, h1⟩
 ·
  rcases List.mem_append.1 hx with hx | hx
  ·
   have := h.born x hx; omega
  rw [List.mem_singleton.1 hx]; exact Nat.lt_succ_self _
 rw [List.map_append]
 refine List.nodup_append.2 ⟨h.nd, by simp, fun a ha b hb => ?_⟩
 obtain ⟨x, hx, rfl⟩ := List.mem_map.1 ha
 simp only [List.map_cons, List.map_nil, List.mem_singleton] at hb
 have := h.born x hx
 rw [hb]; omega
theorem All2.map_eq {α β γ : Type} {R : α -> β -> Prop} {f : α -> γ} {g : β -> γ} {l : List α} {m : List β} (h : All2 R l m) (hf : ∀ a b, R a b -> g b = f a) : m.map g = l.map f := by
 induction h with
 | nil => rfl
 | cons h1 _ ih => rw [List.map_cons, List.map_cons, hf _ _ h1, ih]
theorem AheadR.ent {time q : Nat} {o o' : On} (h : AheadR time q o o') : jc1 o' = jc1 o := by
 obtain ⟨x, y, _, _, rfl⟩ := h; rfl
theorem HitR.ent {r : Rul} {time : Nat} {ps : List Pq} {z : On × Int} {o : On} (h : HitR r time ps z o) : jc1 o = jc1 z.1 := by
 obtain ⟨t, h1, h2, h3, h4, _⟩ := h
 have hid : t.id = z.1.t.id := by
  split at h1
  ·
   obtain ⟨x, y, _, _, rfl⟩ := h1; rfl
  rw [h1]
 unfold jc1
 rw [h2, h3, h4, show (endT r t time).id = t.id from rfl, hid]
theorem zip_fst {α β γ : Type} (f : α -> γ) : ∀ {a : List α} {b : List β}, a.length = b.length -> (a.zip b).map (fun z => f z.1) = a.map f
 | [], [], _ => rfl
 | x :: a, y :: b, h => by rw [List.zip_cons_cons, List.map_cons, List.map_cons, zip_fst f (by simpa using h)]
def SPK (n g : Nat) (f : FuncId) (args : Array Value) (v : Value) : Prop := match f, args.toList with
 | 35, [_, .agg a, .agg b] => ∀ (t : Trk) (p : Pq), a = t.cells.toArray -> b = p.cells.toArray -> v = .int .i64 (jdV n g t.x t.y p.x p.y)
 | _, _ => False
theorem costH {w0 w : World} {L : Bks} (hs : HS w0 w L) (B n g : Nat) (cs : List Value) (t : Trk) (p : Pq) (hg : GateOk g) (hB : (B, Row 66 cs) ∈ L) (h0 : cs[0]? = some (.float .f64 n)) (h2 : cs[2]? = some (.float .f64 g)) :
  Ret Tryz.prog 35 [bv B, .agg t.cells.toArray, .agg p.cells.toArray] w fun v w' => SPK n g 35 [bv B, .agg t.cells.toArray, .agg p.cells.toArray].toArray v /\ HS w0 w' L :=
 Calls.mono (cost_ok B n g t p.x p.y w hg (Lk.cell_of_row (hs.has _ hB) h0) (Lk.cell_of_row (hs.has _ hB) h2)) fun e w' => by
  rintro ⟨v, rfl, rfl, hs'⟩
  refine ⟨_, rfl, fun t' p' ht hp => ?_, hs.nil hs'⟩
  rw [Trk.inj ht, Pq.inj hp]
end Go.Proofs.YtffobakdngbadaaGreat