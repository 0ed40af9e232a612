/-
  A part of the proof.
-/
import Derived.Test.YtffobakdngbadaaGreatKit
import Derived.Test.YtffobakdngbadaaGreatP14
import Derived.Test.YtffobakdngbadaaGreatP11
namespace Go.Proofs.YtffobakdngbadaaGreat
open Go Go.Lk
theorem ahead_obx {time q : Nat} {l m : List On} (h : All2 (AheadR time q) l m) : obx m = obx l := by
 induction h with
 | nil => rfl
 | cons h1 _ ih =>
  obtain ⟨x, y, _, _, rfl⟩ := h1
  show oM _ ++ obx _ = oM _ ++ obx _
  rw [ih]; rfl
theorem HS.aliveD {w0 w : World} {L : Bks} {os : List On} {p : On -> Bool} (h : HS w0 w (obx os ++ L)) (ho : ∀ o ∈ os, o.okD w0) : HS w0 w (obx (os.filter p) ++ L) := by
 have hsub : ((os.filter p).flatMap oM).Sublist (os.flatMap oM) := by
  clear h ho
  induction os with
  | nil => exact List.Sublist.refl _
  | cons o os ih =>
   rw [List.flatMap_cons]
   by_cases hp : p o = true
   ·
    rw [List.filter_cons_of_pos hp, List.flatMap_cons]; exact (List.Sublist.refl _).append ih
   rw [List.filter_cons_of_neg hp]; exact ih.trans (List.sublist_append_right _ _)
 refine h.sub (fun q hq => ?_) ?_ (fun q hq => ?_)
 ·
  rcases List.mem_append.1 hq with hq | hq
  ·
   exact List.mem_append_left _ (hsub.subset hq)
  exact List.mem_append_right _ hq
 ·
  exact h.nodup.sublist ((hsub.append (List.Sublist.refl _)).map _)
 rcases List.mem_append.1 hq with hq | hq
 ·
  obtain ⟨o, ho', hq⟩ := List.mem_flatMap.1 hq
  exact .inr ((ho o ho').own q hq)
 exact .inl (List.mem_append_right _ hq)
theorem rcostH {w0 w : World} {L : Bks} (hs : HS w0 w L) (B n g : Nat) (cs : List Value) (t : Trk) (p : Pq) (hg : GateOk g) (hB : (B, Row 70 cs) ∈ L) (h0 : cs[0]? = some (.float .f64 n)) (h2 : cs[2]? = some (.float .f64 g)) :
  Ret Tryz.prog 51 [bv B, .agg t.cells.toArray, .agg p.cells.toArray] w fun v w' => SPT B n g 51 [bv B, .agg t.cells.toArray, .agg p.cells.toArray].toArray v /\ HS w0 w' L :=
 Calls.mono (rcost_ok B n g t p.x p.y w hg (Lk.cell_of_row (hs.has _ hB) h0) (Lk.cell_of_row (hs.has _ hB) h2)) fun e w' => by
  rintro ⟨v, rfl, rfl, hs'⟩
  refine ⟨_, rfl, fun t' p' ht hp => ?_, hs.nil hs'⟩
  rw [Trk.inj ht, Pq.inj hp]
theorem On.tcells (o : On) : ∀ (z : Nat) (v : Value), o.t.cells[z]? = some v -> o.cells[z]? = some v := fun z v h => by
 have hz : z < 15 := (List.getElem?_eq_some_iff.1 h).1
 have e : o.cells = o.t.cells ++ [o.vx, o.vy] := rfl
 rw [e, List.getElem?_append_left hz]; exact h
theorem on_trk {w : World} {a : Option Addr} {os : List On} {u : On} (h : SlC w a (ocs os)) {i : Nat} (hi : i < os.length) (hu : u = os.getD i on0) : jbF w ((aD a).add (i * 17 + 0)) u.t.cells :=
 h.sub fun z v hv => by rw [Nat.add_assoc, Nat.zero_add]; exact jm4 hi (by rw [<- hu]; exact On.tcells u z v hv)
theorem Bl.fun17 {w0 : World} {al : Option Addr} {m cl : Nat} {os : List On} {M : Bks} (h : Bl w0 103 17 (.slice al m cl) m (ocs os) M) :
  ∃ lf : List On -> Bks, M = lf os /\ (∀ xs, xs.length = m -> Bl w0 103 17 (.slice al m cl) m (ocs xs) (lf xs)) /\ (0 < m -> ∃ g sp, al = some ⟨g, 0, none⟩ /\ lf = fun xs => [(g, Row 103 (ocs xs ++ sp))]) := by
 obtain ⟨v, hv⟩ : ∃ v, v = Value.slice al m cl := ⟨_, rfl⟩
 obtain ⟨cs, hcs⟩ : ∃ cs, cs = ocs os := ⟨_, rfl⟩
 rw [<- hv, <- hcs] at h
 cases h with
 | nil =>
  injection hv with h1 h2 h3
  subst h1 h3
  refine ⟨fun _ => [], rfl, fun xs hx => ?_, fun h => absurd h (by decide)⟩
  rw [List.eq_nil_of_length_eq_zero hx]; exact .nil
 | row hg hx hc hn =>
  rename_i g cap sp
  injection hv with h1 h2 h3
  subst h1 h3
  refine ⟨fun xs => [(g, Row 103 (ocs xs ++ sp))], by rw [hcs], fun xs hl => ?_, fun _ => ⟨g, sp, rfl, rfl⟩⟩
  refine .row hg (by rw [jd6, hl]) ?_ hn
  rw [List.length_append, jd6, hl]
  rw [List.length_append, hx] at hc
  exact hc
theorem or16_even {s : Nat} (h : s % 2 = 0) : jnS s = s + 1 := by
 unfold jnS
 have := Nat.two_pow_add_eq_or_of_lt (i := 1) (b := 1) (by decide) (s / 2)
 rw [show 2 ^ 1 * (s / 2) = s by omega] at this
 exact this.symm
theorem ocs_put {xs ys : List On} {o o' : On} {sp : List Value} {i : Nat} (hi : xs.length = i) : (ocs (xs ++ o :: ys) ++ sp).take (i * 17) ++ o'.cells ++ (ocs (xs ++ o :: ys) ++ sp).drop (i * 17 + 17) = ocs (xs ++ o' :: ys) ++ sp := by
 have hl := jd6 xs
 rw [hi] at hl
 have e : ocs (xs ++ o :: ys) ++ sp = ocs xs ++ (o.cells ++ (ocs ys ++ sp)) := by
  rw [jk2, List.append_assoc]
  show ocs xs ++ ((o.cells ++ ocs ys) ++ sp) = _
  rw [List.append_assoc]
 have e' : ocs (xs ++ o' :: ys) ++ sp = ocs xs ++ (o'.cells ++ (ocs ys ++ sp)) := by
  rw [jk2, List.append_assoc]
  show ocs xs ++ ((o'.cells ++ ocs ys) ++ sp) = _
  rw [List.append_assoc]
 rw [e, e', List.take_left' hl, <- List.append_assoc (ocs xs) o.cells, List.drop_left' (by rw [List.length_append, hl]; rfl), List.append_assoc]
theorem kindR_eq {r : Rul} {t : Trk} (h : t.kind = 0 ∨ t.kind = 1) : jnY r t = jeC r t.kind t.seen t.steps := by
 unfold jnY jeC
 split
 ·
  rfl
 split
 ·
  rfl
 rename_i h2
 rcases h with h | h
 ·
  rw [h]
 exact absurd (.inl h) h2
theorem kindR_rng {r : Rul} {t : Trk} : jnY r t = 0 ∨ jnY r t = 1 ∨ jnY r t = 2 := by
 unfold jnY
 split
 ·
  exact .inr (.inr rfl)
 split
 ·
  exact .inr (.inl rfl)
 exact .inl rfl
structure NewOk (w0 : World) (N : Nat) (u : NS) : Prop where
 each : ∀ o ∈ u.os, o.okD w0
 nd : (u.os.map fun o => o.t.id).Nodup
 low : ∀ o ∈ u.os, 1 <= o.t.id /\ o.t.id < u.next
 hist : ∀ o ∈ u.os, o.xs.length <= N + 1 /\ o.ys.length <= N + 1 /\ 0 <= o.t.steps /\ o.t.steps <= N + 1
 cnt : u.os.length <= 256
 next1 : 1 <= u.next
theorem All2.right {α β : Type} {R : α -> β -> Prop} : ∀ {l : List α} {m : List β}, All2 R l m -> ∀ b ∈ m, ∃ a ∈ l, R a b
 | _, _, .nil, b, h => by cases h
 | _, _, .cons h1 h, b, hb => by
  rcases List.mem_cons.1 hb with rfl | hb
  ·
   exact ⟨_, List.mem_cons_self .., h1⟩
  obtain ⟨a, ha, hr⟩ := All2.right h b hb
  exact ⟨a, List.mem_cons_of_mem _ ha, hr⟩
theorem hits_ok {w0 : World} {N : Nat} {d : Dbk} {time : Nat} {ps : List Pq} {us hit : List On} {ms : List Int} {told : List Int} (hd : d.ok w0 N) (hus : All2 (AheadR time d.k.r.sway) (d.k.os.filter jcB) us) (hml : ms.length = us.length)
  (hhi : All2 (HitR d.k.r time ps) (us.zip ms) hit) (hho : ∀ o ∈ hit, o.okD w0) (hc : hit.length <= 256) : NewOk w0 N ⟨hit, d.k.ck, d.k.next, told⟩ := by
 have hid : hit.map (fun o => o.t.id) = (d.k.os.filter jcB).map fun o => o.t.id := by
  rw [hhi.map_eq (f := fun z => z.1.t.id) (g := fun o => o.t.id) (fun z o h => congrArg Prod.fst (HitR.ent h)), zip_fst (fun o : On => o.t.id) hml.symm, hus.map_eq (f := fun o => o.t.id) (g := fun o => o.t.id) (fun _ _ h => congrArg Prod.fst h.ent)]
 have hsrc : ∀ o ∈ hit, ∃ v ∈ d.k.os, o.t.id = v.t.id /\ o.xs.length <= v.xs.length + 1 /\ o.ys.length <= v.ys.length + 1 /\ o.t.steps = v.t.steps + 1 := fun o ho => by
  obtain ⟨z, hz, t, h1, h2, h3, h4, h5, h6⟩ := hhi.right o ho
  obtain ⟨v, hv, hA⟩ := hus.right z.1 (List.of_mem_zip hz).1
  obtain ⟨x, y, _, _, hA⟩ := hA
  refine ⟨v, (List.mem_filter.1 hv).1, ?_, ?_, ?_, ?_⟩
  ·
   rw [h4]
   show t.id = v.t.id
   have e : z.1.t.id = v.t.id := by rw [hA]
   rw [<- e]
   split at h1
   ·
    obtain ⟨_, _, _, _, rfl⟩ := h1; rfl
   rw [h1]
  ·
   rw [h5, hA]; exact jhN _ _
  ·
   rw [h6, hA]; exact jhN _ _
  rw [h4]
  show t.steps + 1 = v.t.steps + 1
  have e : z.1.t.steps = v.t.steps := by rw [hA]
  rw [<- e]
  split at h1
  ·
   obtain ⟨_, _, _, _, rfl⟩ := h1; rfl
  rw [h1]
 refine ⟨hho, ?_, fun o ho => ?_, fun o ho => ?_, hc, hd.next1⟩
 ·
  show (hit.map fun o => o.t.id).Nodup
  rw [hid]
  exact hd.nd.sublist ((List.filter_sublist (p := jcB)).map _)
 ·
  obtain ⟨v, hv, e, _⟩ := hsrc o ho
  rw [e]; exact hd.low v hv
 obtain ⟨v, hv, _, e1, e2, e3⟩ := hsrc o ho
 have := hd.hist v hv
 rw [e3]; omega
theorem new_ok' {w0 : World} {N : Nat} {u : NS} {o : On} (h : NewOk w0 N u) (ho : o.okD w0) (hid : o.t.id = u.next) (hc : u.os.length + 1 <= 256) (hx : o.xs.length = 1) (hy : o.ys.length = 1) (hst : o.t.steps = 1) {told : List Int} : NewOk w0 N ⟨u.os ++ [o], u.ck + 1, u.next + 1, told⟩ := by
 refine ⟨fun v hv => ?_, ?_, fun v hv => ?_, fun v hv => ?_, by show (u.os ++ [o]).length <= 256; rw [List.length_append]; exact hc, by have := h.next1; show 1 <= u.next + 1; omega⟩
 ·
  rcases List.mem_append.1 hv with hv | hv
  ·
   exact h.each v hv
  rw [List.mem_singleton.1 hv]; exact ho
 ·
  show ((u.os ++ [o]).map fun o => o.t.id).Nodup
  rw [List.map_append, List.nodup_append]
  refine ⟨h.nd, by simp, fun a ha b hb => ?_⟩
  obtain ⟨v, hv, rfl⟩ := List.mem_map.1 ha
  simp only [List.map_cons, List.map_nil, List.mem_singleton] at hb
  have := (h.low v hv).2
  rw [hb, hid]; omega
 ·
  show 1 <= v.t.id /\ v.t.id < u.next + 1
  rcases List.mem_append.1 hv with hv | hv
  ·
   have := h.low v hv; omega
  rw [List.mem_singleton.1 hv, hid]
  have := h.next1; omega
 rcases List.mem_append.1 hv with hv | hv
 ·
  exact h.hist v hv
 rw [List.mem_singleton.1 hv, hx, hy, hst]; omega
theorem pts_ok : ∀ l : List Plt, All2 PtOk l (l.map dpt)
 | [] => .nil
 | p :: l => .cons (dpt_ok p) (pts_ok l)
structure DStepIn (w0 : World) (N n : Nat) (d : Dbk) (time : Nat) (a : Option Addr) (l : List Plt) (L : Bks) : Prop where
 book : d.ok w0 N
 N : N + 1 <= 4096
 own : Own w0 L
 pl : ∀ w' L', HS w0 w' L' -> Own w0 L' -> (∀ p ∈ L, p ∈ L') -> SlC w' a (pcs l)
 len : l.length = n
 len2 : n <= 1000000
 lt : ∀ i, i < n -> PltLt (l.getD i plt0)
 time : time < 18446744073709551616
 next : d.k.next + 256 <= 1000000
set_option maxHeartbeats 8000000 in
theorem dstep_ok (w0 w : World) (N n : Nat) (d : Dbk) (time : Nat) (a : Option Addr) (c : Nat) (l : List Plt) (L : Bks) (hs : HS w0 w (d.bks ++ L)) (hI : DStepIn w0 N n d time a l L) :
  Ret Tryz.prog 28 [bv d.B, .float .f64 time, .slice a n c] w fun v w' =>
   (jeZ d.k.last time l ≠ 0 /\ v = .tuple #[.slice none 0 0, .int .i64 (jeZ d.k.last time l)] /\ HS w0 w' (d.bks ++ L)) ∨
   (jeZ d.k.last time l = 0 /\ ∃ (d' : Dbk) (vt : Value) (Mt : Bks) (told : List Int) (os2 : List On) (ps : List Pq) (ms : List Int) (os3 : List On), v = .tuple #[vt, .int .i64 0] /\ HS w0 w' (d'.bks ++ L ++ Mt) /\ Bl w0 3 1 vt n (il told) Mt /\ told.length = n /\ d'.ok w0 (N + 1) /\ d'.B = d.B /\ StepTo d.k time l d'.k told os2 ps ms os3) := by
 have hd := hI.book
 have hn := hI.len
 have hn2 := hI.len2
 have hdB := hd.B
 have hcnt := hd.cnt
 have hbL := hd.bL
 obtain ⟨aL, cL, hvL, _⟩ := hbL.slice
 obtain ⟨A, hA⟩ : ∃ A, A = d.bks ++ L := ⟨_, rfl⟩
 rw [<- hA] at hs ⊢
 have hAo : Own w0 A := by rw [hA]; exact hd.own.app hI.own
 have hrow : d.row ∈ A := by rw [hA]; exact List.mem_append_left _ (List.mem_cons_self ..)
 have hLA : ∀ p ∈ L, p ∈ A := fun p hp => by rw [hA]; exact List.mem_append_right _ hp
 have hMLA : ∀ p ∈ d.ML, p ∈ A := fun p hp => by rw [hA]; exact List.mem_append_left _ (List.mem_cons_of_mem _ (List.mem_append_left _ hp))
 have hBr : ∀ {w' : World} {L' : Bks} {j : Nat} {v : Value}, HS w0 w' L' -> (∀ q ∈ A, q ∈ L') -> (jcA d.k.r d.vL d.la d.any d.k.next)[j]? = some v -> w'.cell? ((Addr.mk d.B 0 none).add j) = some v := fun h1 h2 h3 => jb6 h1 (h2 _ hrow) h3
 have hBc : ∀ {w' : World} {L' : Bks} {j : Nat} {v : Value}, HS w0 w' L' -> (∀ q ∈ A, q ∈ L') -> (jcA d.k.r d.vL d.la d.any d.k.next)[j]? = some v -> w'.cell? ⟨d.B, j, none⟩ = some v := fun h1 h2 h3 => Lk.cell_of_row (h1.has _ (h2 _ hrow)) h3
 have hLs : ∀ {w' : World} {L' : Bks}, HS w0 w' L' -> (∀ q ∈ A, q ∈ L') -> SlC w' aL (ocs d.k.os) := fun h1 h2 => Bl.slcM (hvL ▸ hbL) h1 (fun p hp => h2 p (hMLA p hp))
 obtain ⟨er, her⟩ : ∃ er, er = jeZ d.k.last time l := ⟨_, rfl⟩
 rw [<- her]
 refine ja7 Tryz.func28 rfl rfl rfl (Wq (La rfl (La rfl (Rq (Lmm rfl rfl (Lm rfl (Lc f_49 rfl (rrefused_ok d.B time d.la d.k.last d.any a n c l w (hBc hs (fun _ h => h) rfl) (hBc hs (fun _ h => h) rfl) hd.any hI.time (hI.pl w _ hs hAo hLA) hn hn2 hI.lt) ?_)))))))
 rintro _ w1 ⟨rfl, hs'⟩
 replace hs := hs.nil hs'
 clear hs'
 rw [<- her]
 by_cases he : er = 0
 ·
  subst he
  obtain ⟨hn256, hfin⟩ := ref_fin her.symm
  refine La rfl (Rqq (Lm rfl (jk7 rfl (jaA (by omega)) ?_)))
  refine Rt (Wf rfl (Ws (Wq (La rfl (Rqq (La rfl (Rt (ja4 (jcK (fun (lb : VB) (us : List On) (i : Nat) (w : World) => [(0, bv d.B), (1, .float .f64 time), (2, .slice a n c), (9, lb.v), (10, .int .i64 i)]) (fun lb us i w => w) (fun lb us i w => (i <= d.k.os.length) /\ (All2 (AheadR time d.k.r.sway) ((d.k.os.take i).filter jcB) us) /\ (Bl w0 103 17 lb.v us.length (ocs us) lb.M) /\ (HS w0 w (A ++ lb.M))) (fun lb us i w => d.k.os.length - i) (⟨.slice none 0 0, []⟩) ([]) (0) (_) (is := [0, 1, 2, 9, 10]) rfl rfl ?_ ?_)))))))))
  ·
   exact ⟨Nat.zero_le _, .nil, .nil, by rw [List.append_nil]; exact hs⟩
  clear hs
  intro lb us i w hI
  show W _ _ _ _ [(0, bv d.B), (1, .float .f64 time), (2, .slice a n c), (9, lb.v), (10, .int .i64 i)] w
  obtain ⟨hi, hus, hbl, hs⟩ := hI
  have hAm : ∀ {R : Bks}, ∀ q ∈ A, q ∈ A ++ R := fun q hq => List.mem_append_left _ hq
  by_cases hlt : i < d.k.os.length
  ·
   obtain ⟨o, hoe⟩ : ∃ o, o = d.k.os.getD i on0 := ⟨_, rfl⟩
   have ho : o ∈ d.k.os := by rw [hoe]; exact jc6 hlt
   have hoi : d.k.os[i]? = some o := by rw [hoe, List.getD_eq_getElem?_getD, List.getElem?_eq_getElem hlt]; rfl
   have hok := hd.each o ho
   have haoL : aL = some (aD aL) := (hLs hs hAm).ao (by rw [jd6]; omega)
   have hsnoc : d.k.os.take (i + 1) = d.k.os.take i ++ [o] := jcX hoi
   refine Wqq (Lmm rfl rfl (Ln rfl (Lf 6 jeK rfl jq7 ?_)))
   refine Ll o_68 rfl (by exact hBr hs hAm (j := 6) (by rw [hvL]; rfl)) ?_
   refine Le jhS rfl (jaZ rfl (jaF (by omega)) ?_)
   refine Rt (Wt rfl (Ws (Wsq (ja4 (Wq (Lm rfl (Ln rfl (Lf 6 jeK rfl jq7 ?_))))))))
   refine Ll o_68 rfl (by exact hBr hs hAm (j := 6) (by rw [hvL]; rfl)) ?_
   refine Lm rfl (LiN jhS je3 rfl (ja6 _) (by omega) haoL ?_)
   refine jb7 rfl a_103 je3 rfl (by exact (show jbF _ ((aD aL).add (i * 17)) o.cells by rw [hoe]; exact oc_at (hLs hs hAm) hlt)) ?_
   refine jbL rfl hs je3 ?_; intro b11 w hb11 _ hs; replace hs := HS.push hs
   refine jaQ hs (i := 0) rfl je3 rfl rfl (by rfl) (by simp [On.cells]) (by exact hok.one) ?_
   intro w hs
   dsimp only [sS, sZ, sA, sN] at hs
   refine Rt (Wsq (Wsq ?_))
   replace hs : HS w0 w ((b11, Row 103 o.cells) :: (A ++ lb.M)) := hs
   by_cases hkd : o.t.kind = 2
   ·
    refine Wr (Lf 0 jc9 rfl jcE (Lf 1 jcC rfl jmS (Ll o_46 rfl (by exact hs.cellA (i := 0) (j := 1) rfl rfl) ?_)))
    refine jdS rfl (jaF (by omega)) ?_
    refine Rt (Wt rfl (jaK (ja0 (ja1 (Nt (Wr (Lm rfl (jbG rfl (ja3 (by omega)) ?_))))))))
    refine La rfl (Rnl (Nq (lb, us, i + 1, _) [0, 1, 2, 9, 10] rfl ?_ ?_))
    ·
     dsimp only
     refine ⟨by omega, ?_, hbl, HS.pop hs hb11⟩
     rw [hsnoc, List.filter_append, show [o].filter jcB = [] from by rw [List.filter_cons_of_neg (by unfold jcB; rw [hkd]; decide)]; rfl, List.append_nil]
     exact hus
    show d.k.os.length - (i + 1) < d.k.os.length - i; omega
   have hav : jcB o = true := by unfold jcB; rw [decide_eq_false hkd]; rfl
   refine Wr (Lf 0 jc9 rfl jcE (Lf 1 jcC rfl jmS (Ll o_46 rfl (by exact hs.cellA (i := 0) (j := 1) rfl rfl) ?_)))
   refine jdS rfl (jaA (by omega)) ?_
   refine Rt (Wf rfl ?_)
   have hm1 : ∀ {x : Nat × Obj} {R : Bks}, ∀ q ∈ A, q ∈ (x :: (A ++ lb.M)) ++ R := fun q hq => List.mem_append_left _ (List.mem_cons_of_mem _ (List.mem_append_left _ hq))
   refine Ws (Wsq (jqD Tryz.mixed ?_))
   replace hs := hs.drewN 1
   refine jbR [0, 1, 3, 4, 5, 8, 9, 10, 11] [2, 6, 7, 12, 13, 14, 15] [16] (jmZ SPD) (g' := 0) (by kernel_rfl) (by kernel_rfl) (fun _ _ _ _ _ h => h) hs ?_
   refine Pfa 0 jc9 rfl jcE (Pfa 2 jcC rfl jbP (Pm rfl (Pfa 0 jc9 rfl jcE (Pfa 14 jcC rfl jaS (Pm rfl (Pn rfl (Pfa 0 jeK rfl jfP (Pfa 1 jbM rfl jaS (jd0 ?_)))))))))
   refine jaP rfl (fun w R hR hs => jcL jfY jbP rfl (by (rw [jaR]; exact jaX (n := 5) (cs := o.t.x.cells) (hs.get (i := 0) rfl) rfl))) ?_
   refine jaP rfl (fun w R hR hs => jaN jb5 rfl (by exact hs.cellA (i := 0) (j := 14) rfl rfl)) ?_
   refine jbV rfl (op := .sub) rfl rfl rfl ?_
   intro r63 hr63
   refine jaP rfl (fun w R hR hs => jaN jb5 rfl (by (rw [jaR]; exact hBr hs hm1 (j := 1) rfl))) ?_
   refine jc5 rfl f_50 rfl (fun w R hR hs => raheadH hs o.t.x r63 d.k.r.sway) ?_
   rintro _ hd1
   obtain ⟨xb, rfl, hxb⟩ := hd1 _ rfl
   refine jaP rfl (fun w R hR hs => jbA (off := 0) jc9 rfl rfl jcE rfl) ?_
   refine jaP rfl (fun w R hR hs => jbA (off := 2) jcC rfl rfl jbP rfl) ?_
   refine jcU ?_
   intro w hs
   refine jaQ hs (i := 0) rfl jbP rfl rfl (show _ = Addr.mk b11 2 none from rfl) (by simp [On.cells, Stt.cells]) (Stt.one _) ?_; intro w hs
   refine jg5 (jdW (by kernel_rfl) ?_)
   refine Nt (Wsq ?_)
   replace hs : HS w0 w ((b11, Row 103 (On.cells { o with t := { o.t with x := xb } })) :: (A ++ lb.M)) := by
    first
     | exact hs
     | (have := hs; simp only [List.append_nil] at this; exact this)
   have het1 : cn r63 = cn (fop .sub time o.t.last) := (Fs.cn hr63).trans (jaL ..).symm
   clear hr63
   refine jqD Tryz.mixed ?_
   replace hs := hs.drewN 1
   refine jbR [0, 1, 3, 4, 5, 8, 9, 10, 11] [2, 6, 7, 12, 13, 14, 15] [16] (jmZ SPD) (g' := 0) (by kernel_rfl) (by kernel_rfl) (fun _ _ _ _ _ h => h) hs ?_
   refine Pfa 0 jc9 rfl jcE (Pfa 7 jcC rfl jbP (Pm rfl (Pfa 0 jc9 rfl jcE (Pfa 14 jcC rfl jaS (Pm rfl (Pn rfl (Pfa 0 jeK rfl jfP (Pfa 1 jbM rfl jaS (jd0 ?_)))))))))
   refine jaP rfl (fun w R hR hs => jcL jfY jbP rfl (by (rw [jaR]; exact jaX (n := 5) (cs := o.t.y.cells) (hs.get (i := 0) rfl) rfl))) ?_
   refine jaP rfl (fun w R hR hs => jaN jb5 rfl (by exact hs.cellA (i := 0) (j := 14) rfl rfl)) ?_
   refine jbV rfl (op := .sub) rfl rfl rfl ?_
   intro r79 hr79
   refine jaP rfl (fun w R hR hs => jaN jb5 rfl (by (rw [jaR]; exact hBr hs hm1 (j := 1) rfl))) ?_
   refine jc5 rfl f_50 rfl (fun w R hR hs => raheadH hs o.t.y r79 d.k.r.sway) ?_
   rintro _ hd1
   obtain ⟨yb, rfl, hyb⟩ := hd1 _ rfl
   refine jaP rfl (fun w R hR hs => jbA (off := 0) jc9 rfl rfl jcE rfl) ?_
   refine jaP rfl (fun w R hR hs => jbA (off := 7) jcC rfl rfl jbP rfl) ?_
   refine jcU ?_
   intro w hs
   refine jaQ hs (i := 0) rfl jbP rfl rfl (show _ = Addr.mk b11 7 none from rfl) (by simp [On.cells, Stt.cells]) (Stt.one _) ?_; intro w hs
   refine jg5 (jdW (by kernel_rfl) ?_)
   refine Nt (Wr ?_)
   obtain ⟨u, hu⟩ : ∃ u : On, u = { o with t := { o.t with x := xb, y := yb } } := ⟨_, rfl⟩
   replace hs : HS w0 w ((b11, Row 103 u.cells) :: (A ++ lb.M)) := by
    rw [hu]
    first
     | exact hs
     | (have := hs; simp only [List.append_nil] at this; exact this)
   have het2 : cn r79 = cn (fop .sub time o.t.last) := (Fs.cn hr79).trans (jaL ..).symm
   clear hr79
   have hAu : AheadR time d.k.r.sway o u := ⟨xb, yb, hxb.trans (jd3 rfl het1), hyb.trans (jd3 rfl het2), hu⟩
   have huk : u.okD w0 := by rw [hu]; exact ⟨hok.bx, hok.by', hok.seen, hok.kind, hok.lx, hok.ly⟩
   refine Lm rfl (jb7 rfl a_103 je3 rfl (by exact jaE (cs := u.cells) (hs.get (i := 0) rfl)) ?_)
   refine jb4 rfl hs jhS je3 rfl (by decide) rfl (by simp [Value.cells, On.cells]) ?_
   intro b90 w hb90 hnb90 hs
   have h0 : HS w0 w ((((b11, Row 103 u.cells) :: A) ++ lb.M) ++ [(b90, Row 103 u.cells)]) := by
    have := hs
    simp only [List.flatMap_cons, List.flatMap_nil, List.append_nil] at this
    exact this
   clear hs
   have hs := h0
   clear h0
   have hul := hus.len
   have hul2 : us.length <= 256 := by
    rw [hul]; exact Nat.le_trans (List.length_filter_le ..) (Nat.le_trans (List.length_take_le ..) (by omega))
   refine jb8 (L := (b11, Row 103 u.cells) :: A) rfl jhS je3 rfl hs hb90 hbl rfl rfl rfl huk.one (by omega) (by omega) ?_
   intro v' w M' hs hbl'
   refine La rfl (Rnl (jaB (Nt (Wr (Lm rfl (jbG rfl (ja3 (by omega)) ?_))))))
   refine La rfl (Rnl (Nq (⟨v', M'⟩, us ++ [u], i + 1, _) [0, 1, 2, 9, 10] rfl ?_ ?_))
   ·
    dsimp only
    refine ⟨by omega, ?_, ?_, HS.pop hs hb11⟩
    ·
     rw [hsnoc, List.filter_append, show [o].filter jcB = [o] from by rw [List.filter_cons_of_pos hav]; rfl]
     exact hus.snoc hAu
    show Bl w0 103 17 v' (us ++ [u]).length (ocs (us ++ [u])) M'
    rw [List.length_append, jk2, ocs_one]
    exact hbl'
   show d.k.os.length - (i + 1) < d.k.os.length - i; omega
  obtain rfl : d.k.os.length = i := by omega
  rw [List.take_length] at hus
  obtain ⟨lv, lM⟩ := lb
  have hbl : Bl w0 103 17 lv us.length (ocs us) lM := hbl
  have hul := hus.len
  have hul2 : us.length <= 256 := by rw [hul]; exact Nat.le_trans (List.length_filter_le ..) hcnt
  have husk : ∀ u ∈ us, u.okD w0 := fun u hu => by
   obtain ⟨j, hj, rfl⟩ := List.getElem_of_mem hu
   have h1 := hus.at (i := j) (da := on0) (db := on0) (by omega)
   have h2 : (d.k.os.filter jcB).getD j on0 ∈ d.k.os := (List.mem_filter.1 (jc6 (by omega))).1
   have h3 := hd.each _ h2
   rw [List.getD_eq_getElem?_getD (l := us), List.getElem?_eq_getElem hj] at h1
   obtain ⟨x, y, _, _, h4⟩ := h1
   have h5 : us[j] = _ := h4
   rw [h5]
   exact ⟨h3.bx, h3.by', h3.seen, h3.kind, h3.lx, h3.ly⟩
  have hob : obx us = obx (d.k.os.filter jcB) := ahead_obx hus
  obtain ⟨Z0, hZ0⟩ : ∃ Z0, Z0 = d.row :: (d.ML ++ L) := ⟨_, rfl⟩
  have hs1 : HS w0 w (obx us ++ (lM ++ Z0)) := by
   rw [hA] at hs
   have h1 : HS w0 w (obx d.k.os ++ (lM ++ Z0)) := by rw [hZ0]; exact HS.re hs (fun c => by simp only [mpA, mpC, mpN, smA, smC, smN]; omega)
   rw [hob]
   exact HS.aliveD h1 hd.each
  clear hs
  have hs := hs1
  clear hs1 hAm
  have hrowZ : d.row ∈ Z0 := by rw [hZ0]; exact List.mem_cons_self ..
  have hLZ : ∀ p ∈ L, p ∈ Z0 := fun p hp => by rw [hZ0]; exact List.mem_cons_of_mem _ (List.mem_append_right _ hp)
  have hZ0o : Own w0 Z0 := by rw [hZ0]; exact Own.cons hdB (hbL.own.app hI.own)
  have hBz : ∀ {w' : World} {L' : Bks} {j : Nat} {v : Value}, HS w0 w' L' -> (∀ q ∈ Z0, q ∈ L') -> (jcA d.k.r d.vL d.la d.any d.k.next)[j]? = some v -> w'.cell? ((Addr.mk d.B 0 none).add j) = some v := fun h1 h2 h3 => jb6 h1 (h2 _ hrowZ) h3
  have hBzc : ∀ {w' : World} {L' : Bks} {j : Nat} {v : Value}, HS w0 w' L' -> (∀ q ∈ Z0, q ∈ L') -> (jcA d.k.r d.vL d.la d.any d.k.next)[j]? = some v -> w'.cell? ⟨d.B, j, none⟩ = some v := fun h1 h2 h3 => Lk.cell_of_row (h1.has _ (h2 _ hrowZ)) h3
  clear hBr hBc hrow hLA hMLA hAo hLs hA
  obtain ⟨al, cl, rfl, _⟩ := hbl.slice
  obtain ⟨m, hm⟩ : ∃ m, m = us.length := ⟨_, rfl⟩
  rw [<- hm] at hbl hul2 ⊢
  obtain ⟨Y, hY⟩ : ∃ Y, Y = obx us ++ (lM ++ Z0) := ⟨_, rfl⟩
  rw [<- hY] at hs
  have hYo : Own w0 Y := by rw [hY]; exact (jnT husk).app (hbl.own.app hZ0o)
  have hZY : ∀ q ∈ Z0, q ∈ Y := fun q hq => by rw [hY]; exact List.mem_append_right _ (List.mem_append_right _ hq)
  have hlY : ∀ q ∈ lM, q ∈ Y := fun q hq => by rw [hY]; exact List.mem_append_right _ (List.mem_append_left _ hq)
  have hUs : ∀ {w' : World} {L' : Bks}, HS w0 w' L' -> (∀ q ∈ Y, q ∈ L') -> SlC w' al (ocs us) := fun h1 h2 => Bl.slcM hbl h1 (fun p hp => h2 p (hlY p hp))
  have hPs : ∀ {w' : World} {L' : Bks}, HS w0 w' L' -> Own w0 L' -> (∀ q ∈ Y, q ∈ L') -> SlC w' a (pcs l) := fun h1 h2 h3 => hI.pl _ _ h1 h2 (fun p hp => h3 p (hZY p (hLZ p hp)))
  obtain ⟨ps, hps⟩ : ∃ ps, ps = l.map dpt := ⟨_, rfl⟩
  have hpsl : ps.length = n := by rw [hps, List.length_map, hn]
  have hpt : ∀ i, i < n -> ps.getD i pq0 = dpt (l.getD i plt0) := fun i hi => by
   rw [hps, List.getD_eq_getElem?_getD, List.getElem?_map, List.getD_eq_getElem?_getD, List.getElem?_eq_getElem (by omega)]; rfl
  have hn256' : n <= 256 := by omega
  refine Wqq (Lmm rfl rfl (Ln rfl (Lf 6 jeK rfl jq7 ?_)))
  refine Ll o_68 rfl (by exact hBz hs hZY (j := 6) (by rw [hvL]; rfl)) ?_
  refine Le jhS rfl (jaZ rfl (jaA (by omega)) ?_)
  refine Rt (Wf rfl (jaK (ja0 (ja8 (ja1 (Nt (Wq (La rfl (Rt (Wsq (Wsq (Wr (La rfl (Rt (ja4 ?_)))))))))))))))
  refine jcK (fun (cb : VB) (rr : List RR) (i : Nat) (w : World) => [(0, bv d.B), (1, .float .f64 time), (2, .slice a n c), (9, .slice al m cl), (12, cb.v), (13, .int .i64 i)]) (fun cb rr i w => w) (fun cb rr i w => (i <= m) /\ (rr.map RR.xs = jbX d.k.r ps (us.take i)) /\ (∀ z ∈ rr, z.ok w0) /\ (Bl w0 88 1 cb.v i (rvs rr) cb.M) /\ (HS w0 w (Y ++ (rbs rr ++ cb.M)))) (fun cb rr i w => m - i) (⟨.slice none 0 0, []⟩) ([]) (0) (_) (is := [0, 1, 2, 9, 12, 13]) rfl rfl ?_ ?_
  ·
   exact ⟨Nat.zero_le _, rfl, fun z hz => (by cases hz), .nil, by show HS w0 _ (Y ++ []); rw [List.append_nil]; exact hs⟩
  clear hs
  intro cb rr i w hI
  show W _ _ _ _ [(0, bv d.B), (1, .float .f64 time), (2, .slice a n c), (9, .slice al m cl), (12, cb.v), (13, .int .i64 i)] w
  obtain ⟨hi, hrx, hro, hbc, hs⟩ := hI
  by_cases hlt : i < m
  ·
   obtain ⟨u, hue⟩ : ∃ u, u = us.getD i on0 := ⟨_, rfl⟩
   have hui : us[i]? = some u := by rw [hue, List.getD_eq_getElem?_getD, List.getElem?_eq_getElem (by omega)]; rfl
   obtain ⟨C, hC⟩ : ∃ C, C = Y ++ (rbs rr ++ cb.M) := ⟨_, rfl⟩
   rw [<- hC] at hs
   have hCo : Own w0 C := by rw [hC]; exact hYo.app ((rbs_own hro).app hbc.own)
   have hYC : ∀ q ∈ Y, q ∈ C := fun q hq => by rw [hC]; exact List.mem_append_left _ hq
   refine Wqq (Lmm rfl rfl (Le jhS rfl (jaZ rfl (jaF (by omega)) ?_)))
   refine Rt (Wt rfl (Ws (Wsq (ja4 (Wq (La rfl (Rqq (La rfl (Rt (ja4 (jcT (fun (rb : VB) (j : Nat) (w : World) => [(0, bv d.B), (1, .float .f64 time), (2, .slice a n c), (9, .slice al m cl), (12, cb.v), (13, .int .i64 i), (14, rb.v), (15, .int .i64 j)]) (fun rb j w => w) (fun rb j w => (j <= n) /\ (Bl w0 2 1 rb.v j (il (jc2 d.k.r (ps.take j) u)) rb.M) /\ (HS w0 w (C ++ rb.M))) (fun rb j w => n - j) (⟨.slice none 0 0, []⟩) (0) (_) (is := [0, 1, 2, 9, 12, 13, 14, 15]) rfl rfl ?_ ?_)))))))))))
   ·
    exact ⟨Nat.zero_le _, .nil, by show HS w0 _ (C ++ []); rw [List.append_nil]; exact hs⟩
   clear hs
   intro rb j w hI
   show W _ _ _ _ [(0, bv d.B), (1, .float .f64 time), (2, .slice a n c), (9, .slice al m cl), (12, cb.v), (13, .int .i64 i), (14, rb.v), (15, .int .i64 j)] w
   obtain ⟨hj, hbr, hs⟩ := hI
   have hCr : Own w0 (C ++ rb.M) := hCo.app hbr.own
   have hYr : ∀ {R : Bks}, ∀ q ∈ Y, q ∈ (C ++ rb.M) ++ R := fun q hq => List.mem_append_left _ (List.mem_append_left _ (hYC q hq))
   have hYr0 : ∀ q ∈ Y, q ∈ C ++ rb.M := fun q hq => List.mem_append_left _ (hYC q hq)
   by_cases hlt2 : j < n
   ·
    obtain ⟨p, hp⟩ : ∃ p, p = l.getD j plt0 := ⟨_, rfl⟩
    have hpl : PltLt p := by rw [hp]; exact hI.lt j hlt2
    have hpf : jgW p = true := hfin _ (by rw [hp]; exact jc6 (by omega))
    have haoU : al = some (aD al) := (hUs hs hYr0).ao (by rw [jd6]; omega)
    have haoP : a = some (aD a) := (hPs hs hCr hYr0).ao (by rw [jf1]; omega)
    have hrow : jc2 d.k.r (ps.take (j + 1)) u = jc2 d.k.r (ps.take j) u ++ [jdV d.k.r.noise d.k.r.gate u.t.x u.t.y (dpt p).x (dpt p).y] := by
     unfold jc2
     rw [jcX (j := j) (x := dpt p) (by rw [hp, <- hpt j hlt2, List.getD_eq_getElem?_getD, List.getElem?_eq_getElem (by omega)]; rfl), List.map_append]; rfl
    refine Wqq (Lmm rfl rfl (Le jeA rfl (jaZ rfl (jaF (by omega)) ?_)))
    refine Rt (Wt rfl (Ws (Wsq (ja4 (Wsq (jqD Tryz.mixed ?_))))))
    replace hs := hs.drewN 1
    refine jbR [0, 1, 2, 3, 4, 6, 7, 8] [5, 9, 10, 11, 12] [] (jmZ (SPT d.B d.k.r.noise d.k.r.gate)) (g' := 0) (by kernel_rfl) (by kernel_rfl) (fun _ _ _ _ _ h => h) hs ?_
    refine Pm rfl (Pm rfl (Pm rfl (Pv rfl (fun w => jfZ jhS je3 rfl rfl (ja6 _) (by omega) haoU) ?_)))
    refine Pfa 0 jc9 rfl jcE (Pm rfl (Pm rfl (Pv rfl (fun w => jfZ jeA jg7 rfl rfl (ja6 _) (by omega) haoP) ?_)))
    refine jd0 ?_
    refine jaP rfl (fun w R hR hs => jcL a_51 jcE rfl (by (rw [jaR]; exact on_trk (hUs hs hYr) (i := i) (show i < us.length by omega) hue))) ?_
    refine jaP rfl (fun w R hR hs => jcL a_42 jg7 rfl (by exact (show jbF _ ((aD a).add (j * 5)) p.cells by rw [hp]; exact plt_at (hPs hs (hCr.app hR) hYr) (by omega)))) ?_
    refine jc5 rfl f_52 rfl (fun w R hR hs => dpointH hs d.B d.k.r.noise d.k.r.gate p hpl hpf) ?_
    rintro _ hd1
    obtain rfl := hd1 p rfl hpl hpf
    obtain ⟨ct, hct⟩ : ∃ ct, ct = jdV d.k.r.noise d.k.r.gate u.t.x u.t.y (dpt p).x (dpt p).y := ⟨_, rfl⟩
    refine jc5 rfl f_51 rfl (fun w R hR hs => rcostH hs d.B d.k.r.noise d.k.r.gate (jcA d.k.r d.vL d.la d.any d.k.next) u.t (dpt p) hd.rul.gate (hYr _ (hZY _ hrowZ)) rfl rfl) ?_
    rintro _ hd1
    obtain rfl := hd1 u.t (dpt p) rfl rfl
    rw [<- hct] at hrow ⊢
    refine jaP rfl (fun w R hR hs => jbS rfl) ?_
    refine jcU ?_
    intro w hs
    refine jg5 (jdW (by kernel_rfl) ?_)
    refine Nt (Wr (Lmm rfl rfl (jb0 rfl hs jbK i_2 rfl (by decide) rfl rfl ?_)))
    intro b118 w hb118 hnb118 hs
    simp only [List.map_cons, List.map_nil] at hs
    have h0 : HS w0 w ((C ++ rb.M) ++ [(b118, Row 2 [.int .i64 ct])]) := by
     first
      | exact hs
      | (have := hs; simp only [List.append_nil] at this; exact this)
    clear hs
    have hs := h0
    clear h0
    refine jb8 (L := C) rfl jbK i_2 rfl hs hb118 hbr rfl rfl rfl (by simp [Value.oneCell']) (by omega) (by omega) ?_
    intro v' w M' hs hbr'
    refine La rfl (Rnl (jaB (Nt (Wr (Lm rfl (jbG rfl (ja3 (by omega)) ?_))))))
    refine La rfl (Rnl (Nq (⟨v', M'⟩, j + 1, _) [0, 1, 2, 9, 12, 13, 14, 15] rfl ?_ ?_))
    ·
     dsimp only
     refine ⟨by omega, ?_, hs⟩
     rw [hrow, <- jeD]
     exact hbr'
    show n - (j + 1) < n - j; omega
   obtain rfl : n = j := by omega
   rw [show ps.take n = ps by rw [<- hpsl, List.take_length]] at hbr
   obtain ⟨rv, rM⟩ := rb
   obtain ⟨ab, cbb, hbv, _⟩ := hbr.slice
   obtain rfl : rv = .slice ab n cbb := hbv
   refine Wqq (Lmm rfl rfl (Le jeA rfl (jaZ rfl (jaA (by omega)) ?_)))
   refine Rt (Wf rfl (jaK (ja0 (ja8 (ja1 (Nt (Wr (Lmm rfl rfl (jb0 rfl hs jd4 jd1 rfl (by decide) rfl rfl ?_)))))))))
   intro b122 w hb122 hnb122 hs
   simp only [List.map_cons, List.map_nil] at hs
   have h0 : HS w0 w (((Y ++ (rbs rr ++ rM)) ++ cb.M) ++ [(b122, Row 88 [(.slice ab n cbb)])]) := by
    have h1 : HS w0 w ((C ++ rM) ++ [(b122, Row 88 [(.slice ab n cbb)])]) := hs
    rw [hC] at h1
    exact HS.re h1 (fun c => by simp only [mpA, mpC, mpN, smA, smC, smN]; omega)
   clear hs
   have hs := h0
   clear h0
   refine jb8 (L := Y ++ (rbs rr ++ rM)) rfl jd4 jd1 rfl hs hb122 hbc rfl rfl rfl (fun x hx => by rw [List.mem_singleton.1 hx]; rfl) (by omega) (by omega) ?_
   intro vc' w Mc' hs hbc'
   refine La rfl (Rnl (jaB (Nt (Wr (Lm rfl (jbG rfl (ja3 (by omega)) ?_))))))
   refine La rfl (Rnl (Nq (⟨vc', Mc'⟩, rr ++ [⟨jc2 d.k.r ps u, (.slice ab n cbb), rM⟩], i + 1, _) [0, 1, 2, 9, 12, 13] rfl ?_ ?_))
   ·
    dsimp only
    refine ⟨by omega, ?_, fun z hz => ?_, ?_, ?_⟩
    ·
     rw [List.map_append, hrx, jcX hui]; unfold jbX; rw [List.map_append]; rfl
    ·
     rcases List.mem_append.1 hz with hz | hz
     ·
      exact hro z hz
     rw [List.mem_singleton.1 hz]
     show Bl w0 2 1 (.slice ab n cbb) (jc2 d.k.r ps u).length (il (jc2 d.k.r ps u)) rM
     rw [show (jc2 d.k.r ps u).length = n by unfold jc2; rw [List.length_map, hpsl]]
     exact hbr
    ·
     show Bl w0 88 1 vc' (i + 1) (rvs (rr ++ [⟨jc2 d.k.r ps u, (.slice ab n cbb), rM⟩])) Mc'
     rw [show rvs (rr ++ [⟨jc2 d.k.r ps u, (.slice ab n cbb), rM⟩]) = rvs rr ++ [(.slice ab n cbb)] by unfold rvs; rw [List.map_append]; rfl]
     exact hbc'
    have e2 : rbs (rr ++ [⟨jc2 d.k.r ps u, (.slice ab n cbb), rM⟩]) = rbs rr ++ rM := by unfold rbs; rw [List.flatMap_append]; simp
    rw [e2]
    exact HS.re hs (fun c => by simp only [mpA, mpC, mpN, smA, smC, smN]; omega)
   show m - (i + 1) < m - i; omega
  obtain rfl : m = i := by omega
  rw [show us.take m = us by rw [hm, List.take_length]] at hrx
  obtain ⟨cv, cM⟩ := cb
  obtain ⟨ac, cc, hcv, _⟩ := hbc.slice
  obtain rfl : cv = .slice ac m cc := hcv
  refine Wqq (Lmm rfl rfl (Le jhS rfl (jaZ rfl (jaA (by omega)) ?_)))
  refine Rt (Wf rfl (jaK (ja0 (ja8 (ja1 (Nt (Wq (Lm rfl ?_))))))))
  have hrI : RowsI w ac (rr.map RR.xs) (rvs rr) :=
   rowsI_sl (n := 256) hs (Bl.slcM hbc hs (fun p hp => List.mem_append_right _ (List.mem_append_right _ hp))) hro (fun p hp => List.mem_append_right _ (List.mem_append_left _ hp)) (fun z hz => by
    have h1 : z.xs ∈ jbX d.k.r ps us := by rw [<- hrx]; exact List.mem_map.2 ⟨z, hz, rfl⟩
    have h2 := je0 _ h1
    omega) (by decide)
  rw [hrx] at hrI
  refine Lc f_53 rfl (rmost_ok ac m cc (jbX d.k.r ps us) (rvs rr) w hrI (by rw [jdG, hm]) (by omega)) ?_
  rintro _ w1 ⟨vm, Nm, ms, cnt, tt, e0, rfl, hs', hbm, hans⟩
  obtain ⟨rfl, hml, hmr⟩ := jr3 hd.rul.gate (by omega) (by omega) hans
  have hs1 := hs.call hs' hbm.own
  replace hbm := hbm.mono hs.size
  clear hs hs' hrI
  have hs : HS w0 w1 (Y ++ Nm) := by
   have h1 : HS w0 w1 ((rbs rr ++ cM) ++ (Y ++ Nm)) := HS.re hs1 (fun c => by simp only [mpA, mpC, mpN, smA, smC, smN]; omega)
   exact HS.dropL h1 ((rbs_own hro).app hbc.own)
  clear hs1
  rw [hml, <- hm] at hbm
  obtain ⟨am, cm, rfl, _⟩ := hbm.slice
  obtain ⟨lf, hlf, hlfB, hlfR⟩ := Bl.fun17 hbl
  rw [hlf] at hY hlY
  have hmlen : us.length = m := hm.symm
  obtain ⟨Z3, hZ3⟩ : ∃ Z3, Z3 = Z0 ++ Nm := ⟨_, rfl⟩
  replace hs : HS w0 w1 (obx us ++ (lf us ++ Z3)) := by
   rw [hY] at hs
   rw [hZ3]
   exact HS.re hs (fun c => by simp only [mpA, mpC, mpN, smA, smC, smN]; omega)
  have hZ33 : ∀ q ∈ Z0, q ∈ Z3 := fun q hq => by rw [hZ3]; exact List.mem_append_left _ hq
  have hNZ3 : ∀ q ∈ Nm, q ∈ Z3 := fun q hq => by rw [hZ3]; exact List.mem_append_right _ hq
  have hZ3o : Own w0 Z3 := by rw [hZ3]; exact hZ0o.app hbm.own
  clear hUs hPs hlY hZY hYo hY
  have hPs : ∀ {w' : World} {L' : Bks}, HS w0 w' L' -> Own w0 L' -> (∀ q ∈ Z3, q ∈ L') -> SlC w' a (pcs l) := fun h1 h2 h3 => hI.pl _ _ h1 h2 (fun p hp => h3 p (hZ33 p (hLZ p hp)))
  refine Lm rfl (Lx rfl rfl (Lx rfl rfl (Lx rfl rfl (Lx rfl rfl (La rfl (La rfl (La rfl (La rfl (Rq (Lm rfl (Le jeA rfl (jdM rfl hs jbW i_3 rfl rfl rfl rfl (Nat.le_refl _) (by omega) (by omega) rfl ?_))))))))))))
  intro b133 w hb133 _ hs
  rw [jgV] at hs
  replace hs := HS.push hs
  have hzs : (us.zip ms).length = m := by rw [List.length_zip]; omega
  refine La rfl (Rqq (La rfl (Rt (ja4 ?_))))
  refine jcK (fun (hit : List On) (told : List Int) (i : Nat) (w : World) => [(0, bv d.B), (1, .float .f64 time), (2, .slice a n c), (9, .slice al m cl), (17, .slice am m cm), (21, .slice (some ⟨b133, 0, none⟩) n n), (22, .int .i64 i)]) (fun hit told i w => w) (fun hit told i w => (i <= m) /\ (All2 (HitR d.k.r time ps) ((us.zip ms).take i) hit) /\ (told = ((us.zip ms).take i).foldl jmT (List.replicate n 0)) /\ (∀ o ∈ hit, o.okD w0) /\ (HS w0 w ((b133, Row 3 (il told)) :: (obx (hit ++ us.drop i) ++ (lf (hit ++ us.drop i) ++ Z3))))) (fun hit told i w => m - i) ([]) ((List.replicate n 0)) (0) (_) (is := [0, 1, 2, 9, 17, 21, 22]) rfl rfl ?_ ?_
  ·
   exact ⟨Nat.zero_le _, .nil, rfl, fun o ho => (by cases ho), hs⟩
  clear hs
  intro hit told i w hI
  show W _ _ _ _ [(0, bv d.B), (1, .float .f64 time), (2, .slice a n c), (9, .slice al m cl), (17, .slice am m cm), (21, .slice (some ⟨b133, 0, none⟩) n n), (22, .int .i64 i)] w
  obtain ⟨hi, hhi, htl, hho, hs⟩ := hI
  have hhl := hhi.len
  rw [List.length_take, hzs, Nat.min_eq_left hi] at hhl
  have htlen : told.length = n := by rw [htl, jp2, List.length_replicate]
  by_cases hlt3 : i < m
  ·
   obtain ⟨o, hoe⟩ : ∃ o, o = us.getD i on0 := ⟨_, rfl⟩
   have ho : o ∈ us := by rw [hoe]; exact jc6 (by omega)
   have hok := husk o ho
   have hhist : o.xs.length <= N /\ o.ys.length <= N /\ 0 <= o.t.steps /\ o.t.steps <= N := by
    have h1 := hus.at (i := i) (da := on0) (db := on0) (by omega)
    rw [<- hoe] at h1
    have h2 : (d.k.os.filter jcB).getD i on0 ∈ d.k.os := (List.mem_filter.1 (jc6 (by omega))).1
    have h3 := hd.hist _ h2
    obtain ⟨x, y, _, _, h4⟩ := h1
    rw [h4]; exact h3
   have hal : jcB o = true := by
    have h1 := hus.at (i := i) (da := on0) (db := on0) (by omega)
    rw [<- hoe] at h1
    have h2 := (List.mem_filter.1 (jc6 (l := d.k.os.filter jcB) (i := i) (d := on0) (by omega))).2
    obtain ⟨x, y, _, _, h4⟩ := h1
    rw [h4]; exact h2
   have hdr : us.drop i = o :: us.drop (i + 1) := by
    rw [hoe, List.getD_eq_getElem?_getD, List.getElem?_eq_getElem (by omega), Option.getD_some, List.getElem_cons_drop]
   obtain ⟨g, sp, hal2, hlfe⟩ := hlfR (by omega)
   obtain ⟨X, hX⟩ : ∃ X, X = obx hit ++ (obx (us.drop (i + 1)) ++ Z3) := ⟨_, rfl⟩
   have hXZ : ∀ q ∈ Z3, q ∈ X := fun q hq => by rw [hX]; exact List.mem_append_right _ (List.mem_append_right _ hq)
   replace hs : HS w0 w ((b133, Row 3 (il told)) :: (g, Row 103 (ocs (hit ++ us.drop i) ++ sp)) :: (X ++ oM o)) := by
    have h1 : HS w0 w ((b133, Row 3 (il told)) :: ((obx hit ++ (oM o ++ obx (us.drop (i + 1)))) ++ ([(g, Row 103 (ocs (hit ++ us.drop i) ++ sp))] ++ Z3))) := by
     have e1 : obx (hit ++ us.drop i) = obx hit ++ (oM o ++ obx (us.drop (i + 1))) := by rw [hdr, jnU]; rfl
     rw [<- e1]
     have e2 : lf (hit ++ us.drop i) = [(g, Row 103 (ocs (hit ++ us.drop i) ++ sp))] := by rw [hlfe]
     rw [<- e2]; exact hs
    rw [hX]
    exact HS.re h1 (fun c => by simp only [mpA, mpC, mpN, smA, smC, smN]; omega)
   have hcur : (hit ++ us.drop i).getD i on0 = o := by
    rw [hdr, List.getD_eq_getElem?_getD, List.getElem?_append_right (by omega), show i - hit.length = 0 by omega]; rfl
   have hcl : (hit ++ us.drop i).length = m := by rw [List.length_append, List.length_drop]; omega
   have hsl : SlC w al (ocs (hit ++ us.drop i)) := by rw [hal2]; exact SlC.of_row (hs.get (i := 1) rfl)
   have haol := hsl.ao (by rw [jd6]; omega)
   refine Wqq (Lmm rfl rfl (Le jhS rfl (jaZ rfl (jaF (by omega)) ?_)))
   refine Rt (Wt rfl (Ws (Wsq (ja4 (Wq (Lmm rfl rfl (LiN jhS je3 rfl (ja6 _) (by omega) haol ?_)))))))
   refine jb7 rfl a_103 je3 rfl (by exact (show jbF _ ((aD al).add (i * 17)) o.cells by rw [<- hcur]; exact oc_at hsl (by omega))) ?_
   refine jbL rfl hs je3 ?_; intro b23 w hb23 _ hs; replace hs := HS.push hs
   refine jaQ hs (i := 0) rfl je3 rfl rfl (by rfl) (by simp [On.cells]) (by exact hok.one) ?_
   intro w hs
   dsimp only [sS, sZ, sA, sN] at hs
   refine Rt (Wsq ?_)
   replace hs : HS w0 w ((b23, Row 103 o.cells) :: (b133, Row 3 (il told)) :: (g, Row 103 (ocs (hit ++ us.drop i) ++ sp)) :: (X ++ oM o)) := hs
   clear hsl
   refine Wr (Lf 0 jc9 rfl jcE (Lf 12 jcC rfl i_49 (Ll o_49 rfl (by exact hs.cellA (i := 0) (j := 12) rfl rfl) ?_)))
   refine jaT rfl (R_shl rfl rfl (by omega) (shl16_ok _ hok.seen)) ?_
   refine Lf 0 jc9 rfl jcE (Lf 12 jcC rfl i_49 ?_)
   refine jaH hs (i := 0) rfl i_49 rfl rfl (show _ = Addr.mk b23 12 none from rfl) (by decide : (12 : Nat) < 17) rfl ?_; intro w hs
   refine Rt (Wsq ?_)
   obtain ⟨t0, ht0⟩ : ∃ t0 : Trk, t0 = { o.t with seen := jcF o.t.seen } := ⟨_, rfl⟩
   obtain ⟨o0, ho0⟩ : ∃ o0 : On, o0 = { o with t := t0 } := ⟨_, rfl⟩
   replace hs : HS w0 w ((b23, Row 103 o0.cells) :: (b133, Row 3 (il told)) :: (g, Row 103 (ocs (hit ++ us.drop i) ++ sp)) :: (X ++ oM o)) := by rw [ho0, ht0]; exact hs
   have ht0x : t0.x = o.t.x := by rw [ht0]
   have ht0y : t0.y = o.t.y := by rw [ht0]
   have ht0s : t0.seen = jcF o.t.seen := by rw [ht0]
   have ho0t : o0.t = t0 := by rw [ho0]
   obtain ⟨mi, hmi⟩ : ∃ mi, mi = ms.getD i 0 := ⟨_, rfl⟩
   have hmi1 : ms[i]? = some mi := by rw [hmi, List.getD_eq_getElem?_getD, List.getElem?_eq_getElem (by omega)]; rfl
   have hmiR := hmr mi (List.mem_of_getElem? hmi1)
   rw [hpsl] at hmiR
   obtain ⟨V, hV⟩ : ∃ V, V = (g, Row 103 (ocs (hit ++ us.drop i) ++ sp)) :: (X ++ oM o) := ⟨_, rfl⟩
   rw [<- hV] at hs
   have hXV : ∀ q ∈ Z3, q ∈ V := fun q hq => by rw [hV]; exact List.mem_cons_of_mem _ (List.mem_append_left _ (hXZ q hq))
   have hg0 : w0.heap.size <= g := by
    have := (hlfB us hmlen).own
    rw [hlfe] at this
    exact this _ (List.mem_cons_self ..)
   have hXo : Own w0 X := by
    rw [hX]
    exact (jnT hho).app ((jnT (fun u hu => husk u (List.mem_of_mem_drop hu))).app hZ3o)
   have hVo : Own w0 V := by rw [hV]; exact Own.cons hg0 (hXo.app hok.own)
   have hsm : SlC w am (il ms) := Bl.slcM hbm hs (fun p hp => List.mem_cons_of_mem _ (List.mem_cons_of_mem _ (hXV _ (hNZ3 p hp))))
   have ham := hsm.ao (by rw [il_length]; omega)
   refine Wr (Lmm rfl rfl (Li jbW i_3 rfl (ja6 _) (by omega) ham ?_))
   refine Ll o_3 rfl (by exact (hsm.2 i _ (by unfold il; rw [List.getElem?_map, hmi1]; rfl) : w.cell? ((aD am).add i) = some (.int .i64 mi))) ?_
   refine La rfl (Rqq (Lm rfl (jgM rfl rfl (Rt (jpF (fun (t1 : Trk) (told' : List Int) (w : World) => [(0, bv d.B), (1, .float .f64 time), (2, .slice a n c), (9, .slice al m cl), (17, .slice am m cm), (21, .slice (some ⟨b133, 0, none⟩) n n), (22, .int .i64 i), (23, .pointer (some ⟨b23, 0, none⟩))]) (fun t1 told' w => w) (fun t1 told' w => (told' = jmT told (o, mi)) /\ (if 0 <= mi then ∃ x y : Stt, x.c = (jcY o.t.x (ps.getD mi.toNat pq0).x d.k.r.noise).c /\ y.c = (jcY o.t.y (ps.getD mi.toNat pq0).y d.k.r.noise).c /\ t1 = { o.t with x := x, y := y, seen := jnS (jcF o.t.seen) } else t1 = { o.t with seen := jcF o.t.seen }) /\ (HS w0 w ((b23, Row 103 (On.cells { o with t := t1 })) :: (b133, Row 3 (il told')) :: V))) ?_ ?_)))))
   ·
    by_cases hmp : 0 <= mi
    ·
     obtain ⟨z, hz⟩ : ∃ z : Nat, mi = (z : Int) := ⟨mi.toNat, by omega⟩
     have hzn : z < n := by omega
     obtain ⟨p, hp⟩ : ∃ p, p = l.getD z plt0 := ⟨_, rfl⟩
     have hpl : PltLt p := by rw [hp]; exact hI.lt z hzn
     have hpf : jgW p = true := hfin _ (by rw [hp]; exact jc6 (by omega))
     have hVV : Own w0 ((b23, Row 103 o0.cells) :: (b133, Row 3 (il told)) :: V) := Own.cons hb23 (Own.cons hb133 hVo)
     have hsp : SlC w a (pcs l) := hPs hs hVV (fun q hq => List.mem_cons_of_mem _ (List.mem_cons_of_mem _ (hXV q hq)))
     have haoP : a = some (aD a) := hsp.ao (by rw [jf1]; omega)
     refine jcG 155 (v' := .bool true) rfl ((congrArg Value.bool (decide_eq_true hmp))) (jcG 24 (v' := .int .i64 (z : Int)) rfl ((by rw [hz])) ?_)
     refine Wt rfl (Wq (Lmm rfl rfl (LiN jeA jg7 rfl (ja6 _) (by omega) haoP ?_)))
     refine jb7 rfl a_42 jg7 rfl (by exact (show jbF _ ((aD a).add (z * 5)) p.cells by rw [hp]; exact plt_at hsp (by omega))) ?_
     refine Lc f_52 rfl (jpB p hpl hpf w) ?_
     rintro _ w1 ⟨rfl, hs'⟩
     replace hs := hs.nil hs'
     clear hs' hsp
     obtain ⟨q, hq⟩ : ∃ q, q = dpt p := ⟨_, rfl⟩
     rw [<- hq]
     have hqp : ps.getD z pq0 = q := by rw [hq, hp]; exact hpt z hzn
     refine jbL rfl hs jmF ?_; intro b25 w hb25 _ hs; replace hs := HS.push hs
     refine jaQ hs (i := 0) rfl jmF rfl rfl (by rfl) (by simp [Pq.cells]) (by simp [Pq.cells, Value.oneCell']) ?_
     intro w hs
     dsimp only [sS, sZ, sA, sN] at hs
     refine Rt (Wsq ?_)
     replace hs : HS w0 w ((b25, Row 83 q.cells) :: (b23, Row 103 o0.cells) :: (b133, Row 3 (il told)) :: V) := hs
     have hmem3 : ∀ {v1 v2 v3 : Nat × Obj}, ∀ q ∈ Z3, q ∈ v1 :: v2 :: v3 :: V := fun q hq => List.mem_cons_of_mem _ (List.mem_cons_of_mem _ (List.mem_cons_of_mem _ (hXV q hq)))
     refine jqD Tryz.mixed ?_
     replace hs := hs.drewN 1
     refine jbR [0, 1, 3, 5, 6, 7, 8] [2, 4, 9, 10, 11, 12] [13] (jmZ SPD) (g' := 0) (by kernel_rfl) (by kernel_rfl) (fun _ _ _ _ _ h => h) hs ?_
     refine Pfa 0 jc9 rfl jcE (Pfa 2 jcC rfl jbP (Pfa 0 u_83 rfl jaS (Pm rfl (Pn rfl (Pfa 0 jeK rfl jfP (Pfa 0 jbM rfl jaS (jd0 ?_)))))))
     refine jaP rfl (fun w R hR hs => jcL jfY jbP rfl (by (rw [jaR]; exact jaX (n := 5) (cs := t0.x.cells) (hs.get (i := 1) rfl) (by rw [<- ho0t]; rfl)))) ?_
     refine jaP rfl (fun w R hR hs => jaN jb5 rfl (by exact hs.cellA (i := 0) (j := 0) rfl rfl)) ?_
     refine jaP rfl (fun w R hR hs => jaN jb5 rfl (by (rw [jaR]; exact hBz hs (fun q hq => List.mem_append_left _ (hmem3 _ (hZ33 _ hq))) (j := 0) rfl))) ?_
     refine jc5 rfl f_54 rfl (fun w R hR hs => rseenH hs t0.x q.x d.k.r.noise) ?_
     rintro _ hd1
     obtain ⟨sx, rfl, hsx⟩ := hd1 _ rfl
     refine jaP rfl (fun w R hR hs => jbA (off := 0) jc9 rfl rfl jcE rfl) ?_
     refine jaP rfl (fun w R hR hs => jbA (off := 2) jcC rfl rfl jbP rfl) ?_
     refine jcU ?_
     intro w hs
     refine jaQ hs (i := 1) rfl jbP rfl rfl (show _ = Addr.mk b23 2 none from rfl) (by exact (by decide : (7 : Nat) <= 17)) (Stt.one _) ?_; intro w hs
     refine jg5 (jdW (by kernel_rfl) ?_)
     refine Nt (Wsq ?_)
     obtain ⟨o1, ho1⟩ : ∃ o1 : On, o1 = { o0 with t := { o0.t with x := sx } } := ⟨_, rfl⟩
     replace hs : HS w0 w ((b25, Row 83 q.cells) :: (b23, Row 103 o1.cells) :: (b133, Row 3 (il told)) :: V) := by
      rw [ho1]
      first
       | exact hs
       | (have := hs; simp only [List.append_nil] at this; exact this)
     have ho1t : o1.t.y = t0.y := by rw [ho1, <- ho0t]
     refine jqD Tryz.mixed ?_
     replace hs := hs.drewN 1
     refine jbR [0, 1, 3, 5, 6, 7, 8] [2, 4, 9, 10, 11, 12] [13] (jmZ SPD) (g' := 0) (by kernel_rfl) (by kernel_rfl) (fun _ _ _ _ _ h => h) hs ?_
     refine Pfa 0 jc9 rfl jcE (Pfa 7 jcC rfl jbP (Pfa 1 u_83 rfl jaS (Pm rfl (Pn rfl (Pfa 0 jeK rfl jfP (Pfa 0 jbM rfl jaS (jd0 ?_)))))))
     refine jaP rfl (fun w R hR hs => jcL jfY jbP rfl (by (rw [jaR]; exact jaX (n := 5) (cs := t0.y.cells) (hs.get (i := 1) rfl) (by rw [<- ho1t]; rfl)))) ?_
     refine jaP rfl (fun w R hR hs => jaN jb5 rfl (by exact hs.cellA (i := 0) (j := 1) rfl rfl)) ?_
     refine jaP rfl (fun w R hR hs => jaN jb5 rfl (by (rw [jaR]; exact hBz hs (fun q hq => List.mem_append_left _ (hmem3 _ (hZ33 _ hq))) (j := 0) rfl))) ?_
     refine jc5 rfl f_54 rfl (fun w R hR hs => rseenH hs t0.y q.y d.k.r.noise) ?_
     rintro _ hd1
     obtain ⟨sy, rfl, hsy⟩ := hd1 _ rfl
     refine jaP rfl (fun w R hR hs => jbA (off := 0) jc9 rfl rfl jcE rfl) ?_
     refine jaP rfl (fun w R hR hs => jbA (off := 7) jcC rfl rfl jbP rfl) ?_
     refine jcU ?_
     intro w hs
     refine jaQ hs (i := 1) rfl jbP rfl rfl (show _ = Addr.mk b23 7 none from rfl) (by exact (by decide : (12 : Nat) <= 17)) (Stt.one _) ?_; intro w hs
     refine jg5 (jdW (by kernel_rfl) ?_)
     refine Nt (Wq ?_)
     obtain ⟨o2, ho2⟩ : ∃ o2 : On, o2 = { o with t := { o.t with x := sx, y := sy, seen := jcF o.t.seen } } := ⟨_, rfl⟩
     replace hs : HS w0 w ((b25, Row 83 q.cells) :: (b23, Row 103 o2.cells) :: (b133, Row 3 (il told)) :: V) := by
      have e : o2 = { o1 with t := { o1.t with y := sy } } := by rw [ho2, ho1, ho0, ht0]
      rw [e]
      first
       | exact hs
       | (have := hs; simp only [List.append_nil] at this; exact this)
     have hse2 : o2.t.seen = jcF o.t.seen := by rw [ho2]
     have hid2 : o2.t.id = o.t.id := by rw [ho2]
     have hev : jcF o.t.seen % 2 = 0 := by unfold jcF; omega
     have hlt16 := jhE o.t.seen
     have hor : jnS (jcF o.t.seen) = jcF o.t.seen + 1 := or16_even hev
     refine Lf 0 jc9 rfl jcE (Lf 12 jcC rfl i_49 ?_)
     refine Ll o_49 rfl (by (rw [jaR]; exact hs.cellA (i := 1) (j := 12) rfl (by rw [show o2.cells[12]? = some (.int .u16 (o2.t.seen : Nat)) from rfl, hse2]))) ?_
     refine jbG rfl (wrp_u16 (by omega)) ?_
     refine Lf 0 jc9 rfl jcE (Lf 12 jcC rfl i_49 ?_)
     refine jaH hs (i := 1) rfl i_49 rfl rfl (show _ = Addr.mk b23 12 none from rfl) (by exact (by decide : (12 : Nat) < 17)) rfl ?_; intro w hs
     refine Rr ?_
     obtain ⟨t2, ht2⟩ : ∃ t2 : Trk, t2 = { o.t with x := sx, y := sy, seen := jnS (jcF o.t.seen) } := ⟨_, rfl⟩
     replace hs : HS w0 w ((b25, Row 83 q.cells) :: (b23, Row 103 (On.cells { o with t := t2 })) :: (b133, Row 3 (il told)) :: V) := by
      have e : (((jnS (jcF o.t.seen) : Nat)) : Int) = ((jcF o.t.seen : Nat) : Int) + 1 := by rw [hor]; omega
      rw [ht2]
      have h1 := hs
      rw [ho2] at h1
      show HS w0 w ((b25, Row 83 q.cells) :: (b23, Row 103 ((On.cells { o with t := { o.t with x := sx, y := sy, seen := jcF o.t.seen } }).set 12 (.int .u16 ((jnS (jcF o.t.seen) : Nat) : Int)))) :: (b133, Row 3 (il told)) :: V)
      rw [e]
      exact h1
     refine Lmm rfl rfl (Lf 0 jc9 rfl jcE (Lf 0 jcC rfl i_3 ?_))
     refine Ll o_3 rfl (by (rw [jaR]; exact hs.cellA (i := 1) (j := 0) rfl (show _ = some (Value.int .i64 o.t.id) by rw [ht2]; rfl))) ?_
     refine Li jbW i_3 rfl (ja6 _) (by omega) rfl ?_
     refine jaH hs (i := 2) rfl i_3 rfl rfl (by exact jaM _ _) (by rw [il_length]; omega) rfl ?_
     intro w hs
     dsimp only [sS, sZ, sA, sN] at hs
     refine Rnl (jbD (t2, told.set z o.t.id, _) (is := [0, 1, 2, 9, 17, 21, 22, 23]) (I' := (fun (t1 : Trk) (told' : List Int) (w : World) => (told' = jmT told (o, mi)) /\ (if 0 <= mi then ∃ x y : Stt, x.c = (jcY o.t.x (ps.getD mi.toNat pq0).x d.k.r.noise).c /\ y.c = (jcY o.t.y (ps.getD mi.toNat pq0).y d.k.r.noise).c /\ t1 = { o.t with x := x, y := y, seen := jnS (jcF o.t.seen) } else t1 = { o.t with seen := jcF o.t.seen }) /\ (HS w0 w ((b23, Row 103 (On.cells { o with t := t1 })) :: (b133, Row 3 (il told')) :: V))) (t2) (told.set z o.t.id) (_)) rfl rfl rfl ?_)
     refine ⟨?_, ?_, ?_⟩
     ·
      unfold jmT; rw [if_pos hmp, hz]; rfl
     ·
      rw [if_pos hmp]
      have hzt : mi.toNat = z := by rw [hz]; rfl
      rw [hzt, hqp]
      exact ⟨sx, sy, by rw [ht0x] at hsx; exact hsx, by rw [ht0y] at hsy; exact hsy, ht2⟩
     have h1 := HS.pop hs hb25
     rw [<- jc3]
     exact h1
    refine jcG 155 (v' := .bool false) rfl ((congrArg Value.bool (decide_eq_false hmp))) (Wf rfl (jaY (jbD (t0, told, _) (is := [0, 1, 2, 9, 17, 21, 22, 23]) (I' := (fun (t1 : Trk) (told' : List Int) (w : World) => (told' = jmT told (o, mi)) /\ (if 0 <= mi then ∃ x y : Stt, x.c = (jcY o.t.x (ps.getD mi.toNat pq0).x d.k.r.noise).c /\ y.c = (jcY o.t.y (ps.getD mi.toNat pq0).y d.k.r.noise).c /\ t1 = { o.t with x := x, y := y, seen := jnS (jcF o.t.seen) } else t1 = { o.t with seen := jcF o.t.seen }) /\ (HS w0 w ((b23, Row 103 (On.cells { o with t := t1 })) :: (b133, Row 3 (il told')) :: V))) (t0) (told) (_)) rfl rfl rfl ?_)))
    refine ⟨?_, ?_, by rw [<- ho0]; exact hs⟩
    ·
     unfold jmT; rw [if_neg hmp]
    rw [if_neg hmp]; exact ht0
   clear hs hsm
   intro t1 told' w hI
   show W _ _ _ _ [(0, bv d.B), (1, .float .f64 time), (2, .slice a n c), (9, .slice al m cl), (17, .slice am m cm), (21, .slice (some ⟨b133, 0, none⟩) n n), (22, .int .i64 i), (23, .pointer (some ⟨b23, 0, none⟩))] w
   obtain ⟨htl', ht1, hs⟩ := hI
   have hNN := hI.N
   have hst1 : t1.steps = o.t.steps /\ t1.seen < 65536 /\ t1.id = o.t.id /\ t1.kind = o.t.kind := by
    split at ht1
    ·
     obtain ⟨x, y, _, _, rfl⟩ := ht1; exact ⟨rfl, or16_lt (jhE _), rfl, rfl⟩
    rw [ht1]; exact ⟨rfl, jhE _, rfl, rfl⟩
   have hk01 : o.t.kind = 0 ∨ o.t.kind = 1 := by
    rcases hok.kind with h | h | h
    ·
     exact .inl h
    ·
     exact .inr h
    unfold jcB at hal; rw [h] at hal; exact absurd hal (by decide)
   refine Wq (Lf 0 jc9 rfl jcE (Lf 13 jcC rfl i_3 ?_))
   refine Ll o_3 rfl (by (rw [jaR]; exact hs.cellA (i := 0) (j := 13) rfl (show _ = some (Value.int .i64 t1.steps) from rfl))) ?_
   refine jbG rfl (ja3 (by omega)) ?_
   refine Lf 0 jc9 rfl jcE (Lf 13 jcC rfl i_3 ?_)
   refine jaH hs (i := 0) rfl i_3 rfl rfl (show _ = Addr.mk b23 13 none from rfl) (by exact (by decide : (13 : Nat) < 17)) rfl ?_; intro w hs
   refine Rq (Lm rfl (Lf 0 jc9 rfl jcE (Lf 14 jcC rfl jaS ?_)))
   refine jaH hs (i := 0) rfl jaS rfl rfl (show _ = Addr.mk b23 14 none from rfl) (by exact (by decide : (14 : Nat) < 17)) rfl ?_; intro w hs
   refine Rq ?_
   obtain ⟨t3, ht3⟩ : ∃ t3 : Trk, t3 = { t1 with steps := t1.steps + 1, last := time } := ⟨_, rfl⟩
   replace hs : HS w0 w ((b23, Row 103 (On.cells { o with t := t3 })) :: (b133, Row 3 (il told')) :: V) := by rw [ht3]; exact hs
   have ht3s : t3.seen < 65536 := by rw [ht3]; exact hst1.2.1
   refine Lm rfl (Lf 0 jc9 rfl jcE (jb7 rfl a_51 jcE rfl (by exact (show jbF w ((Addr.mk b23 0 none).add 0) t3.cells from jaX (n := 15) (hs.get (i := 0) rfl) rfl)) ?_))
   have hK := rkind_ok w0 w d.B d.k.r [d.vL, .float .f64 d.la, .bool d.any, .int .i64 d.k.next] t3 _ hs (List.mem_cons_of_mem _ (List.mem_cons_of_mem _ (hXV _ (hZ33 _ hrowZ)))) hd.rul ht3s
   refine Lc f_55 rfl (hK) ?_
   rintro _ w1 ⟨rfl, hs1⟩
   clear hs hK
   have hs := hs1
   clear hs1
   refine Lf 0 jc9 rfl jcE (Lf 1 jcC rfl jmS ?_)
   refine jaH hs (i := 0) rfl jmS rfl rfl (show _ = Addr.mk b23 1 none from rfl) (by exact (by decide : (1 : Nat) < 17)) rfl ?_; intro w hs
   refine Rq ?_
   obtain ⟨t4, ht4⟩ : ∃ t4 : Trk, t4 = endT d.k.r t1 time := ⟨_, rfl⟩
   have ht4e : t4 = { t3 with kind := jnY d.k.r t3 } := by
    rw [ht4, ht3]
    unfold endT
    rw [kindR_eq (t := { t1 with steps := t1.steps + 1, last := time }) (by rw [show ({ t1 with steps := t1.steps + 1, last := time } : Trk).kind = t1.kind from rfl, hst1.2.2.2]; exact hk01)]
   obtain ⟨oB, hoB⟩ : ∃ oB : On, oB = { o with t := t4 } := ⟨_, rfl⟩
   replace hs : HS w0 w ((b23, Row 103 oB.cells) :: (((b133, Row 3 (il told')) :: (g, Row 103 (ocs (hit ++ us.drop i) ++ sp)) :: X) ++ oM oB)) := by
    have h1 : HS w0 w ((b23, Row 103 oB.cells) :: (b133, Row 3 (il told')) :: V) := by rw [hoB, ht4e]; exact hs
    rw [hV] at h1
    have e : oM oB = oM o := by rw [hoB]; rfl
    rw [e]
    exact h1
   have hoBk : oB.okD w0 := by
    rw [hoB]
    refine ⟨hok.bx, hok.by', ?_, ?_, hok.lx, hok.ly⟩
    ·
     show t4.seen < 65536
     rw [ht4]; exact hst1.2.1
    show t4.kind = 0 ∨ t4.kind = 1 ∨ t4.kind = 2
    rw [ht4e]; exact kindR_rng
   have hC := keep_ok w0 w b23 oB ((b133, Row 3 (il told')) :: (g, Row 103 (ocs (hit ++ us.drop i) ++ sp)) :: X) hs hb23 hoBk (Own.cons hb133 (Own.cons hg0 hXo))
   refine Lc f_56 rfl (hC) ?_
   rintro _ w1 ⟨oC, cp, cc', ct, cx, cy, hs1, hCk⟩
   clear hs hC
   have hs := hs1
   clear hs1
   refine Rr (Lmm rfl rfl (jb7 rfl a_103 je3 rfl (by exact jaE (cs := oC.cells) (hs.get (i := 0) rfl)) ?_))
   refine LiN jhS je3 rfl (ja6 _) (by omega) haol ?_
   refine jaQ hs (i := 2) rfl je3 rfl rfl (show _ = Addr.mk g (i * 17) none by rw [hal2]; exact jaM _ _) (by rw [List.length_append, jd6, hcl]; show i * 17 + 17 <= _; omega) hCk.one ?_; intro w hs
   refine Rnl (jaB (Nt (Wr (Lm rfl (jbG rfl (ja3 (by omega)) ?_)))))
   refine La rfl (Rnl (Nq (hit ++ [oC], told', i + 1, _) [0, 1, 2, 9, 17, 21, 22] rfl ?_ ?_))
   ·
    dsimp only
    have hzi : (us.zip ms)[i]? = some (o, mi) := by rw [zip_get (da := on0) (db := 0) (by omega) (by omega), <- hoe, <- hmi]
    refine ⟨by omega, ?_, ?_, fun u hu => ?_, ?_⟩
    ·
     rw [jcX hzi]
     refine hhi.snoc ⟨t1, ht1, ?_, ?_, ?_, ?_, ?_⟩
     ·
      rw [cp, hoB]
     ·
      rw [cc', hoB]
     ·
      rw [ct, hoB]; exact ht4
     ·
      rw [cx, hoB]
      show jeX (o.xs ++ [t4.x]) = jeX (o.xs ++ [t1.x])
      rw [ht4]; rfl
     rw [cy, hoB]
     show jeX (o.ys ++ [t4.y]) = jeX (o.ys ++ [t1.y])
     rw [ht4]; rfl
    ·
     rw [jcX hzi, List.foldl_append, <- htl, htl']; rfl
    ·
     rcases List.mem_append.1 hu with hu | hu
     ·
      exact hho u hu
     rw [List.mem_singleton.1 hu]; exact hCk
    have e1 : (hit ++ [oC]) ++ us.drop (i + 1) = hit ++ oC :: us.drop (i + 1) := by rw [List.append_assoc]; rfl
    have h1 : HS w0 w ((b23, Row 103 oC.cells) :: (((b133, Row 3 (il told')) :: (g, Row 103 (ocs (hit ++ oC :: us.drop (i + 1)) ++ sp)) :: X) ++ oM oC)) := by
     rw [<- ocs_put (o := o) hhl, <- hdr]
     exact hs
    have h2 := HS.pop h1 hb23
    rw [e1, hlfe, jnU]
    show HS w0 w ((b133, Row 3 (il told')) :: ((obx hit ++ (oM oC ++ obx (us.drop (i + 1)))) ++ ([(g, Row 103 (ocs (hit ++ oC :: us.drop (i + 1)) ++ sp))] ++ Z3)))
    rw [hX] at h2
    exact HS.re h2 (fun c => by simp only [mpA, mpC, mpN, smA, smC, smN]; omega)
   show m - (i + 1) < m - i; omega
  obtain rfl : m = i := by omega
  rw [show (us.zip ms).take m = us.zip ms by rw [<- hzs, List.take_length]] at hhi htl
  rw [show hit ++ us.drop m = hit by rw [<- hmlen, List.drop_length, List.append_nil]] at hs
  obtain ⟨Z4, hZ4⟩ : ∃ Z4, Z4 = d.ML ++ (L ++ Nm) := ⟨_, rfl⟩
  have hLZ4 : ∀ q ∈ L, q ∈ Z4 := fun q hq => by rw [hZ4]; exact List.mem_append_right _ (List.mem_append_left _ hq)
  have hZ4o : Own w0 Z4 := by rw [hZ4]; exact hbL.own.app (hI.own.app hbm.own)
  replace hs : HS w0 w ((b133, Row 3 (il told)) :: ((d.B, Row 70 (jcA d.k.r d.vL d.la d.any d.k.next)) :: (obx hit ++ (lf hit ++ Z4)))) := by
   have h1 : HS w0 w ((b133, Row 3 (il told)) :: (obx hit ++ (lf hit ++ (((d.B, Row 70 (jcA d.k.r d.vL d.la d.any d.k.next)) :: (d.ML ++ L)) ++ Nm)))) := by rw [hZ3, hZ0] at hs; exact hs
   rw [hZ4]
   exact HS.re h1 (fun c => by simp only [mpA, mpC, mpN, smA, smC, smN]; omega)
  have hnew0 : NewOk w0 N ⟨hit, d.k.ck, d.k.next, told⟩ := hits_ok hd hus (by rw [hml]) hhi hho (by rw [hhl]; exact hul2)
  have hbl0 := hlfB hit hhl
  have hNN := hI.N
  have hnx := hI.next
  refine Wqq (Lmm rfl rfl (Le jhS rfl (jaZ rfl (jaA (by omega)) ?_)))
  refine Rt (Wf rfl (jaK (ja0 (ja8 (ja1 (Nt (Wqq (La rfl (Rt (ja4 ?_))))))))))
  refine jcK (fun (u : NS) (lb : VB) (j : Nat) (w : World) => [(0, bv d.B), (1, .float .f64 time), (2, .slice a n c), (9, lb.v), (21, .slice (some ⟨b133, 0, none⟩) n n), (26, .int .i64 j)]) (fun u lb j w => w) (fun u lb j w => (j <= n) /\ (NewsTo d.k.r time ps ⟨hit, d.k.ck, d.k.next, told⟩ j u) /\ (u.told.length = n) /\ (NewOk w0 N u) /\ (Bl w0 103 17 lb.v u.os.length (ocs u.os) lb.M) /\ (HS w0 w ((b133, Row 3 (il u.told)) :: ((d.B, Row 70 (jcA d.k.r d.vL d.la d.any u.next)) :: (obx u.os ++ (lb.M ++ Z4)))))) (fun u lb j w => n - j) (⟨hit, d.k.ck, d.k.next, told⟩) (⟨.slice al m cl, lf hit⟩) (0) (_) (is := [0, 1, 2, 9, 21, 26]) rfl rfl ?_ ?_
  ·
   refine ⟨Nat.zero_le _, .zero, htlen, hnew0, ?_, hs⟩
   show Bl w0 103 17 (.slice al m cl) hit.length (ocs hit) (lf hit)
   rw [hhl]; exact hbl0
  clear hs
  intro u lb j w hI
  show W _ _ _ _ [(0, bv d.B), (1, .float .f64 time), (2, .slice a n c), (9, lb.v), (21, .slice (some ⟨b133, 0, none⟩) n n), (26, .int .i64 j)] w
  obtain ⟨hj, hw, hul', huk, hbl', hs⟩ := hI
  obtain ⟨lv, lM'⟩ := lb
  have hbl' : Bl w0 103 17 lv u.os.length (ocs u.os) lM' := hbl'
  obtain ⟨al', cl', rfl, _⟩ := hbl'.slice
  have hcu := huk.cnt
  have hnu := (hw.facts hd.next1).2.2.1
  have hnu2 := (hw.facts hd.next1).2.1
  have hnu3 : u.next <= d.k.next + (j : Int) := hnu
  have hnu4 : d.k.next <= u.next := hnu2
  have hn1 := hd.next1
  by_cases hlt4 : j < n
  ·
   obtain ⟨tj, htj⟩ : ∃ tj, tj = u.told.getD j 0 := ⟨_, rfl⟩
   have htj1 : (il u.told)[j]? = some (.int .i64 tj) := by rw [htj]; exact jaV (by omega)
   by_cases hold : 0 < tj ∨ 256 <= u.os.length
   ·
    have hround : NewsTo d.k.r time ps ⟨hit, d.k.ck, d.k.next, told⟩ (j + 1) u := .old hw (by rw [<- htj]; exact hold)
    by_cases h0 : 0 < tj
    ·
     refine Wqq (Lmm rfl rfl (Le jeA rfl (jaZ rfl (jaF (by omega)) ?_)))
     refine Rt (Wt rfl (Ws (Wsq (ja4 (Wqq (Lmm rfl rfl (Li jbW i_3 rfl (ja6 _) (by omega) rfl ?_)))))))
     refine Ll o_3 rfl (by exact hs.cellA (i := 0) (j := j) rfl htj1) ?_
     refine jgY rfl (jaF (by omega)) ?_
     refine Lm rfl (Rs rfl (Rs rfl (Rs rfl (Lpt rfl (Rt (Wt rfl (jaK (ja0 (ja1 (Nt (Wr (Lm rfl (jbG rfl (ja3 (by omega)) ?_)))))))))))))
     refine La rfl (Rnl (Nq (u, ⟨.slice al' u.os.length cl', lM'⟩, j + 1, _) [0, 1, 2, 9, 21, 26] rfl ?_ ?_))
     ·
      dsimp only
      exact ⟨by omega, hround, hul', huk, hbl', hs⟩
     show n - (j + 1) < n - j; omega
    have h256 : 256 <= u.os.length := hold.resolve_left h0
    refine Wqq (Lmm rfl rfl (Le jeA rfl (jaZ rfl (jaF (by omega)) ?_)))
    refine Rt (Wt rfl (Ws (Wsq (ja4 (Wqq (Lmm rfl rfl (Li jbW i_3 rfl (ja6 _) (by omega) rfl ?_)))))))
    refine Ll o_3 rfl (by exact hs.cellA (i := 0) (j := j) rfl htj1) ?_
    refine jgY rfl (jaA (by omega)) ?_
    refine Lm rfl (Gm rfl rfl (Rw rfl (Le jhS rfl (Rw rfl (jgM rfl (jaF (by omega)) ?_)))))
    refine Lpf rfl (Rt (Wt rfl (jaK (ja0 (ja1 (Nt (Wr (Lm rfl (jbG rfl (ja3 (by omega)) ?_)))))))))
    refine La rfl (Rnl (Nq (u, ⟨.slice al' u.os.length cl', lM'⟩, j + 1, _) [0, 1, 2, 9, 21, 26] rfl ?_ ?_))
    ·
     dsimp only
     exact ⟨by omega, hround, hul', huk, hbl', hs⟩
    show n - (j + 1) < n - j; omega
   have h0 : ¬ 0 < tj := fun h => hold (.inl h)
   have h256 : ¬ 256 <= u.os.length := fun h => hold (.inr h)
   obtain ⟨p, hp⟩ : ∃ p, p = l.getD j plt0 := ⟨_, rfl⟩
   have hpl : PltLt p := by rw [hp]; exact hI.lt j hlt4
   have hpf : jgW p = true := hfin _ (by rw [hp]; exact jc6 (by omega))
   obtain ⟨V, hV⟩ : ∃ V, V = obx u.os ++ (lM' ++ Z4) := ⟨_, rfl⟩
   rw [<- hV] at hs
   have hLV : ∀ q ∈ L, q ∈ V := fun q hq => by rw [hV]; exact List.mem_append_right _ (List.mem_append_right _ (hLZ4 q hq))
   have hVo : Own w0 V := by rw [hV]; exact (jnT huk.each).app (hbl'.own.app hZ4o)
   have hsp : SlC w a (pcs l) := hI.pl _ _ hs (Own.cons hb133 (Own.cons hdB hVo)) (fun q hq => List.mem_cons_of_mem _ (List.mem_cons_of_mem _ (hLV q hq)))
   have haoP : a = some (aD a) := hsp.ao (by rw [jf1]; omega)
   refine Wqq (Lmm rfl rfl (Le jeA rfl (jaZ rfl (jaF (by omega)) ?_)))
   refine Rt (Wt rfl (Ws (Wsq (ja4 (Wqq (Lmm rfl rfl (Li jbW i_3 rfl (ja6 _) (by omega) rfl ?_)))))))
   refine Ll o_3 rfl (by exact hs.cellA (i := 0) (j := j) rfl htj1) ?_
   refine jgY rfl (jaA (by omega)) ?_
   refine Lm rfl (Gm rfl rfl (Rw rfl (Le jhS rfl (Rw rfl (jgM rfl (jaA (by omega)) ?_)))))
   refine Lpf rfl (Rt (Wf rfl (Ws (Wq (Lmm rfl rfl (LiN jeA jg7 rfl (ja6 _) (by omega) haoP ?_))))))
   refine jb7 rfl a_42 jg7 rfl (by exact (show jbF _ ((aD a).add (j * 5)) p.cells by rw [hp]; exact plt_at hsp (by omega))) ?_
   refine Lc f_52 rfl (jpB p hpl hpf w) ?_
   rintro _ w1 ⟨rfl, hs'⟩
   replace hs := hs.nil hs'
   clear hs' hsp
   obtain ⟨q, hq⟩ : ∃ q, q = dpt p := ⟨_, rfl⟩
   rw [<- hq]
   have hqp : ps.getD j pq0 = q := by rw [hq, hp]; exact hpt j hlt4
   refine jbL rfl hs jmF ?_; intro b27 w hb27 _ hs; replace hs := HS.push hs
   refine jaQ hs (i := 0) rfl jmF rfl rfl (by rfl) (by simp [Pq.cells]) (by simp [Pq.cells, Value.oneCell']) ?_
   intro w hs
   dsimp only [sS, sZ, sA, sN] at hs
   refine Rq ?_
   replace hs : HS w0 w ((b27, Row 83 q.cells) :: (b133, Row 3 (il u.told)) :: (d.B, Row 70 (jcA d.k.r d.vL d.la d.any u.next)) :: V) := hs
   obtain ⟨oA, hoA⟩ : ∃ oA : On, oA = ⟨0, ⟨u.next, 0, stt0, stt0, 1, 1, time⟩, .slice none 0 0, [], [], .slice none 0 0, [], [], u.ck⟩ := ⟨_, rfl⟩
   have hoAk : oA.okD w0 := by rw [hoA]; exact ⟨.nil, .nil, (by decide : (1 : Nat) < 65536), .inl rfl, (by decide : (0 : Nat) <= 1024), rfl⟩
   refine Lm rfl (Ln rfl (Lf 9 jeK rfl i_3 (Ll o_3 rfl (by exact hs.cellA (i := 2) (j := 9) rfl rfl) ?_)))
   refine Lm rfl (jbE rfl rfl (Pl.builtN Tryz.pl51 rfl) ?_)
   refine je7 245 (v' := .agg oA.t.cells.toArray) rfl ((by rw [hoA]; rfl)) ?_
   refine jbE rfl rfl (Pl.builtN Tryz.pl103 rfl) ?_
   refine je7 246 (v' := .agg oA.cells.toArray) rfl ((by rw [hoA]; rfl)) ?_
   refine jbL rfl hs je3 ?_; intro b28 w hb28 _ hs; replace hs := HS.push hs
   refine jaQ hs (i := 0) rfl je3 rfl rfl (by rfl) (by simp [On.cells]) (by exact hoAk.one) ?_
   intro w hs
   dsimp only [sS, sZ, sA, sN] at hs
   refine Rt (Wsq ?_)
   replace hs : HS w0 w ((b28, Row 103 oA.cells) :: (b27, Row 83 q.cells) :: (b133, Row 3 (il u.told)) :: (d.B, Row 70 (jcA d.k.r d.vL d.la d.any u.next)) :: V) := hs
   have hmB : ∀ {v1 v2 v3 : Nat × Obj} {R : Bks}, (d.B, Row 70 (jcA d.k.r d.vL d.la d.any u.next)) ∈ (v1 :: v2 :: v3 :: (d.B, Row 70 (jcA d.k.r d.vL d.la d.any u.next)) :: V) ++ R := fun {_ _ _ _} => List.mem_append_left _ (List.mem_cons_of_mem _ (List.mem_cons_of_mem _ (List.mem_cons_of_mem _ (List.mem_cons_self ..))))
   refine jqD Tryz.mixed ?_
   replace hs := hs.drewN 1
   refine jbR [0, 2, 3, 4, 5, 7, 8, 9, 10] [1, 6, 11, 12, 13, 14] [15] (jmZ SPD) (g' := 0) (by kernel_rfl) (by kernel_rfl) (fun _ _ _ _ _ h => h) hs ?_
   refine Pfa 0 u_83 rfl jaS (Pm rfl (Pn rfl (Pfa 0 jeK rfl jfP (Pfa 0 jbM rfl jaS (Pm rfl (Pn rfl (Pfa 0 jeK rfl jfP (Pfa 1 jbM rfl jaS (jd0 (jaP rfl (fun w R hR hs => jaN jb5 rfl (by exact hs.cellA (i := 1) (j := 0) rfl rfl)) ?_))))))))))
   refine jaP rfl (fun w R hR hs => jaN jb5 rfl (by (rw [jaR]; exact jb6 hs hmB (j := 0) rfl))) ?_
   refine jaP rfl (fun w R hR hs => jaN jb5 rfl (by (rw [jaR]; exact jb6 hs hmB (j := 1) rfl))) ?_
   refine jc5 rfl f_57 rfl (fun w R hR hs => rstartH hs q.x d.k.r.noise d.k.r.sway) ?_
   rintro _ hd1
   obtain rfl := hd1
   refine jaP rfl (fun w R hR hs => jbA (off := 0) jc9 rfl rfl jcE rfl) ?_
   refine jaP rfl (fun w R hR hs => jbA (off := 2) jcC rfl rfl jbP rfl) ?_
   refine jcU ?_
   intro w hs
   refine jaQ hs (i := 0) rfl jbP rfl rfl (show _ = Addr.mk b28 2 none from rfl) (by exact (by decide : (7 : Nat) <= 17)) (Stt.one _) ?_; intro w hs
   refine jg5 (jdW (by kernel_rfl) ?_)
   refine Nt (Wsq ?_)
   obtain ⟨oD, hoD⟩ : ∃ oD : On, oD = { oA with t := { oA.t with x := jdY q.x d.k.r.noise d.k.r.sway } } := ⟨_, rfl⟩
   replace hs : HS w0 w ((b28, Row 103 oD.cells) :: (b27, Row 83 q.cells) :: (b133, Row 3 (il u.told)) :: (d.B, Row 70 (jcA d.k.r d.vL d.la d.any u.next)) :: V) := by
    rw [hoD]
    first
     | exact hs
     | (have := hs; simp only [List.append_nil] at this; exact this)
   refine jqD Tryz.mixed ?_
   replace hs := hs.drewN 1
   refine jbR [0, 2, 3, 4, 5, 7, 8, 9, 10] [1, 6, 11, 12, 13, 14] [15] (jmZ SPD) (g' := 0) (by kernel_rfl) (by kernel_rfl) (fun _ _ _ _ _ h => h) hs ?_
   refine Pfa 1 u_83 rfl jaS (Pm rfl (Pn rfl (Pfa 0 jeK rfl jfP (Pfa 0 jbM rfl jaS (Pm rfl (Pn rfl (Pfa 0 jeK rfl jfP (Pfa 1 jbM rfl jaS (jd0 (jaP rfl (fun w R hR hs => jaN jb5 rfl (by exact hs.cellA (i := 1) (j := 1) rfl rfl)) ?_))))))))))
   refine jaP rfl (fun w R hR hs => jaN jb5 rfl (by (rw [jaR]; exact jb6 hs hmB (j := 0) rfl))) ?_
   refine jaP rfl (fun w R hR hs => jaN jb5 rfl (by (rw [jaR]; exact jb6 hs hmB (j := 1) rfl))) ?_
   refine jc5 rfl f_57 rfl (fun w R hR hs => rstartH hs q.y d.k.r.noise d.k.r.sway) ?_
   rintro _ hd1
   obtain rfl := hd1
   refine jaP rfl (fun w R hR hs => jbA (off := 0) jc9 rfl rfl jcE rfl) ?_
   refine jaP rfl (fun w R hR hs => jbA (off := 7) jcC rfl rfl jbP rfl) ?_
   refine jcU ?_
   intro w hs
   refine jaQ hs (i := 0) rfl jbP rfl rfl (show _ = Addr.mk b28 7 none from rfl) (by exact (by decide : (12 : Nat) <= 17)) (Stt.one _) ?_; intro w hs
   refine jg5 (jdW (by kernel_rfl) ?_)
   refine Nt (Wq ?_)
   obtain ⟨t3, ht3⟩ : ∃ t3 : Trk, t3 = ⟨u.next, 0, jdY q.x d.k.r.noise d.k.r.sway, jdY q.y d.k.r.noise d.k.r.sway, 1, 1, time⟩ := ⟨_, rfl⟩
   replace hs : HS w0 w ((b28, Row 103 (On.cells ⟨0, t3, .slice none 0 0, [], [], .slice none 0 0, [], [], u.ck⟩)) :: (b27, Row 83 q.cells) :: (b133, Row 3 (il u.told)) :: (d.B, Row 70 (jcA d.k.r d.vL d.la d.any u.next)) :: V) := by
    have e : (⟨0, t3, .slice none 0 0, [], [], .slice none 0 0, [], [], u.ck⟩ : On) = { oD with t := { oD.t with y := jdY q.y d.k.r.noise d.k.r.sway } } := by rw [ht3, hoD, hoA]
    rw [e]
    first
     | exact hs
     | (have := hs; simp only [List.append_nil] at this; exact this)
   refine Lm rfl (Lf 0 jc9 rfl jcE (jb7 rfl a_51 jcE rfl (by exact (show jbF w ((Addr.mk b28 0 none).add 0) t3.cells from jaX (n := 15) (hs.get (i := 0) rfl) rfl)) ?_))
   have hK := rkind_ok w0 w d.B d.k.r [d.vL, .float .f64 d.la, .bool d.any, .int .i64 u.next] t3 _ hs (List.mem_cons_of_mem _ (List.mem_cons_of_mem _ (List.mem_cons_of_mem _ (List.mem_cons_self ..)))) hd.rul (by rw [ht3]; exact (by decide : (1 : Nat) < 65536))
   refine Lc f_55 rfl (hK) ?_
   rintro _ w1 ⟨rfl, hs1⟩
   clear hs hK
   have hs := hs1
   clear hs1
   refine Lf 0 jc9 rfl jcE (Lf 1 jcC rfl jmS ?_)
   refine jaH hs (i := 0) rfl jmS rfl rfl (show _ = Addr.mk b28 1 none from rfl) (by exact (by decide : (1 : Nat) < 17)) rfl ?_; intro w hs
   refine Rq ?_
   obtain ⟨t4, ht4⟩ : ∃ t4 : Trk, t4 = endT d.k.r (jmR d.k.r u.next (ps.getD j pq0)) time := ⟨_, rfl⟩
   have ht4e : t4 = { t3 with kind := jnY d.k.r t3 } := by
    rw [kindR_eq (t := t3) (by rw [ht3]; exact .inl rfl), ht4, ht3, hqp]
    rfl
   obtain ⟨oB, hoB⟩ : ∃ oB : On, oB = ⟨0, t4, .slice none 0 0, [], [], .slice none 0 0, [], [], u.ck⟩ := ⟨_, rfl⟩
   replace hs : HS w0 w ((b28, Row 103 oB.cells) :: (((b27, Row 83 q.cells) :: (b133, Row 3 (il u.told)) :: (d.B, Row 70 (jcA d.k.r d.vL d.la d.any u.next)) :: V) ++ oM oB)) := by
    have e : oM oB = [] := by rw [hoB]; rfl
    rw [e, List.append_nil, hoB, ht4e]; exact hs
   have hoBk : oB.okD w0 := by
    rw [hoB]
    refine ⟨.nil, .nil, ?_, ?_, (by decide : (0 : Nat) <= 1024), rfl⟩
    ·
     show t4.seen < 65536
     rw [ht4]; exact (by decide : (1 : Nat) < 65536)
    show t4.kind = 0 ∨ t4.kind = 1 ∨ t4.kind = 2
    rw [ht4e]; exact kindR_rng
   have hC := keep_ok w0 w b28 oB ((b27, Row 83 q.cells) :: (b133, Row 3 (il u.told)) :: (d.B, Row 70 (jcA d.k.r d.vL d.la d.any u.next)) :: V) hs hb28 hoBk (Own.cons hb27 (Own.cons hb133 (Own.cons hdB hVo)))
   refine Lc f_56 rfl (hC) ?_
   rintro _ w1 ⟨oC, cp, cc', ct, cx, cy, hs1, hCk⟩
   clear hs hC
   have hs := hs1
   clear hs1
   refine Rq (Lm rfl (jb7 rfl a_103 je3 rfl (by exact jaE (cs := oC.cells) (hs.get (i := 0) rfl)) ?_))
   refine jb4 rfl hs jhS je3 rfl (by decide) rfl (by simp [Value.cells, On.cells]) ?_
   intro b286 w hb286 hnb286 hs
   obtain ⟨T, hT⟩ : ∃ T, T = (b133, Row 3 (il u.told)) :: (d.B, Row 70 (jcA d.k.r d.vL d.la d.any u.next)) :: (oM oC ++ (obx u.os ++ Z4)) := ⟨_, rfl⟩
   replace hs : HS w0 w ((T ++ lM') ++ [(b286, Row 103 oC.cells)]) := by
    have h1 : HS w0 w (((b28, Row 103 oC.cells) :: (((b27, Row 83 q.cells) :: (b133, Row 3 (il u.told)) :: (d.B, Row 70 (jcA d.k.r d.vL d.la d.any u.next)) :: (obx u.os ++ (lM' ++ Z4))) ++ oM oC)) ++ [(b286, Row 103 oC.cells)]) := by
     rw [<- hV]
     have := hs
     simp only [List.flatMap_cons, List.flatMap_nil, List.append_nil] at this
     exact this
    have h2 : HS w0 w ([(b28, Row 103 oC.cells), (b27, Row 83 q.cells)] ++ ((T ++ lM') ++ [(b286, Row 103 oC.cells)])) := by
     rw [hT]
     exact HS.re h1 (fun c => by simp only [mpA, mpC, mpN, smA, smC, smN]; omega)
    exact HS.dropL h2 (Own.cons hb28 (Own.cons hb27 Own.nil))
   refine jb8 (L := T) rfl jhS je3 rfl hs hb286 hbl' rfl rfl rfl hCk.one (by omega) (by omega) ?_
   intro v' w M' hs hbl2
   replace hs : HS w0 w ((b133, Row 3 (il u.told)) :: (d.B, Row 70 (jcA d.k.r d.vL d.la d.any u.next)) :: (oM oC ++ (obx u.os ++ (M' ++ Z4)))) := by
    rw [hT] at hs
    exact HS.re hs (fun c => by simp only [mpA, mpC, mpN, smA, smC, smN]; omega)
   refine La rfl (Rq (Lmm rfl rfl (Lm rfl (Ln rfl (Lf 9 jeK rfl i_3 (Ll o_3 rfl (by exact hs.cellA (i := 1) (j := 9) rfl rfl) ?_))))))
   refine Li jbW i_3 rfl (ja6 _) (by omega) rfl ?_
   refine jaH hs (i := 0) rfl i_3 rfl rfl (show _ = Addr.mk b133 j none from jaM _ _) (by rw [il_length]; omega) rfl ?_; intro w hs
   refine Rr (Lm rfl (Ln rfl (Lf 9 jeK rfl i_3 (Ll o_3 rfl (by exact hs.cellA (i := 1) (j := 9) rfl rfl) ?_))))
   refine jbG rfl (ja3 (by omega)) ?_
   refine Ln rfl (Lf 9 jeK rfl i_3 ?_)
   refine jaH hs (i := 1) rfl i_3 rfl rfl (show _ = Addr.mk d.B 9 none from rfl) (by exact (by decide : (9 : Nat) < 10)) rfl ?_; intro w hs
   refine Rnl (jaB (Nt (Wr (Lm rfl (jbG rfl (ja3 (by omega)) ?_)))))
   refine La rfl (Rnl ?_)
   have hCt : oC.t = endT d.k.r (jmR d.k.r u.next (ps.getD j pq0)) time := by rw [ct, hoB]; exact ht4
   have hround : NewsTo d.k.r time ps ⟨hit, d.k.ck, d.k.next, told⟩ (j + 1) ⟨u.os ++ [oC], u.ck + 1, u.next + 1, u.told.set j u.next⟩ := by
    refine .new hw (by rw [<- htj]; exact hold) (by rw [cc', hoB]) hCt ?_ ?_
    ·
     rw [cx, hoB]
     refine (jn5 t4.x).trans ?_
     rw [ht4]; rfl
    rw [cy, hoB]
    refine (jn5 t4.y).trans ?_
    rw [ht4]; rfl
   have hCx : oC.xs.length = 1 := by rw [cx, hoB]; exact jn6 (xs := []) rfl (by decide)
   have hCy : oC.ys.length = 1 := by rw [cy, hoB]; exact jn6 (xs := []) rfl (by decide)
   refine Nq (⟨u.os ++ [oC], u.ck + 1, u.next + 1, u.told.set j u.next⟩, ⟨v', M'⟩, j + 1, _) [0, 1, 2, 9, 21, 26] rfl ?_ ?_
   ·
    dsimp only
    refine ⟨by omega, hround, by show (u.told.set j u.next).length = n; rw [List.length_set, hul'], new_ok' huk hCk (by rw [hCt]; rfl) (by omega) hCx hCy (by rw [hCt]; rfl), ?_, ?_⟩
    ·
     show Bl w0 103 17 v' (u.os ++ [oC]).length (ocs (u.os ++ [oC])) M'
     rw [List.length_append, jk2, ocs_one]
     exact hbl2
    have e1 : obx (u.os ++ [oC]) = obx u.os ++ oM oC := by rw [jnU, obx_one]
    have h2 : HS w0 w ((b133, Row 3 (il (u.told.set j u.next))) :: (d.B, Row 70 (jcA d.k.r d.vL d.la d.any (u.next + 1))) :: (oM oC ++ (obx u.os ++ (M' ++ Z4)))) := by
     rw [<- jc3]; exact hs
    show HS w0 w ((b133, Row 3 (il (u.told.set j u.next))) :: ((d.B, Row 70 (jcA d.k.r d.vL d.la d.any (u.next + 1))) :: (obx (u.os ++ [oC]) ++ (M' ++ Z4))))
    rw [e1]
    exact HS.re h2 (fun c => by simp only [mpA, mpC, mpN, smA, smC, smN]; omega)
   show n - (j + 1) < n - j; omega
  obtain rfl : n = j := by omega
  refine Wqq (Lmm rfl rfl (Le jeA rfl (jaZ rfl (jaA (by omega)) ?_)))
  refine Rt (Wf rfl (jaK (ja0 (ja8 (ja1 (Nt (Wq (Lmm rfl rfl (Ln rfl (Lf 6 jeK rfl jq7 ?_))))))))))
  refine jaH hs (i := 1) rfl jq7 rfl rfl (show _ = Addr.mk d.B 6 none from rfl) (by exact (by decide : (6 : Nat) < 10)) rfl ?_; intro w hs
  refine Rq (Lmm rfl rfl (Ln rfl (Lf 7 jeK rfl jaS ?_)))
  refine jaH hs (i := 1) rfl jaS rfl rfl (show _ = Addr.mk d.B 7 none from rfl) (by exact (by decide : (7 : Nat) < 10)) rfl ?_; intro w hs
  refine Rq (Lm rfl (Ln rfl (Lf 8 jeK rfl i_4 ?_)))
  refine jaH hs (i := 1) rfl i_4 rfl rfl (show _ = Addr.mk d.B 8 none from rfl) (by exact (by decide : (8 : Nat) < 10)) rfl ?_; intro w hs
  refine Rq (Lm rfl (La rfl (La rfl (Rt (jaW (jb9 rfl rfl rfl ?_))))))
  obtain ⟨k9, hk9⟩ : ∃ k9 : Bok, k9 = ⟨d.k.B, d.k.mb, d.k.r, u.os, u.ck, u.next, time⟩ := ⟨_, rfl⟩
  obtain ⟨d9, hd9⟩ : ∃ d9 : Dbk, d9 = ⟨d.B, k9, .slice al' u.os.length cl', lM', time, true⟩ := ⟨_, rfl⟩
  have hs7 : HS w0 w (d9.bks ++ L ++ [(b133, Row 3 (il u.told))]) := by
   have h1 : HS w0 w ((b133, Row 3 (il u.told)) :: ((d.B, Row 70 (jcA d.k.r (.slice al' u.os.length cl') time true u.next)) :: (obx u.os ++ (lM' ++ Z4)))) := hs
   rw [hZ4] at h1
   have h2 : HS w0 w ((d.ML ++ Nm) ++ (((d.B, Row 70 (jcA d.k.r (.slice al' u.os.length cl') time true u.next)) :: (lM' ++ obx u.os)) ++ L ++ [(b133, Row 3 (il u.told))])) := HS.re h1 (fun c => by simp only [mpA, mpC, mpN, smA, smC, smN]; omega)
   have h3 := HS.dropL h2 (hbL.own.app hbm.own)
   rw [hd9, hk9]
   exact h3
  refine ⟨_, rfl, .inr ⟨rfl, d9, _, _, u.told, us, ps, ms, hit, rfl, hs7, ?_, hul', ?_, by rw [hd9], ?_⟩⟩
  ·
   have := Bl.row (w0 := w0) (E := 3) (sz := 1) (g := b133) (n := n) (cap := n) (xs := il u.told) (sp := []) hb133 (by rw [il_length]; omega) (by rw [List.append_nil, il_length]; omega) (Nat.le_refl _)
   rw [List.append_nil] at this
   exact this
  ·
   rw [hd9, hk9]
   exact ⟨hdB, hbl', huk.each, huk.nd, huk.low, huk.next1, by show u.next <= 1000000; omega, fun o ho => (huk.hist o ho), hd.rul, huk.cnt, .inl ⟨rfl, rfl⟩⟩
  rw [hd9, hk9]
  refine ⟨rfl, rfl, rfl, rfl, hus, ?_, ⟨cnt, tt, hans⟩, by rw [hml], hhi, ?_⟩
  ·
   rw [hps]; exact pts_ok l
  have e : List.replicate l.length (0 : Int) = List.replicate n 0 := by rw [hn]
  rw [e, <- htl, hn]
  exact hw
 refine La rfl (Rqq (Lm rfl (jk7 rfl (jaF (by omega)) ?_)))
 refine Rt (Wt rfl (Wq (Lm rfl (La rfl (La rfl (Rt (jaW (ja2 (jb9 rfl rfl rfl ?_)))))))))
 exact ⟨_, rfl, .inl ⟨he, rfl, hs⟩⟩
end Go.Proofs.YtffobakdngbadaaGreat