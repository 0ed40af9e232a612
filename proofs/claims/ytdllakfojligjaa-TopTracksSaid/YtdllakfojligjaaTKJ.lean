/-
  A part of the proof: what functions that the statement reaches do, or a plain law on what they do. Each theorem holds under its own premises alone.
-/
import Derived.Test.YtdllakfojligjaaTKI
namespace Go.Proofs.Ytdllakfojligjaa
open Go Go.Lk
/-! ### Those that are to be dropped, struck from the map -/
abbrev Ent := Int × Nat × Nat
theorem filter_lt {α : Type} {p q : α → Bool} : ∀ {l : List α}, (∀ x ∈ l, p x = true → q x = true) → (∃ x ∈ l, q x = true ∧ p x = false) → (l.filter p).length < (l.filter q).length
 | [], _, ⟨x, hx, _⟩ => by cases hx
 | y :: l, h, ⟨x, hx, hq, hp⟩ => by
  have hle : (l.filter p).length ≤ (l.filter q).length := by
   have h' : ∀ {l : List α}, (∀ x ∈ l, p x = true → q x = true) → (l.filter p).length ≤ (l.filter q).length := by
    intro l hl
    induction l with
    | nil => exact Nat.le_refl _
    | cons z l ih =>
     have ih' := ih (fun x hx => hl x (List.mem_cons_of_mem _ hx))
     have hz := hl z (List.mem_cons_self ..)
     cases h1 : p z <;> cases h2 : q z <;> simp [h1, h2] at hz ⊢ <;> omega
   exact h' (fun x hx => h x (List.mem_cons_of_mem _ hx))
  rcases List.mem_cons.1 hx with rfl | hx
  ·
   simp [hq, hp]; omega
  ·
   have ih := filter_lt (p := p) (q := q) (l := l) (fun x hx => h x (List.mem_cons_of_mem _ hx)) ⟨x, hx, hq, hp⟩
   have hy := h y (List.mem_cons_self ..)
   cases h1 : p y <;> cases h2 : q y <;> simp [h1, h2] at hy ⊢ <;> omega
def unseen (seen : List Nat) (es : List Ent) : List Ent := es.filter fun x => !seen.contains x.2.2
theorem unseen_lt {seen : List Nat} {es : List Ent} {x : Ent} (hx : x ∈ es) (hs : x.2.2 ∉ seen) : (unseen (seen ++ [x.2.2]) es).length < (unseen seen es).length :=
 filter_lt (fun y _ hy => by simp at hy ⊢; exact hy.1) ⟨x, hx, by simp [hs], by simp⟩
theorem mdel_filter (k : Int) : ∀ {l : List Ent}, (l.map (·.1)).Nodup → mdel k l = l.filter fun y => !decide (y.1 = k)
 | [], _ => rfl
 | x :: l, h => by
  rw [List.map_cons, List.nodup_cons] at h
  unfold mdel
  by_cases hx : x.1 = k
  ·
   rw [if_pos hx, List.filter_cons_of_neg (by simp [hx]), List.filter_eq_self.2]
   intro y hy
   have : y.1 ≠ k := fun hyk => h.1 (List.mem_map.2 ⟨y, hy, by rw [hyk, hx]⟩)
   simp [this]
  ·
   rw [if_neg hx, List.filter_cons_of_pos (by simp [hx]), mdel_filter k h.2]
def curE (es : List Ent) (D : List Int) : List Ent := es.filter fun y => !D.contains y.1
theorem curE_snoc (es : List Ent) (D : List Int) (k : Int) : curE es (D ++ [k]) = (curE es D).filter fun y => !decide (y.1 = k) := by
 unfold curE
 rw [List.filter_filter]
 apply List.filter_congr
 intro y _
 cases h : D.contains y.1 <;> by_cases hk : y.1 = k <;> simp_all
theorem nodup_at {α : Type} {l : List α} (h : l.Nodup) {i j : Nat} {x : α} (hi : l[i]? = some x) (hj : l[j]? = some x) : i = j := by
 obtain ⟨hi1, hi2⟩ := List.getElem?_eq_some_iff.1 hi
 obtain ⟨hj1, hj2⟩ := List.getElem?_eq_some_iff.1 hj
 have hp := List.pairwise_iff_getElem.1 h
 rcases Nat.lt_trichotomy i j with h3 | h3 | h3
 ·
  exact absurd (hi2.trans hj2.symm) (hp i j hi1 hj1 h3)
 ·
  exact h3
 ·
  exact absurd (hj2.trans hi2.symm) (hp j i hj1 hi1 h3)
theorem map_inj {α : Type} {f : Ent → α} {es : List Ent} (h : (es.map f).Nodup) {x y : Ent} (hx : x ∈ es) (hy : y ∈ es) (hxy : f x = f y) : x = y := by
 obtain ⟨i, hi, rfl⟩ := List.getElem_of_mem hx
 obtain ⟨j, hj, rfl⟩ := List.getElem_of_mem hy
 have : i = j := nodup_at h (i := i) (j := j) (x := f es[i]) (by simp [hi]) (by simp [hj, hxy])
 subst this; rfl
theorem EntOk.keys {es : List Ent} {ck : Nat} (h : EntOk es ck) : (es.map (·.1)).Nodup := h.asc.imp fun hab => Int.ne_of_lt hab
theorem EntOk.sub {es : List Ent} {ck : Nat} (h : EntOk es ck) (p : Ent → Bool) : EntOk (es.filter p) ck :=
 ⟨h.asc.sublist ((List.filter_sublist (p := p)).map _), fun x hx => h.rng x (List.mem_filter.1 hx).1, fun x hx => h.born x (List.mem_filter.1 hx).1, h.nd.sublist ((List.filter_sublist (p := p)).map _), Nat.le_trans (List.length_filter_le ..) h.len⟩
theorem curE_end {es : List Ent} {ck : Nat} {p : Ent → Bool} {D : List Int} {vis : List Ent} (hK : EntOk es ck) (h1 : ∀ x ∈ vis, p x = true → x.1 ∈ D) (h2 : ∀ k ∈ D, ∃ x ∈ es, x.1 = k ∧ p x = true) (hsub : ∀ x ∈ vis, x ∈ es) (hall : ∀ x ∈ curE es D, x.2.2 ∈ vis.map (·.2.2)) : curE es D = es.filter fun x => !p x := by
 unfold curE
 apply List.filter_congr
 intro y hy
 congr 1
 rw [Bool.eq_iff_iff, List.contains_iff_mem]
 constructor
 ·
  intro hD
  obtain ⟨x, hx, hxk, ha⟩ := h2 _ hD
  rw [← map_inj hK.keys hx hy hxk]; exact ha
 ·
  intro ha
  apply Classical.byContradiction
  intro hD
  have hc : y ∈ curE es D := List.mem_filter.2 ⟨hy, by simp [hD]⟩
  obtain ⟨z, hz, hzb⟩ := List.mem_map.1 (hall y hc)
  have : z = y := map_inj hK.nd (hsub z hz) hy hzb
  subst this
  exact hD (h1 z hz ha)
theorem dead_ok (w0 w : World) (L : Bks) (k : Int) (p : Nat) (cs : List Value) (kd : Int) (hs : HS w0 w L) (hp : (p, Row 93 cs) ∈ L) (hc : cs[1]? = some (.int .i8 kd)) :
  Ret Try.prog 39 [.int .i64 k, pv p] w fun v w' => v = .bool (decide (kd = 2)) ∧ HS w0 w' L := by
 refine calls_of_W Try.func39 rfl rfl rfl ?_
 refine W_seq ?_
 refine W_region ?_
 refine L_assign rfl rfl ?_
 refine RL_then ?_
 refine W_seq ?_
 refine W_region ?_
 refine L_move rfl rfl ?_
 refine L_nilCheck rfl rfl ?_
 refine L_fieldAddr rfl (off := 0) Try.underlying93 rfl rfl Try.ti49 rfl ?_
 refine L_fieldAddr rfl (off := 1) Try.underlying49 rfl rfl Try.ti44 rfl ?_
 refine L_load rfl Try.one44 rfl (by exact cellAM hs hp hc) ?_
 first | refine L_eql rfl rfl rfl (dtrue (by omega)) ?_ | refine L_eql rfl rfl rfl (dfalse (by omega)) ?_ | refine L_eql rfl rfl rfl rfl ?_
 refine L_assign rfl rfl ?_
 refine RL_then ?_
 refine W_ret' ?_
 refine Ex_done1 rfl rfl ?_
 exact ⟨_, rfl, rfl, hs⟩
abbrev K3 : KeyT Try.prog 3 (Value.int .i64) := KeyT.int Try.underlying3
set_option maxHeartbeats 1000000 in
theorem delete_ok (w0 w : World) (mb ck : Nat) (es : List Ent) (kd : Ent → Int) (A : Bks) (hs : HS w0 w ((mb, MapO (Value.int .i64) pv es ck) :: A)) (hK : EntOk es ck) (hA : ∀ x ∈ es, ∃ cs, (x.2.1, Row 93 cs) ∈ A ∧ cs[1]? = some (.int .i8 (kd x))) :
  Ret Try.prog 38 [.map (some mb), .func (.func 39) #[] #[]] w fun _ w' => HS w0 w' ((mb, MapO (Value.int .i64) pv (es.filter fun x => !decide (kd x = 2)) ck) :: A) := by
 refine calls_of_W Try.func38 rfl rfl rfl ?_
 refine W_seq ?_
 refine W_region ?_
 refine L_move rfl rfl ?_
 refine L_range rfl hs (List.mem_cons_self ..) Try.underlying85 rfl ?_; intro b7 w hb7 _ hs; replace hs := HS.push hs
 refine RL_then ?_
 refine W_block ?_
 refine W_loop3 (fun (vis : List Ent) (D : List Int) (w : World) => [(0, .map (some mb)), (1, .func (.func 39) #[] #[]), (7, .pointer (some ⟨b7, 0, none⟩))]) (fun (vis : List Ent) (D : List Int) (w : World) => w) (fun (vis : List Ent) (D : List Int) (w : World) => (∀ x ∈ vis, x ∈ es) ∧ (∀ x ∈ vis, decide (kd x = 2) = true → x.1 ∈ D) ∧ (∀ k ∈ D, ∃ x ∈ es, x.1 = k ∧ decide (kd x = 2) = true) ∧ (HS w0 w ((b7, ItO mb ck (vis.map (·.2.2)) ck) :: (mb, MapO (Value.int .i64) pv (curE es D) ck) :: A))) (fun (vis : List Ent) (D : List Int) (w : World) => (unseen (vis.map (·.2.2)) es).length) ([]) ([]) (_) (is := [0, 1, 7]) rfl rfl ?_ ?_
 ·
  refine ⟨fun x hx => (by cases hx), fun x hx => (by cases hx), fun x hx => (by cases hx), ?_⟩
  rw [show curE es [] = es by unfold curE; rw [List.filter_eq_self]; intro y _; rfl]
  exact hs
 ·
  clear hs
  intro vis D w hI
  show W _ _ _ _ [(0, .map (some mb)), (1, .func (.func 39) #[] #[]), (7, .pointer (some ⟨b7, 0, none⟩))] w
  obtain ⟨hsub, hD1, hD2, hs⟩ := hI
  have hKc := hK.sub (fun y => !D.contains y.1)
  refine W_seq ?_
  refine W_region ?_
  refine L_next rfl hs (i := 0) rfl (List.mem_cons_of_mem _ (List.mem_cons_self ..)) hKc.born (Nat.le_refl _) rfl ?_ ?_
  ·
   intro hall
   rw [curE_end hK hD1 hD2 hsub hall] at hs
   replace hs := HS.pop hs hb7
   refine L_extract rfl rfl rfl ?_
   refine RL_then ?_
   refine W_seq ?_
   refine W_if_false rfl ?_
   refine W_exit' ?_
   refine Ex_then_exit ?_
   refine Ex_loop_exit ?_
   refine Ex_block_hit ?_
   refine Nx_done0 rfl ?_
   exact ⟨_, rfl, hs⟩
  ·
   intro x hx hxs w hs
   have hxe : x ∈ es := (List.mem_filter.1 hx).1
   obtain ⟨cs, hcA, hcs⟩ := hA x hxe
   replace hs : HS w0 w ((b7, ItO mb ck (vis.map (·.2.2) ++ [x.2.2]) ck) :: (mb, MapO (Value.int .i64) pv (curE es D) ck) :: A) := hs
   refine L_extract rfl rfl rfl ?_
   refine RL_then ?_
   refine W_seq ?_
   refine W_if_true rfl ?_
   refine W_skip' ?_
   refine Nx_then ?_
   refine W_block ?_
   refine W_seq ?_
   refine W_region ?_
   refine L_entry rfl hs (List.mem_cons_self ..) (List.mem_cons_of_mem _ (List.mem_cons_self ..)) hx hKc.nd rfl ?_
   refine L_extract rfl rfl rfl ?_
   refine L_extract rfl rfl rfl ?_
   refine L_assign rfl rfl ?_
   refine L_assign rfl rfl ?_
   refine RL_then ?_
   refine W_seq ?_
   refine W_region ?_
   refine L_move rfl rfl ?_
   refine L_move rfl rfl ?_
   refine L_move rfl rfl ?_
   refine L_callV rfl Try.fun39 rfl rfl (dead_ok w0 w _ x.1 x.2.1 cs (kd x) hs (List.mem_cons_of_mem _ (List.mem_cons_of_mem _ hcA)) hcs) ?_
   rintro _ w1 ⟨rfl, hs1⟩
   clear hs
   have hs := hs1
   clear hs1
   have fmap : (vis ++ [x]).map (·.2.2) = vis.map (·.2.2) ++ [x.2.2] := by simp
   have flt : (unseen ((vis ++ [x]).map (·.2.2)) es).length < (unseen (vis.map (·.2.2)) es).length := by rw [fmap]; exact unseen_lt hxe hxs
   have fsub : ∀ y ∈ vis ++ [x], y ∈ es := fun y hy => (List.mem_append.1 hy).elim (hsub y) fun h => by rw [List.mem_singleton.1 h]; exact hxe
   by_cases h1 : kd x = 2
   ·
    have haw : decide (kd x = 2) = true := decide_eq_true h1
    rw [haw]
    refine RL_then ?_
    refine W_if_true rfl ?_
    refine W_region ?_
    refine L_move rfl rfl ?_
    refine L_move rfl rfl ?_
    refine L_mdel hs (i := 1) (k := x.1) rfl K3 Try.underlying85 rfl rfl ?_; intro w hs
    refine RL_nil' ?_
    refine Nx_block ?_
    refine Nx_loopP (vis ++ [x], D ++ [x.1], _) (is := [0, 1, 7]) (I' := (fun (vis : List Ent) (D : List Int) (w : World) => (∀ x ∈ vis, x ∈ es) ∧ (∀ x ∈ vis, decide (kd x = 2) = true → x.1 ∈ D) ∧ (∀ k ∈ D, ∃ x ∈ es, x.1 = k ∧ decide (kd x = 2) = true) ∧ (HS w0 w ((b7, ItO mb ck (vis.map (·.2.2)) ck) :: (mb, MapO (Value.int .i64) pv (curE es D) ck) :: A))) (vis ++ [x]) (D ++ [x.1]) (_)) rfl rfl rfl ?_ ?_
    ·
     refine ⟨fsub, fun y hy ha => ?_, fun k hk => ?_, ?_⟩
     ·
      rcases List.mem_append.1 hy with h | h
      ·
       exact List.mem_append_left _ (hD1 y h ha)
      ·
       rw [List.mem_singleton.1 h]; exact List.mem_append_right _ (List.mem_singleton.2 rfl)
     ·
      rcases List.mem_append.1 hk with h | h
      ·
       exact hD2 k h
      ·
       exact ⟨x, hxe, (List.mem_singleton.1 h).symm, haw⟩
     ·
      rw [fmap, curE_snoc, ← mdel_filter (l := curE es D) x.1 hKc.keys]
      exact hs
    ·
     exact flt
   ·
    have haw : decide (kd x = 2) = false := decide_eq_false h1
    rw [haw]
    refine RL_then ?_
    refine W_if_false rfl ?_
    refine W_skip' ?_
    refine Nx_block ?_
    refine Nx_loopP (vis ++ [x], D, _) (is := [0, 1, 7]) (I' := (fun (vis : List Ent) (D : List Int) (w : World) => (∀ x ∈ vis, x ∈ es) ∧ (∀ x ∈ vis, decide (kd x = 2) = true → x.1 ∈ D) ∧ (∀ k ∈ D, ∃ x ∈ es, x.1 = k ∧ decide (kd x = 2) = true) ∧ (HS w0 w ((b7, ItO mb ck (vis.map (·.2.2)) ck) :: (mb, MapO (Value.int .i64) pv (curE es D) ck) :: A))) (vis ++ [x]) (D) (_)) rfl rfl rfl ?_ ?_
    ·
     refine ⟨fsub, fun y hy ha => (List.mem_append.1 hy).elim (fun h => hD1 y h ha) fun h => ?_, hD2, by rw [fmap]; exact hs⟩
     rw [List.mem_singleton.1 h, haw] at ha; cases ha
    ·
     exact flt
end Go.Proofs.Ytdllakfojligjaa
