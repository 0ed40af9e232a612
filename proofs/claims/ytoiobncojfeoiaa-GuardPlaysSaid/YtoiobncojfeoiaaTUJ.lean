/-
 A part of the proof: what functions that the statement reaches do, or a plain law on what they do. Each theorem holds under its own premises alone.
-/
import Derived.Test.YtoiobncojfeoiaaTUI
namespace Go.Proofs.Ytoiobncojfeoiaa
open Go Go.Lk
/-! ### Watch -/
def zeroTv : Value := .agg #[.int .i64 0, .int .i8 0, .float .f64 0, .float .f64 0, .float .f64 0, .float .f64 0, .float .f64 0, .float .f64 0, .float .f64 0, .float .f64 0, .float .f64 0, .float .f64 0, .int .u16 0, .int .i64 0, .float .f64 0]
theorem look_tv (o : Option Tk) : (o.map tv).getD zeroTv = tv (o.getD tk0) := by cases o <;> rfl
theorem firmE_snoc (ts : List Tk) (t : Tk) : firmE (ts ++ [t]) = firmStep (firmE ts) t := by unfold firmE; rw [List.foldl_append]; rfl
theorem take_tk {ts : List Tk} {j : Nat} (h : j < ts.length) : ts.take (j + 1) = ts.take j ++ [ts.getD j tk0] := by
 rw [List.take_add_one, List.getD_eq_getElem?_getD, List.getElem?_eq_getElem h]; rfl
theorem KOk.sub {es : List KE} {ck : Nat} (h : KOk es ck) (p : KE → Bool) : KOk (es.filter p) ck :=
 ⟨(List.filter_sublist.map _).nodup h.keys, (List.filter_sublist.map _).nodup h.born, fun x hx => h.old x (List.mem_filter.1 hx).1⟩
theorem mdel_filter {κ ν : Type} [DecidableEq κ] (k : κ) : ∀ {l : List (κ × ν × Nat)}, (l.map (·.1)).Nodup → mdel k l = l.filter fun y => !decide (y.1 = k)
 | [], _ => rfl
 | x :: l, h => by
  rw [List.map_cons, List.nodup_cons] at h
  unfold mdel
  by_cases hx : x.1 = k
  ·
   rw [if_pos hx, List.filter_cons_of_neg (by simp [hx]), List.filter_eq_self.2]
   intro y hy
   have : y.1 ≠ k := fun hyk => h.1 (List.mem_map.2 ⟨y, hy, by rw [hyk, hx]⟩)
   simp [this]
  ·
   rw [if_neg hx, List.filter_cons_of_pos (by simp [hx]), mdel_filter k h.2]
def curE (es : List KE) (D : List (Int × Int)) : List KE := es.filter fun y => !D.contains y.1
theorem curE_snoc (es : List KE) (D : List (Int × Int)) (k : Int × Int) : curE es (D ++ [k]) = (curE es D).filter fun y => !decide (y.1 = k) := by
 unfold curE
 rw [List.filter_filter]
 apply List.filter_congr
 intro y _
 cases h : D.contains y.1 <;> by_cases hk : y.1 = k <;> simp_all
theorem nodup_at {α : Type} {l : List α} (h : l.Nodup) {i j : Nat} {x : α} (hi : l[i]? = some x) (hj : l[j]? = some x) : i = j := by
 obtain ⟨hi1, hi2⟩ := List.getElem?_eq_some_iff.1 hi
 obtain ⟨hj1, hj2⟩ := List.getElem?_eq_some_iff.1 hj
 have hp := List.pairwise_iff_getElem.1 h
 rcases Nat.lt_trichotomy i j with h3 | h3 | h3
 ·
  exact absurd (hi2.trans hj2.symm) (hp i j hi1 hj1 h3)
 ·
  exact h3
 ·
  exact absurd (hj2.trans hi2.symm) (hp j i hj1 hi1 h3)
theorem key_inj {es : List KE} (h : (es.map (·.1)).Nodup) {x y : KE} (hx : x ∈ es) (hy : y ∈ es) (hxy : x.1 = y.1) : x = y := by
 obtain ⟨i, hi, rfl⟩ := List.getElem_of_mem hx
 obtain ⟨j, hj, rfl⟩ := List.getElem_of_mem hy
 have : i = j := nodup_at h (i := i) (j := j) (x := es[i].1) (by simp [hi]) (by simp [hj, hxy])
 subst this; rfl
theorem curE_end {es : List KE} {ck : Nat} {fe : List FE} {D : List (Int × Int)} {vis : List KE} (hK : KOk es ck) (h1 : ∀ x ∈ vis, awayB fe x = true → x.1 ∈ D) (h2 : ∀ k ∈ D, ∃ x ∈ es, x.1 = k ∧ awayB fe x = true) (hsub : ∀ x ∈ vis, x ∈ es) (hall : ∀ x ∈ curE es D, x.2.2 ∈ vis.map (·.2.2)) : curE es D = nearE fe es := by
 unfold curE nearE
 apply List.filter_congr
 intro y hy
 congr 1
 rw [Bool.eq_iff_iff, List.contains_iff_mem]
 constructor
 ·
  intro hD
  obtain ⟨x, hx, hxk, ha⟩ := h2 _ hD
  rw [← key_inj hK.keys hx hy hxk]; exact ha
 ·
  intro ha
  apply Classical.byContradiction
  intro hD
  have hc : y ∈ curE es D := List.mem_filter.2 ⟨hy, by simp [hD]⟩
  obtain ⟨z, hz, hzb⟩ := List.mem_map.1 (hall y hc)
  have : z = y := by
   obtain ⟨i, hi, rfl⟩ := List.getElem_of_mem (hsub z hz)
   obtain ⟨j, hj, rfl⟩ := List.getElem_of_mem hy
   have : i = j := nodup_idx hK.born (i := i) (j := j) (x := es[i].2.2) (by simp [hi]) (by simp [hj, hzb])
   subst this; rfl
  subst this
  exact hD (h1 z hz ha)
theorem mput_len {κ ν : Type} [DecidableEq κ] (k : κ) (v : ν) (ck : Nat) : ∀ l : List (κ × ν × Nat), (mput k v ck l).length = if (mget k l).isSome then l.length else l.length + 1
 | [] => rfl
 | x :: l => by
  unfold mput mget
  by_cases h : x.1 = k
  ·
   rw [if_pos h, if_pos h]; rfl
  ·
   rw [if_neg h, if_neg h, List.length_cons, mput_len k v ck l]
   split <;> rfl
theorem firmE_len (ts : List Tk) : (firmE ts).1.length ≤ ts.length := by
 unfold firmE
 have key : ∀ (ts : List Tk) (s : List FE × Nat), (ts.foldl firmStep s).1.length ≤ s.1.length + ts.length := by
  intro ts
  induction ts with
  | nil => intro s; exact Nat.le_refl _
  | cons t ts ih =>
   intro s
   refine Nat.le_trans (ih (firmStep s t)) ?_
   have : (firmStep s t).1.length ≤ s.1.length + 1 := by
    unfold firmStep
    split
    ·
     show (mput t.id t s.2 s.1).length ≤ _
     rw [mput_len]; split <;> omega
    ·
     omega
   rw [List.length_cons]; omega
 have := key ts ([], 0)
 simpa using this
theorem mput_none {κ ν : Type} [DecidableEq κ] {k : κ} {v : ν} {ck : Nat} : ∀ {l : List (κ × ν × Nat)}, mget k l = none → mput k v ck l = l ++ [(k, v, ck)]
 | [], _ => rfl
 | x :: l, h => by
  unfold mget at h
  split at h
  ·
   cases h
  ·
   next hx => unfold mput; rw [if_neg hx, mput_none h]; rfl
theorem mget_none {κ ν : Type} [DecidableEq κ] {k : κ} : ∀ {l : List (κ × ν × Nat)}, mget k l = none → ∀ x ∈ l, x.1 ≠ k
 | [], _ => fun x hx => by cases hx
 | y :: l, h => fun x hx => by
  unfold mget at h
  split at h
  ·
   cases h
  ·
   next hy =>
   rcases List.mem_cons.1 hx with rfl | hx
   ·
    exact hy
   ·
    exact mget_none h x hx
structure MOk {κ ν : Type} (es : List (κ × ν × Nat)) (ck : Nat) : Prop where
 keys : (es.map (·.1)).Nodup
 born : (es.map (·.2.2)).Nodup
 old : ∀ x ∈ es, x.2.2 < ck
theorem MOk.push {κ ν : Type} [DecidableEq κ] {l : List (κ × ν × Nat)} {ck : Nat} (h : MOk l ck) {k : κ} (v : ν) (hg : mget k l = none) : MOk (l ++ [(k, v, ck)]) (ck + 1) := by
 refine ⟨?_, ?_, fun x hx => ?_⟩
 ·
  rw [List.map_append, List.nodup_append]
  refine ⟨h.keys, by simp, fun a ha b hb hab => ?_⟩
  obtain ⟨x, hx, rfl⟩ := List.mem_map.1 ha
  rw [List.map_singleton, List.mem_singleton] at hb
  exact mget_none hg x hx (hab.trans hb)
 ·
  rw [List.map_append, List.nodup_append]
  refine ⟨h.born, by simp, fun a ha b hb hab => ?_⟩
  obtain ⟨x, hx, rfl⟩ := List.mem_map.1 ha
  rw [List.map_singleton, List.mem_singleton] at hb
  have := h.old x hx
  rw [hab, hb] at this
  exact Nat.lt_irrefl _ this
 ·
  rcases List.mem_append.1 hx with hx | hx
  ·
   exact Nat.lt_succ_of_lt (h.old x hx)
  ·
   rw [List.mem_singleton.1 hx]; exact Nat.lt_succ_self _
theorem firmE_ok (ts : List Tk) : MOk (firmE ts).1 (firmE ts).2 := by
 have key : ∀ (ts : List Tk) (s : List FE × Nat), MOk s.1 s.2 → MOk (ts.foldl firmStep s).1 (ts.foldl firmStep s).2 := by
  intro ts
  induction ts with
  | nil => intro s h; exact h
  | cons t ts ih =>
   intro s h
   refine ih (firmStep s t) ?_
   unfold firmStep
   split
   ·
    next hc =>
    have hg : mget t.id s.1 = none := by simpa using hc.2
    show MOk (mput t.id t s.2 s.1) (mclk t.id s.2 s.1)
    rw [mput_none hg, mclk, hg]
    exact h.push t hg
   ·
    exact h
 exact key ts ([], 0) ⟨List.nodup_nil, List.nodup_nil, fun x hx => by cases hx⟩
theorem getD_mem {α : Type} {l : List α} {i : Nat} {d : α} (h : i < l.length) : l.getD i d ∈ l := by
 rw [List.getD_eq_getElem?_getD, List.getElem?_eq_getElem h]; exact List.getElem_mem h
theorem MOk.of {es : List KE} {ck : Nat} (h : KOk es ck) : MOk es ck := ⟨h.keys, h.born, h.old⟩
def gonL (fe : List FE) (z : Int) (es : List KE) : List Int := (es.filter (goneB fe z)).map (·.1.2)
theorem gonL_len (fe : List FE) (z : Int) (es : List KE) : (gonL fe z es).length ≤ es.length := by unfold gonL; rw [List.length_map]; exact List.length_filter_le ..
theorem gonL_snoc (fe : List FE) (z : Int) (es : List KE) (x : KE) : gonL fe z (es ++ [x]) = gonL fe z es ++ (if goneB fe z x = true then [x.1.2] else []) := by
 unfold gonL
 rw [List.filter_append, List.map_append]
 congr 1
 cases h : goneB fe z x <;> simp [h]
theorem take_zn {zs : List Zn} {j : Nat} (h : j < zs.length) : zs.take (j + 1) = zs.take j ++ [zs.getD j zn0] := by
 rw [List.take_add_one, List.getD_eq_getElem?_getD, List.getElem?_eq_getElem h]; rfl
theorem ids_firm (fe : List FE) (es : List KE) (z : Int) : ((idsOf fe es z).filter fun id => (mget id fe).isSome).length ≤ fe.length := by
 have hp : ((idsOf fe es z).filter fun id => (mget id fe).isSome).Perm _ := (isort_perm _).filter _
 rw [hp.length_eq, List.filter_append, List.length_append]
 have h2 : ((es.filter (goneB fe z)).map (·.1.2)).filter (fun id => (mget id fe).isSome) = [] := by
  rw [List.filter_eq_nil_iff]
  intro id hid
  obtain ⟨x, hx, rfl⟩ := List.mem_map.1 hid
  have hg := (List.mem_filter.1 hx).2
  unfold goneB at hg
  simp only [Bool.and_eq_true] at hg
  intro h
  cases hm : mget x.1.2 fe with
  | none => rw [hm] at h; cases h
  | some y => rw [hm] at hg; cases hg.2
 rw [h2]
 have := List.length_filter_le (fun id => (mget id fe).isSome) (fe.map (·.1))
 rw [List.length_map] at this
 simpa using this
theorem look_iv (o : Option Int) : (o.map (Value.int .i64)).getD (.int .i64 0) = .int .i64 (o.getD 0) := by cases o <;> rfl
theorem mdel_mput {κ ν : Type} [DecidableEq κ] (k : κ) (v : ν) (ck : Nat) : ∀ l : List (κ × ν × Nat), mdel k (mput k v ck l) = mdel k l
 | [] => by simp [mput, mdel]
 | x :: l => by
  by_cases h : x.1 = k
  ·
   simp [mput, mdel, h]
  ·
   simp [mput, mdel, h, mdel_mput k v ck l]
theorem mdel_len {κ ν : Type} [DecidableEq κ] (k : κ) : ∀ l : List (κ × ν × Nat), (mdel k l).length ≤ l.length
 | [] => Nat.le_refl _
 | x :: l => by
  unfold mdel
  split
  ·
   simp
  ·
   have := mdel_len k l
   simp only [List.length_cons]; omega
theorem mput_some {κ ν : Type} [DecidableEq κ] {k : κ} {v : ν} {ck : Nat} : ∀ {l : List (κ × ν × Nat)}, (mget k l).isSome = true → (mput k v ck l).map (·.1) = l.map (·.1) ∧ (mput k v ck l).map (·.2.2) = l.map (·.2.2)
 | [], h => by simp [mget] at h
 | x :: l, h => by
  unfold mget at h
  unfold mput
  by_cases hx : x.1 = k
  ·
   rw [if_pos hx]; exact ⟨by simp [hx], rfl⟩
  ·
   rw [if_neg hx] at h ⊢
   obtain ⟨h1, h2⟩ := mput_some (v := v) (ck := ck) h
   exact ⟨by simp [h1], by simp [h2]⟩
theorem mput_ok {es : List KE} {ck : Nat} (h : KOk es ck) (k : Int × Int) (v : Int) : KOk (mput k v ck es) (mclk k ck es) := by
 unfold mclk
 cases hg : mget k es with
 | none =>
  rw [mput_none hg]
  have := (MOk.of h).push v hg
  exact ⟨this.keys, this.born, this.old⟩
 | some u =>
  obtain ⟨h1, h2⟩ := mput_some (v := v) (ck := ck) (l := es) (k := k) (by rw [hg]; rfl)
  refine ⟨by rw [h1]; exact h.keys, by rw [h2]; exact h.born, fun x hx => ?_⟩
  have hm : x.2.2 ∈ (mput k v ck es).map (·.2.2) := List.mem_map.2 ⟨x, hx, rfl⟩
  rw [h2] at hm
  obtain ⟨y, hy, hyx⟩ := List.mem_map.1 hm
  have := h.old y hy
  show x.2.2 < ck
  omega
theorem mdel_ok {es : List KE} {ck : Nat} (h : KOk es ck) (k : Int × Int) : KOk (mdel k es) ck := by
 rw [mdel_filter k h.keys]; exact h.sub _
/-- what Watch reads beside the map -/
structure WOk (w0 : World) (A : Bks) (B far : Nat) (v : Value) (ever : Int) (m : Nat) (zs : List Zn) (a : Option Addr) (ts : List Tk) : Prop where
 guard : (B, Row 87 [.float .f64 far, v, .int .i64 ever, .map (some m)]) ∈ A
 own : Own w0 A
 ownm : w0.heap.size ≤ m
 zones : ∃ az cz, v = .slice az zs.length cz ∧ ∀ w' L', HS w0 w' L' → (∀ p ∈ A, p ∈ L') → SlC w' az (zcs zs)
 each : ∀ z ∈ zs, ∃ ac cc, z.v = .slice ac z.ps.length cc ∧ ∀ w' L', HS w0 w' L' → (∀ p ∈ A, p ∈ L') → SlC w' ac (pcs z.ps)
 tracks : ∀ w' L', HS w0 w' L' → Own w0 L' → (∀ p ∈ A, p ∈ L') → SlC w' a (tcs ts)
set_option maxHeartbeats 4000000 in
theorem watchW (w0 w : World) (A : Bks) (B far : Nat) (v : Value) (ever : Int) (m : Nat) (es : List KE) (ck : Nat) (zs : List Zn) (time : Nat) (a : Option Addr) (n c : Nat) (ts : List Tk) (hs : HS w0 w ((m, KO es ck) :: A)) (hW : WOk w0 A B far v ever m zs a ts) (hK : KOk es ck) (hle : es.length ≤ 1000000) (hn : ts.length = n) (hn2 : n ≤ 5000) (hz : zs.length ≤ 64) :
  Ret Try.prog 15 [.pointer (some ⟨B, 0, none⟩), .float .f64 time, .slice a n c] w fun r w' => ∃ N, HS w0 w' (((m, KO (watchF far time zs es ck ts).es (watchF far time zs es ck ts).ck) :: A) ++ N) ∧ Bl w0 51 4 r (watchF far time zs es ck ts).told.length (acs (watchF far time zs es ck ts).told) N ∧ KOk (watchF far time zs es ck ts).es (watchF far time zs es ck ts).ck ∧ (watchF far time zs es ck ts).es.length ≤ es.length + zs.length * ts.length := by
 refine calls_of_W Try.func15 rfl rfl rfl ?_
 refine W_seq ?_
 refine W_region ?_
 refine L_box rfl hs rfl ?_
 intro b4 w hb4 hnb4 hs
 try dsimp only [List.set_cons_succ, List.set_cons_zero, List.cons_append, List.nil_append] at hs
 replace hs : HS w0 w ((b4, Row 23 [.float .f64 time]) :: (m, KO es ck) :: A) := HS.push (L := (m, KO es ck) :: A) hs
 refine L_assign rfl rfl ?_
 refine RL_then ?_
 refine W_seq ?_
 refine W_seq ?_
 refine W_region ?_
 refine L_move rfl rfl ?_
 refine L_ptrNil rfl Try.underlying34 rfl rfl ?_
 refine RL_then ?_
 refine W_if_false rfl ?_
 refine W_skip' ?_
 refine Nx_then ?_
 refine W_seq ?_
 refine W_region ?_
 refine L_makeMap rfl hs ?_; intro mf w hmf _ hs; replace hs := HS.push (L := (b4, Row 23 [.float .f64 time]) :: (m, KO es ck) :: A) hs
 refine L_assign rfl rfl ?_
 refine RL_then ?_
 refine W_seq ?_
 refine W_seq ?_
 refine W_region ?_
 refine L_move rfl rfl ?_
 refine L_len rfl Try.underlying44 rfl ?_
 refine L_move rfl rfl ?_
 refine RL_then ?_
 refine W_block ?_
 replace hs : HS w0 w ((mf, FO [] 0) :: (b4, Row 23 [.float .f64 time]) :: (m, KO es ck) :: A) := hs
 refine W_loop2 (fun (i : Nat) (w : World) => [(0, .pointer (some ⟨B, 0, none⟩)), (4, .pointer (some ⟨b4, 0, none⟩)), (7, .map (some mf)), (36, .slice a n c), (37, .int .i64 n), (38, .int .i64 i)]) (fun (i : Nat) (w : World) => w) (fun (i : Nat) (w : World) => (i ≤ n) ∧ (HS w0 w ((mf, FO (firmE (ts.take i)).1 (firmE (ts.take i)).2) :: (b4, Row 23 [.float .f64 time]) :: (m, KO es ck) :: A))) (fun (i : Nat) (w : World) => n - i) (0) (w) (is := [0, 4, 7, 36, 37, 38]) rfl rfl ?_ ?_
 ·
  exact ⟨Nat.zero_le _, hs⟩
 ·
  clear hs
  intro i w hI
  show W _ _ _ _ [(0, .pointer (some ⟨B, 0, none⟩)), (4, .pointer (some ⟨b4, 0, none⟩)), (7, .map (some mf)), (36, .slice a n c), (37, .int .i64 n), (38, .int .i64 i)] w
  obtain ⟨hi, hs⟩ := hI
  have hoL : ∀ fe fk, Own w0 ((mf, FO fe fk) :: (b4, Row 23 [.float .f64 time]) :: (m, KO es ck) :: A) := fun fe fk => Own.cons hmf (Own.cons hb4 (Own.cons hW.ownm hW.own))
  have hAm : ∀ fe fk, ∀ p ∈ A, p ∈ ((mf, FO fe fk) :: (b4, Row 23 [.float .f64 time]) :: (m, KO es ck) :: A) := fun fe fk p hp => List.mem_cons_of_mem _ (List.mem_cons_of_mem _ (List.mem_cons_of_mem _ hp))
  by_cases hlt : i < n
  ·
   obtain ⟨t, ht⟩ : ∃ t, t = ts.getD i tk0 := ⟨_, rfl⟩
   obtain ⟨fe, hfe⟩ : ∃ fe, fe = (firmE (ts.take i)).1 := ⟨_, rfl⟩
   obtain ⟨fk, hfk⟩ : ∃ fk, fk = (firmE (ts.take i)).2 := ⟨_, rfl⟩
   have hstep : firmE (ts.take (i + 1)) = firmStep (fe, fk) t := by rw [take_tk (by omega), firmE_snoc, ht, hfe, hfk]
   rw [← hfe, ← hfk] at hs
   have hT := hW.tracks _ _ hs (hoL _ _) (hAm _ _)
   have hat : CellsAt w ((aD a).add (i * 15)) t.cells := by rw [ht]; exact tk_at hT (by omega)
   refine W_seq ?_
   refine W_region ?_
   first | refine L_lss rfl rfl rfl (dtrue (by omega)) ?_ | refine L_lss rfl rfl rfl (dfalse (by omega)) ?_ | refine L_lss rfl rfl rfl rfl ?_
   refine RL_then ?_
   refine W_seq ?_
   refine W_if_true rfl ?_
   refine W_skip' ?_
   refine Nx_then ?_
   refine W_seq ?_
   refine W_block ?_
   refine W_seq ?_
   refine W_region ?_
   refine L_idxN rfl Try.underlying44 Try.ti60 rfl rfl (by with_reducible first | exact natc_k _ | exact natc_a1 _ | exact natc_0 | exact natc_1 | exact natc_2 | exact natc_s1 _ (by omega) | exact natc_a2 _ | exact natc_add _ _ | exact natc_mul _ _ | exact natc (by omega)) (by omega) (hT.ao (by rw [tcs_len]; omega)) ?_
   refine L_loadA rfl Try.agg60 Try.ti60 rfl (by exact hat) ?_
   refine L_alloc rfl hs Try.ti60 ?_; intro b9 w hb9 _ hs; replace hs := HS.push hs
   refine L_storeA hs (i := 0) rfl Try.ti60 rfl rfl (by first | rfl | exact add_lit0 _ _ | exact Addr.add_lit .. | (rw [add_add]; exact add_lit0 _ _)) (by simp [Tk.cells]) (by exact Tk.one _) ?_
   intro w hs
   try dsimp only [List.set_cons_succ, List.set_cons_zero, List.cons_append, List.nil_append] at hs
   refine RL_then ?_
   refine W_seq ?_
   replace hs : HS w0 w ((b9, Row 60 t.cells) :: (mf, FO fe fk) :: (b4, Row 23 [.float .f64 time]) :: (m, KO es ck) :: A) := hs
   refine W_region ?_
   refine L_move rfl rfl ?_
   refine L_fieldAddr rfl (off := 0) Try.underlying60 rfl rfl Try.ti3 rfl ?_
   refine L_load rfl Try.one3 rfl (by first | exact hs.cell (i := 0) rfl rfl | exact hs.cell (i := 1) rfl rfl) ?_
   refine L_look2 (k := t.id) (ev := tv) (z := zeroTv) rfl K3 Try.underlying95 Try.ti60 (hs.get (i := 1) rfl) rfl rfl ?_; rw [look_tv]
   refine L_move rfl rfl ?_
   refine L_extract rfl rfl rfl ?_
   refine L_extract rfl rfl rfl ?_
   refine L_alloc rfl hs Try.ti60 ?_; intro b10 w hb10 _ hs; replace hs := HS.push hs
   refine L_storeA hs (i := 0) rfl Try.ti60 rfl rfl (by first | rfl | exact add_lit0 _ _ | exact Addr.add_lit .. | (rw [add_add]; exact add_lit0 _ _)) (by simp [Tk.cells]) (by exact Tk.one _) ?_
   intro w hs
   try dsimp only [List.set_cons_succ, List.set_cons_zero, List.cons_append, List.nil_append] at hs
   refine L_assign rfl rfl ?_
   refine RL_then ?_
   refine W_seq ?_
   replace hs : HS w0 w ((b9, Row 60 t.cells) :: (mf, FO fe fk) :: (b4, Row 23 [.float .f64 time]) :: (m, KO es ck) :: A) := HS.pop hs hb10
   by_cases hk : t.kind = 1
   ·
    rcases (Bool.eq_false_or_eq_true (mget t.id fe).isSome).symm with hg | hg
    ·
     refine W_set 11 (v' := .bool false) rfl (by rw [hg]; rfl) ?_
     refine W_region ?_
     refine L_fieldAddr rfl (off := 1) Try.underlying60 rfl rfl Try.ti49 rfl ?_
     refine L_load rfl Try.one49 rfl (by first | exact hs.cell (i := 0) rfl rfl) ?_
     first | refine L_eql rfl rfl rfl (dtrue (by omega)) ?_ | refine L_eql rfl rfl rfl (dfalse (by omega)) ?_ | refine L_eql rfl rfl rfl rfl ?_
     refine L_move rfl rfl ?_
     first | (refine RL_want rfl rfl ?_; refine L_move rfl rfl ?_) | refine RL_skip rfl rfl rfl rfl ?_ | refine RL_skipU rfl rfl rfl ?_
     first | (refine RL_want rfl rfl ?_; refine L_not rfl rfl ?_) | refine RL_skip rfl rfl rfl rfl ?_ | refine RL_skipU rfl rfl rfl ?_
     first | refine L_pick_t rfl rfl rfl ?_ | refine L_pick_f rfl rfl rfl ?_
     refine RL_then ?_
     refine W_if_true rfl ?_
     refine W_region ?_
     refine L_move rfl rfl ?_
     refine L_fieldAddr rfl (off := 0) Try.underlying60 rfl rfl Try.ti3 rfl ?_
     refine L_load rfl Try.one3 rfl (by first | exact hs.cell (i := 0) rfl rfl) ?_
     refine L_loadA rfl Try.agg60 Try.ti60 rfl (by exact cellsAt_whole (cs := t.cells) (hs.get (i := 0) rfl)) ?_
     refine L_mput hs (i := 1) (k := t.id) (v := t) (ev := tv) rfl K3 Try.underlying95 rfl rfl rfl ?_; intro w hs
     refine RL_nil' ?_
     refine Nx_block ?_
     refine Nx_then ?_
     refine W_region ?_
     first | refine L_add rfl rfl rfl (wrp_i64 (by omega)) ?_ | refine L_add rfl rfl rfl rfl ?_
     refine L_move rfl rfl ?_
     refine RL_nil' ?_
     have e : firmStep (fe, fk) t = (mput t.id t fk fe, mclk t.id fk fe) := by
      unfold firmStep
      have : (mget t.id fe).isNone = true := by cases h : mget t.id fe with
       | none => rfl
       | some x => rw [h] at hg; cases hg
      rw [if_pos ⟨hk, this⟩]
     refine Nx_loopP (i + 1, _) (is := [0, 4, 7, 36, 37, 38]) (I' := (fun (i : Nat) (w : World) => (i ≤ n) ∧ (HS w0 w ((mf, FO (firmE (ts.take i)).1 (firmE (ts.take i)).2) :: (b4, Row 23 [.float .f64 time]) :: (m, KO es ck) :: A))) (i + 1) (_)) rfl rfl rfl ?_ ?_
     ·
      refine ⟨hlt, ?_⟩
      rw [hstep, e]
      exact HS.pop (L := (mf, FO (mput t.id t fk fe) (mclk t.id fk fe)) :: (b4, Row 23 [.float .f64 time]) :: (m, KO es ck) :: A) hs hb9
     ·
      omega
    ·
     refine W_set 11 (v' := .bool true) rfl (by rw [hg]; rfl) ?_
     refine W_region ?_
     refine L_fieldAddr rfl (off := 1) Try.underlying60 rfl rfl Try.ti49 rfl ?_
     refine L_load rfl Try.one49 rfl (by first | exact hs.cell (i := 0) rfl rfl) ?_
     first | refine L_eql rfl rfl rfl (dtrue (by omega)) ?_ | refine L_eql rfl rfl rfl (dfalse (by omega)) ?_ | refine L_eql rfl rfl rfl rfl ?_
     refine L_move rfl rfl ?_
     first | (refine RL_want rfl rfl ?_; refine L_move rfl rfl ?_) | refine RL_skip rfl rfl rfl rfl ?_ | refine RL_skipU rfl rfl rfl ?_
     first | (refine RL_want rfl rfl ?_; refine L_not rfl rfl ?_) | refine RL_skip rfl rfl rfl rfl ?_ | refine RL_skipU rfl rfl rfl ?_
     first | refine L_pick_t rfl rfl rfl ?_ | refine L_pick_f rfl rfl rfl ?_
     refine RL_then ?_
     refine W_if_false rfl ?_
     refine W_skip' ?_
     refine Nx_block ?_
     refine Nx_then ?_
     refine W_region ?_
     first | refine L_add rfl rfl rfl (wrp_i64 (by omega)) ?_ | refine L_add rfl rfl rfl rfl ?_
     refine L_move rfl rfl ?_
     refine RL_nil' ?_
     have e : firmStep (fe, fk) t = (fe, fk) := by
      unfold firmStep
      rw [if_neg (fun h => by have h2 := h.2; cases hm : mget t.id fe with
       | none => rw [hm] at hg; cases hg
       | some x => rw [hm] at h2; cases h2)]
     refine Nx_loopP (i + 1, _) (is := [0, 4, 7, 36, 37, 38]) (I' := (fun (i : Nat) (w : World) => (i ≤ n) ∧ (HS w0 w ((mf, FO (firmE (ts.take i)).1 (firmE (ts.take i)).2) :: (b4, Row 23 [.float .f64 time]) :: (m, KO es ck) :: A))) (i + 1) (_)) rfl rfl rfl ?_ ?_
     ·
      refine ⟨hlt, ?_⟩
      rw [hstep, e]
      exact HS.pop (L := (mf, FO fe fk) :: (b4, Row 23 [.float .f64 time]) :: (m, KO es ck) :: A) hs hb9
     ·
      omega
   ·
    refine W_region ?_
    refine L_fieldAddr rfl (off := 1) Try.underlying60 rfl rfl Try.ti49 rfl ?_
    refine L_load rfl Try.one49 rfl (by first | exact hs.cell (i := 0) rfl rfl) ?_
    first | refine L_eql rfl rfl rfl (dtrue (by omega)) ?_ | refine L_eql rfl rfl rfl (dfalse (by omega)) ?_ | refine L_eql rfl rfl rfl rfl ?_
    refine L_move rfl rfl ?_
    first | (refine RL_want rfl rfl ?_; refine L_move rfl rfl ?_) | refine RL_skip rfl rfl rfl rfl ?_ | refine RL_skipU rfl rfl rfl ?_
    first | (refine RL_want rfl rfl ?_; refine L_not rfl rfl ?_) | refine RL_skip rfl rfl rfl rfl ?_ | refine RL_skipU rfl rfl rfl ?_
    first | refine L_pick_t rfl rfl rfl ?_ | refine L_pick_f rfl rfl rfl ?_
    refine RL_then ?_
    refine W_if_false rfl ?_
    refine W_skip' ?_
    refine Nx_block ?_
    refine Nx_then ?_
    refine W_region ?_
    first | refine L_add rfl rfl rfl (wrp_i64 (by omega)) ?_ | refine L_add rfl rfl rfl rfl ?_
    refine L_move rfl rfl ?_
    refine RL_nil' ?_
    have e : firmStep (fe, fk) t = (fe, fk) := by
     unfold firmStep
     rw [if_neg (fun h => hk h.1)]
    refine Nx_loopP (i + 1, _) (is := [0, 4, 7, 36, 37, 38]) (I' := (fun (i : Nat) (w : World) => (i ≤ n) ∧ (HS w0 w ((mf, FO (firmE (ts.take i)).1 (firmE (ts.take i)).2) :: (b4, Row 23 [.float .f64 time]) :: (m, KO es ck) :: A))) (i + 1) (_)) rfl rfl rfl ?_ ?_
    ·
     refine ⟨hlt, ?_⟩
     rw [hstep, e]
     exact HS.pop (L := (mf, FO fe fk) :: (b4, Row 23 [.float .f64 time]) :: (m, KO es ck) :: A) hs hb9
    ·
     omega
  ·
   obtain rfl : i = n := by omega
   rw [List.take_of_length_le (by omega)] at hs
   obtain ⟨fe, hfe⟩ : ∃ fe, fe = (firmE ts).1 := ⟨_, rfl⟩
   obtain ⟨fk, hfk⟩ : ∃ fk, fk = (firmE ts).2 := ⟨_, rfl⟩
   rw [← hfe, ← hfk] at hs
   refine W_seq ?_
   refine W_region ?_
   first | refine L_lss rfl rfl rfl (dtrue (by omega)) ?_ | refine L_lss rfl rfl rfl (dfalse (by omega)) ?_ | refine L_lss rfl rfl rfl rfl ?_
   refine RL_then ?_
   refine W_seq ?_
   refine W_if_false rfl ?_
   refine W_exit' ?_
   refine Ex_then_exit ?_
   refine Ex_loop_exit ?_
   refine Ex_block_hit ?_
   refine Nx_then ?_
   refine W_seq ?_
   refine W_seq ?_
   refine W_region ?_
   refine L_move rfl rfl ?_
   refine L_nilCheck rfl rfl ?_
   refine L_fieldAddr rfl (off := 3) Try.underlying87 rfl rfl Try.ti84 rfl ?_
   refine L_load rfl Try.one84 rfl (by exact HS.cellM hs (hAm _ _ _ hW.guard) rfl) ?_
   refine L_range rfl hs (List.mem_cons_of_mem _ (List.mem_cons_of_mem _ (List.mem_cons_self ..))) Try.underlying84 rfl ?_; intro b65 w hb65 _ hs; replace hs := HS.push hs
   refine RL_then ?_
   refine W_block ?_
   refine W_loop3 (fun (vis : List KE) (D : List (Int × Int)) (w : World) => [(0, .pointer (some ⟨B, 0, none⟩)), (4, .pointer (some ⟨b4, 0, none⟩)), (7, .map (some mf)), (65, .pointer (some ⟨b65, 0, none⟩))]) (fun (vis : List KE) (D : List (Int × Int)) (w : World) => w) (fun (vis : List KE) (D : List (Int × Int)) (w : World) => (∀ x ∈ vis, x ∈ es) ∧ (∀ x ∈ vis, awayB fe x = true → x.1 ∈ D) ∧ (∀ k ∈ D, ∃ x ∈ es, x.1 = k ∧ awayB fe x = true) ∧ (HS w0 w ((b65, ItO m ck (vis.map (·.2.2)) ck) :: (mf, FO fe fk) :: (b4, Row 23 [.float .f64 time]) :: (m, KO (curE es D) ck) :: A))) (fun (vis : List KE) (D : List (Int × Int)) (w : World) => (unseen (vis.map (·.2.2)) es).length) ([]) ([]) (_) (is := [0, 4, 7, 65]) rfl rfl ?_ ?_
   ·
    refine ⟨fun x hx => (by cases hx), fun x hx => (by cases hx), fun x hx => (by cases hx), ?_⟩
    rw [show curE es [] = es by unfold curE; rw [List.filter_eq_self]; intro y _; rfl]
    exact hs
   ·
    clear hs
    intro vis D w hI
    show W _ _ _ _ [(0, .pointer (some ⟨B, 0, none⟩)), (4, .pointer (some ⟨b4, 0, none⟩)), (7, .map (some mf)), (65, .pointer (some ⟨b65, 0, none⟩))] w
    obtain ⟨hsub, hD1, hD2, hs⟩ := hI
    have hKc := hK.sub (fun y => !D.contains y.1)
    refine W_seq ?_
    refine W_region ?_
    refine L_next rfl hs (i := 0) rfl (List.mem_cons_of_mem _ (List.mem_cons_of_mem _ (List.mem_cons_of_mem _ (List.mem_cons_self ..)))) hKc.old (Nat.le_refl _) rfl ?_ ?_
    ·
     intro hall
     rw [curE_end hK hD1 hD2 hsub hall] at hs
     replace hs := HS.pop hs hb65
     obtain ⟨az, cz, rfl, hZ⟩ := hW.zones
     refine L_extract rfl rfl rfl ?_
     refine RL_then ?_
     refine W_seq ?_
     refine W_if_false rfl ?_
     refine W_exit' ?_
     refine Ex_then_exit ?_
     refine Ex_loop_exit ?_
     refine Ex_block_hit ?_
     refine Nx_then ?_
     refine W_seq ?_
     refine W_region ?_
     refine L_alloc rfl hs Try.ti47 ?_; intro b16 w hb16 _ hs; replace hs := HS.push hs
     refine RL_then ?_
     refine W_seq ?_
     refine W_seq ?_
     refine W_region ?_
     refine L_move rfl rfl ?_
     refine L_nilCheck rfl rfl ?_
     refine L_fieldAddr rfl (off := 1) Try.underlying87 rfl rfl Try.ti85 rfl ?_
     refine L_load rfl Try.one85 rfl (by exact HS.cellM hs (List.mem_cons_of_mem _ (List.mem_cons_of_mem _ (List.mem_cons_of_mem _ (List.mem_cons_of_mem _ hW.guard)))) rfl) ?_
     refine L_len rfl Try.underlying85 rfl ?_
     refine L_move rfl rfl ?_
     refine RL_then ?_
     refine W_block ?_
     obtain ⟨S0, hS0⟩ : ∃ S0 : WS, S0 = ⟨[], nearE fe es, ck⟩ := ⟨_, rfl⟩
     have hfl : fe.length ≤ 5000 := by rw [hfe]; exact Nat.le_trans (firmE_len ts) (by omega)
     have hnl : (nearE fe es).length ≤ es.length := List.length_filter_le ..
     replace hs : HS w0 w (((b16, Row 47 [.slice none 0 0]) :: (m, KO (nearE fe es) ck) :: (mf, FO fe fk) :: (b4, Row 23 [.float .f64 time]) :: A) ++ []) := by
      rw [List.append_nil]
      exact HS.re (L := (b16, Row 47 [.slice none 0 0]) :: (mf, FO fe fk) :: (b4, Row 23 [.float .f64 time]) :: (m, KO (nearE fe es) ck) :: A) hs (fun c => by simp only [List.map_append, List.map_cons, List.map_nil, List.sum_append, List.sum_cons, List.sum_nil]; omega)
     have hoA : ∀ v e k, Own w0 ((b16, Row 47 [v]) :: (m, KO e k) :: (mf, FO fe fk) :: (b4, Row 23 [.float .f64 time]) :: A) := fun v e k => Own.cons hb16 (Own.cons hW.ownm (Own.cons hmf (Own.cons hb4 hW.own)))
     refine W_loop5 (fun (i : Nat) (S : WS) (vt : Value) (Mt : Bks) (w : World) => [(0, .pointer (some ⟨B, 0, none⟩)), (4, .pointer (some ⟨b4, 0, none⟩)), (7, .map (some mf)), (16, .pointer (some ⟨b16, 0, none⟩)), (92, .slice az zs.length cz), (93, .int .i64 zs.length), (94, .int .i64 i)]) (fun (i : Nat) (S : WS) (vt : Value) (Mt : Bks) (w : World) => w) (fun (i : Nat) (S : WS) (vt : Value) (Mt : Bks) (w : World) => (i ≤ zs.length) ∧ (S = (zs.take i).foldl (zoneStep far time fe) S0) ∧ (KOk S.es S.ck) ∧ (S.es.length ≤ es.length + i * fe.length) ∧ (S.told.length ≤ i * 2000000) ∧ (Bl w0 51 4 vt S.told.length (acs S.told) Mt) ∧ (HS w0 w (((b16, Row 47 [vt]) :: (m, KO S.es S.ck) :: (mf, FO fe fk) :: (b4, Row 23 [.float .f64 time]) :: A) ++ Mt))) (fun (i : Nat) (S : WS) (vt : Value) (Mt : Bks) (w : World) => zs.length - i) (0) (S0) (.slice none 0 0) ([]) (_) (is := [0, 4, 7, 16, 92, 93, 94]) rfl rfl ?_ ?_
     ·
      rw [hS0]
      exact ⟨Nat.zero_le _, rfl, hK.sub _, by simpa using hnl, Nat.zero_le _, Bl.nil, hs⟩
     ·
      clear hs
      intro i S vt Mt w hI
      show W _ _ _ _ [(0, .pointer (some ⟨B, 0, none⟩)), (4, .pointer (some ⟨b4, 0, none⟩)), (7, .map (some mf)), (16, .pointer (some ⟨b16, 0, none⟩)), (92, .slice az zs.length cz), (93, .int .i64 zs.length), (94, .int .i64 i)] w
      obtain ⟨hi2, hS, hKS, hSl, htl, hbt, hs⟩ := hI
      by_cases hlt2 : i < zs.length
      ·
       obtain ⟨z, hzd⟩ : ∃ z, z = zs.getD i zn0 := ⟨_, rfl⟩
       have hzm : z ∈ zs := by rw [hzd]; exact getD_mem hlt2
       have hF := firmE_ok ts
       rw [← hfe, ← hfk] at hF
       have hA2 : ∀ v e k, ∀ p ∈ A, p ∈ ((b16, Row 47 [v]) :: (m, KO e k) :: (mf, FO fe fk) :: (b4, Row 23 [.float .f64 time]) :: A) ++ Mt := fun v e k p hp => List.mem_append_left _ (List.mem_cons_of_mem _ (List.mem_cons_of_mem _ (List.mem_cons_of_mem _ (List.mem_cons_of_mem _ hp))))
       have hZ1 := hZ _ _ hs (hA2 _ _ _)
       have hzat : CellsAt w ((aD az).add (i * 3)) z.cells := by rw [hzd]; exact zn_at hZ1 hlt2
       have hzone : ∀ v ∈ z.cells, v.oneCell' = true := by
        obtain ⟨ac, cc, hzv, _⟩ := hW.each z hzm
        intro v hv
        unfold Zn.cells at hv
        rw [hzv] at hv
        simp only [List.mem_cons, List.not_mem_nil, or_false] at hv
        rcases hv with rfl | rfl | rfl <;> rfl
       refine W_seq ?_
       refine W_region ?_
       first | refine L_lss rfl rfl rfl (dtrue (by omega)) ?_ | refine L_lss rfl rfl rfl (dfalse (by omega)) ?_ | refine L_lss rfl rfl rfl rfl ?_
       refine RL_then ?_
       refine W_seq ?_
       refine W_if_true rfl ?_
       refine W_skip' ?_
       refine Nx_then ?_
       refine W_seq ?_
       refine W_block ?_
       refine W_seq ?_
       refine W_region ?_
       refine L_idxN rfl Try.underlying85 Try.ti90 rfl rfl (by with_reducible first | exact natc_k _ | exact natc_a1 _ | exact natc_0 | exact natc_1 | exact natc_2 | exact natc_s1 _ (by omega) | exact natc_a2 _ | exact natc_add _ _ | exact natc_mul _ _ | exact natc (by omega)) (by omega) (hZ1.ao (by rw [zcs_len]; omega)) ?_
       refine L_loadA rfl Try.agg90 Try.ti90 rfl (by exact hzat) ?_
       refine L_alloc rfl hs Try.ti90 ?_; intro b18 w hb18 _ hs; replace hs := HS.push hs
       refine L_storeA hs (i := 0) rfl Try.ti90 rfl rfl (by first | rfl | exact add_lit0 _ _ | exact Addr.add_lit .. | (rw [add_add]; exact add_lit0 _ _)) (by simp [Zn.cells]) (by exact hzone) ?_
       intro w hs
       try dsimp only [List.set_cons_succ, List.set_cons_zero, List.cons_append, List.nil_append] at hs
       refine RL_then ?_
       refine W_seq ?_
       refine W_region ?_
       refine L_assign rfl rfl ?_
       refine RL_then ?_
       refine W_seq ?_
       refine W_seq ?_
       replace hs : HS w0 w ((b18, Row 90 z.cells) :: (b16, Row 47 [vt]) :: (m, KO S.es S.ck) :: (mf, FO fe fk) :: (b4, Row 23 [.float .f64 time]) :: (A ++ Mt)) := hs
       refine W_region ?_
       refine L_move rfl rfl ?_
       refine L_range rfl hs (List.mem_cons_of_mem _ (List.mem_cons_of_mem _ (List.mem_cons_of_mem _ (List.mem_cons_self ..)))) Try.underlying95 rfl ?_; intro b99 w hb99 _ hs; replace hs := HS.push hs
       refine RL_then ?_
       refine W_block ?_
       obtain ⟨C, hC⟩ : ∃ C : Bks, C = (b18, Row 90 z.cells) :: (b16, Row 47 [vt]) :: (m, KO S.es S.ck) :: (mf, FO fe fk) :: (b4, Row 23 [.float .f64 time]) :: (A ++ Mt) := ⟨_, rfl⟩
       have hCf : (mf, FO fe fk) ∈ C := by rw [hC]; exact List.mem_cons_of_mem _ (List.mem_cons_of_mem _ (List.mem_cons_of_mem _ (List.mem_cons_self ..)))
       have hCm : (m, KO S.es S.ck) ∈ C := by rw [hC]; exact List.mem_cons_of_mem _ (List.mem_cons_of_mem _ (List.mem_cons_self ..))
       have hC18 : (b18, Row 90 z.cells) ∈ C := by rw [hC]; exact List.mem_cons_self ..
       have hCB : (B, Row 87 [.float .f64 far, .slice az zs.length cz, .int .i64 ever, .map (some m)]) ∈ C := by rw [hC]; exact List.mem_cons_of_mem _ (List.mem_cons_of_mem _ (List.mem_cons_of_mem _ (List.mem_cons_of_mem _ (List.mem_cons_of_mem _ (List.mem_append_left _ hW.guard)))))
       have hSl2 : S.es.length ≤ 2000000 := by
        have : i * fe.length ≤ 64 * 5000 := Nat.mul_le_mul (by omega) hfl
        omega
       replace hs : HS w0 w ((b99, ItO mf fk [] fk) :: C) := by rw [hC]; exact hs
       refine W_loop4 (fun (vis : List FE) (l : Value) (Ml : Bks) (w : World) => [(0, .pointer (some ⟨B, 0, none⟩)), (4, .pointer (some ⟨b4, 0, none⟩)), (7, .map (some mf)), (16, .pointer (some ⟨b16, 0, none⟩)), (18, .pointer (some ⟨b18, 0, none⟩)), (19, l), (92, .slice az zs.length cz), (93, .int .i64 zs.length), (94, .int .i64 i), (99, .pointer (some ⟨b99, 0, none⟩))]) (fun (vis : List FE) (l : Value) (Ml : Bks) (w : World) => w) (fun (vis : List FE) (l : Value) (Ml : Bks) (w : World) => (∀ x ∈ vis, x ∈ fe) ∧ (vis.Nodup) ∧ (vis.length + (unseen (vis.map (·.2.2)) fe).length ≤ fe.length) ∧ (Bl w0 3 1 l vis.length (il (vis.map (·.1))) Ml) ∧ (HS w0 w (((b99, ItO mf fk (vis.map (·.2.2)) fk) :: C) ++ Ml))) (fun (vis : List FE) (l : Value) (Ml : Bks) (w : World) => (unseen (vis.map (·.2.2)) fe).length) ([]) (.slice none 0 0) ([]) (_) (is := [0, 4, 7, 16, 18, 19, 92, 93, 94, 99]) rfl rfl ?_ ?_
       ·
        exact ⟨fun x hx => (by cases hx), List.nodup_nil, by rw [List.length_nil, Nat.zero_add]; exact List.length_filter_le .., Bl.nil, by rw [List.append_nil]; exact hs⟩
       ·
        clear hs
        intro vis l Ml w hI
        show W _ _ _ _ [(0, .pointer (some ⟨B, 0, none⟩)), (4, .pointer (some ⟨b4, 0, none⟩)), (7, .map (some mf)), (16, .pointer (some ⟨b16, 0, none⟩)), (18, .pointer (some ⟨b18, 0, none⟩)), (19, l), (92, .slice az zs.length cz), (93, .int .i64 zs.length), (94, .int .i64 i), (99, .pointer (some ⟨b99, 0, none⟩))] w
        obtain ⟨hsub, hnd, hlen, hb, hs⟩ := hI
        refine W_seq ?_
        refine W_region ?_
        refine L_next rfl hs (i := 0) rfl (List.mem_append_left _ (List.mem_cons_of_mem _ hCf)) hF.old (Nat.le_refl _) rfl ?_ ?_
        ·
         intro hall
         have hp1 := all_seen hF.born hnd hsub hall
         obtain ⟨xs1, hxs1⟩ : ∃ xs : List Int, xs = vis.map (·.1) := ⟨_, rfl⟩
         have hp2 : xs1.Perm (fe.map (·.1)) := by rw [hxs1]; exact hp1.map _
         have hx1 : xs1.length = vis.length := by rw [hxs1, List.length_map]
         rw [← hxs1, ← hx1] at hb
         replace hs : HS w0 w (C ++ Ml) := HS.pop (L := C ++ Ml) hs hb99
         clear hxs1 hp1 hlen hnd hsub hall
         refine L_extract rfl rfl rfl ?_
         refine RL_then ?_
         refine W_seq ?_
         refine W_if_false rfl ?_
         refine W_exit' ?_
         refine Ex_then_exit ?_
         refine Ex_loop_exit ?_
         refine Ex_block_hit ?_
         refine Nx_then ?_
         refine W_seq ?_
         refine W_seq ?_
         refine W_region ?_
         refine L_move rfl rfl ?_
         refine L_nilCheck rfl rfl ?_
         refine L_fieldAddr rfl (off := 3) Try.underlying87 rfl rfl Try.ti84 rfl ?_
         refine L_load rfl Try.one84 rfl (by exact HS.cellM hs (List.mem_append_left _ hCB) rfl) ?_
         refine L_range rfl hs (List.mem_append_left _ hCm) Try.underlying84 rfl ?_; intro b112 w hb112 _ hs; replace hs := HS.push hs
         refine RL_then ?_
         refine W_block ?_
         refine W_loop4 (fun (vis : List KE) (l : Value) (Ml : Bks) (w : World) => [(0, .pointer (some ⟨B, 0, none⟩)), (4, .pointer (some ⟨b4, 0, none⟩)), (7, .map (some mf)), (16, .pointer (some ⟨b16, 0, none⟩)), (18, .pointer (some ⟨b18, 0, none⟩)), (19, l), (92, .slice az zs.length cz), (93, .int .i64 zs.length), (94, .int .i64 i), (112, .pointer (some ⟨b112, 0, none⟩))]) (fun (vis : List KE) (l : Value) (Ml : Bks) (w : World) => w) (fun (vis : List KE) (l : Value) (Ml : Bks) (w : World) => (∀ x ∈ vis, x ∈ S.es) ∧ (vis.Nodup) ∧ (vis.length + (unseen (vis.map (·.2.2)) S.es).length ≤ S.es.length) ∧ (Bl w0 3 1 l (xs1 ++ gonL fe z.num vis).length (il (xs1 ++ gonL fe z.num vis)) Ml) ∧ (HS w0 w (((b112, ItO m S.ck (vis.map (·.2.2)) S.ck) :: C) ++ Ml))) (fun (vis : List KE) (l : Value) (Ml : Bks) (w : World) => (unseen (vis.map (·.2.2)) S.es).length) ([]) (l) (Ml) (_) (is := [0, 4, 7, 16, 18, 19, 92, 93, 94, 112]) rfl rfl ?_ ?_
         ·
          refine ⟨fun x hx => (by cases hx), List.nodup_nil, by rw [List.length_nil, Nat.zero_add]; exact List.length_filter_le .., ?_, hs⟩
          rw [show gonL fe z.num [] = [] from rfl, List.append_nil]; exact hb
         ·
          clear hs hb
          intro vis l Ml w hI
          show W _ _ _ _ [(0, .pointer (some ⟨B, 0, none⟩)), (4, .pointer (some ⟨b4, 0, none⟩)), (7, .map (some mf)), (16, .pointer (some ⟨b16, 0, none⟩)), (18, .pointer (some ⟨b18, 0, none⟩)), (19, l), (92, .slice az zs.length cz), (93, .int .i64 zs.length), (94, .int .i64 i), (112, .pointer (some ⟨b112, 0, none⟩))] w
          obtain ⟨hsub, hnd, hlen, hb, hs⟩ := hI
          have hgl := gonL_len fe z.num vis
          have hx1l : xs1.length ≤ 5000 := by rw [hp2.length_eq, List.length_map]; exact hfl
          refine W_seq ?_
          refine W_region ?_
          refine L_next rfl hs (i := 0) rfl (List.mem_append_left _ (List.mem_cons_of_mem _ hCm)) hKS.old (Nat.le_refl _) rfl ?_ ?_
          ·
           intro hall
           have hp1 := all_seen hKS.born hnd hsub hall
           replace hs : HS w0 w (C ++ Ml) := HS.pop (L := C ++ Ml) hs hb112
           have hids : isort (xs1 ++ gonL fe z.num vis) = idsOf fe S.es z.num := isort_of_perm (hp2.append ((hp1.filter _).map _))
           obtain ⟨K, hKe⟩ : ∃ K, K = (xs1 ++ gonL fe z.num vis).length := ⟨_, rfl⟩
           have hKl : K ≤ 2000000 + 5000 - 5000 := by
            have h9 : (gonL fe z.num vis).length ≤ S.es.length := Nat.le_trans hgl (by omega)
            have : i * fe.length ≤ 63 * 5000 := Nat.mul_le_mul (by omega) hfl
            rw [hKe, List.length_append]; omega
           rw [← hKe] at hb
           obtain ⟨al, cl, rfl, hcl⟩ := hb.slice
           obtain ⟨ids, hidd⟩ : ∃ ids, ids = idsOf fe S.es z.num := ⟨_, rfl⟩
           have hidl : ids.length = K := by rw [hidd, ← hids, isort_len, hKe]
           refine L_extract rfl rfl rfl ?_
           refine RL_then ?_
           refine W_seq ?_
           refine W_if_false rfl ?_
           refine W_exit' ?_
           refine Ex_then_exit ?_
           refine Ex_loop_exit ?_
           refine Ex_block_hit ?_
           refine Nx_then ?_
           refine W_seq ?_
           refine W_region ?_
           refine L_move rfl rfl ?_
           refine L_call rfl Try.fun38 rfl (sort_ok K (.slice al K cl) (xs1 ++ gonL fe z.num vis) C Ml w0 w hs hb hKe.symm (by omega)) ?_
           rintro _ w1 ⟨rfl, M', hs1, hbs⟩
           rw [hids, ← hidd] at hbs
           clear hs hb
           have hs := hs1
           clear hs1
           rw [hC] at hs
           replace hs : HS w0 w1 (((b16, Row 47 [vt]) :: (m, KO S.es S.ck) :: ((b18, Row 90 z.cells) :: (mf, FO fe fk) :: (b4, Row 23 [.float .f64 time]) :: (A ++ M'))) ++ Mt) := HS.re hs (fun c => by simp only [List.map_append, List.map_cons, List.map_nil, List.sum_append, List.sum_cons, List.sum_nil]; omega)
           refine RL_then ?_
           refine W_seq ?_
           refine W_region ?_
           refine L_move rfl rfl ?_
           refine L_len rfl Try.underlying38 rfl ?_
           refine L_move rfl rfl ?_
           refine RL_then ?_
           refine W_block ?_
           refine W_loop5 (fun (j : Nat) (T : WS) (vu : Value) (Mu : Bks) (w : World) => [(0, .pointer (some ⟨B, 0, none⟩)), (4, .pointer (some ⟨b4, 0, none⟩)), (7, .map (some mf)), (16, .pointer (some ⟨b16, 0, none⟩)), (18, .pointer (some ⟨b18, 0, none⟩)), (92, .slice az zs.length cz), (93, .int .i64 zs.length), (94, .int .i64 i), (145, .slice al K cl), (146, .int .i64 K), (147, .int .i64 j)]) (fun (j : Nat) (T : WS) (vu : Value) (Mu : Bks) (w : World) => w) (fun (j : Nat) (T : WS) (vu : Value) (Mu : Bks) (w : World) => (j ≤ K) ∧ (T = (ids.take j).foldl (idStep far time fe z) S) ∧ (KOk T.es T.ck) ∧ (T.es.length ≤ S.es.length + ((ids.take j).filter fun id => (mget id fe).isSome).length) ∧ (T.told.length ≤ S.told.length + j) ∧ (Bl w0 51 4 vu T.told.length (acs T.told) Mu) ∧ (HS w0 w (((b16, Row 47 [vu]) :: (m, KO T.es T.ck) :: ((b18, Row 90 z.cells) :: (mf, FO fe fk) :: (b4, Row 23 [.float .f64 time]) :: (A ++ M'))) ++ Mu))) (fun (j : Nat) (T : WS) (vu : Value) (Mu : Bks) (w : World) => K - j) (0) (S) (vt) (Mt) (_) (is := [0, 4, 7, 16, 18, 92, 93, 94, 145, 146, 147]) rfl rfl ?_ ?_
           ·
            exact ⟨Nat.zero_le _, rfl, hKS, Nat.le_add_right .., Nat.le_refl _, hbt, hs⟩
           ·
            clear hs
            intro j T vu Mu w hI
            show W _ _ _ _ [(0, .pointer (some ⟨B, 0, none⟩)), (4, .pointer (some ⟨b4, 0, none⟩)), (7, .map (some mf)), (16, .pointer (some ⟨b16, 0, none⟩)), (18, .pointer (some ⟨b18, 0, none⟩)), (92, .slice az zs.length cz), (93, .int .i64 zs.length), (94, .int .i64 i), (145, .slice al K cl), (146, .int .i64 K), (147, .int .i64 j)] w
            obtain ⟨hj, hT, hKT, hTl, hTt, hbu, hs⟩ := hI
            by_cases hlt3 : j < K
            ·
             obtain ⟨id, hid⟩ : ∃ id, id = ids.getD j 0 := ⟨_, rfl⟩
             have hsl := Bl.slcM hbs hs (fun p hp => List.mem_append_left _ (List.mem_cons_of_mem _ (List.mem_cons_of_mem _ (List.mem_cons_of_mem _ (List.mem_cons_of_mem _ (List.mem_cons_of_mem _ (List.mem_append_right _ hp)))))))
             have hcell : w.cell? ((aD al).add j) = some (.int .i64 id) := by rw [hid]; exact hsl.get (il_get (by omega))
             refine W_seq ?_
             refine W_region ?_
             first | refine L_lss rfl rfl rfl (dtrue (by omega)) ?_ | refine L_lss rfl rfl rfl (dfalse (by omega)) ?_ | refine L_lss rfl rfl rfl rfl ?_
             refine RL_then ?_
             refine W_seq ?_
             refine W_if_true rfl ?_
             obtain ⟨was, hwas⟩ : ∃ was, was = (mget (z.num, id) T.es).getD 0 := ⟨_, rfl⟩
             refine W_skip' ?_
             refine Nx_then ?_
             refine W_seq ?_
             refine W_block ?_
             refine W_seq ?_
             refine W_region ?_
             refine L_idx1 rfl Try.underlying38 Try.ti3 rfl rfl (by with_reducible first | exact natc_k _ | exact natc_a1 _ | exact natc_0 | exact natc_1 | exact natc_2 | exact natc_s1 _ (by omega) | exact natc_a2 _ | exact natc_add _ _ | exact natc_mul _ _ | exact natc (by omega)) (by omega) (hsl.ao (by rw [il_length]; omega)) ?_
             refine L_load rfl Try.one3 rfl (by exact hcell) ?_
             refine L_alloc rfl hs Try.ti3 ?_; intro b26 w hb26 _ hs; replace hs := HS.push hs
             refine L_store hs (i := 0) rfl Try.ti3 rfl rfl (by first | rfl | exact add_lit0 _ _ | exact Addr.add_lit .. | (rw [add_add]; exact add_lit0 _ _)) (by simp) rfl ?_
             intro w hs
             try dsimp only [List.set_cons_succ, List.set_cons_zero, List.cons_append, List.nil_append] at hs
             refine RL_then ?_
             refine W_seq ?_
             refine W_region ?_
             refine L_fieldAddr rfl (off := 0) Try.underlying90 rfl rfl Try.ti3 rfl ?_
             refine L_load rfl Try.one3 rfl (by exact hs.cell (i := 3) rfl rfl) ?_
             refine L_load rfl Try.one3 rfl (by exact hs.cell (i := 0) rfl rfl) ?_
             refine L_build rfl rfl (Pl.built Try.pl98 rfl) ?_
             refine L_alloc rfl hs Try.ti98 ?_; intro b27 w hb27 _ hs; replace hs := HS.push hs
             refine L_storeA hs (i := 0) rfl Try.ti98 rfl rfl (by first | rfl | exact add_lit0 _ _ | exact Addr.add_lit .. | (rw [add_add]; exact add_lit0 _ _)) (by simp) (by first | (simp; done) | simp [Value.oneCell']) ?_
             intro w hs
             try dsimp only [List.set_cons_succ, List.set_cons_zero, List.cons_append, List.nil_append] at hs
             refine RL_then ?_
             refine W_seq ?_
             replace hs : HS w0 w ((b27, Row 98 [.int .i64 z.num, .int .i64 id]) :: (b26, Row 3 [.int .i64 id]) :: (((b16, Row 47 [vu]) :: (m, KO T.es T.ck) :: ((b18, Row 90 z.cells) :: (mf, FO fe fk) :: (b4, Row 23 [.float .f64 time]) :: (A ++ M'))) ++ Mu)) := hs
             have hgm : ∀ {P : Nat × Obj} {x y : Value} {e : List KE} {k : Nat} {Q : Bks}, (B, Row 87 [.float .f64 far, .slice az zs.length cz, .int .i64 ever, .map (some m)]) ∈ P :: (b27, Row 98 [.int .i64 z.num, .int .i64 id]) :: (b26, Row 3 [.int .i64 id]) :: (((b16, Row 47 [x]) :: (m, KO e k) :: ((b18, Row 90 z.cells) :: (mf, FO fe fk) :: (b4, Row 23 [.float .f64 time]) :: (A ++ M'))) ++ Q) := by
              intro P x y e k Q
              exact List.mem_cons_of_mem _ (List.mem_cons_of_mem _ (List.mem_cons_of_mem _ (List.mem_append_left _ (List.mem_cons_of_mem _ (List.mem_cons_of_mem _ (List.mem_cons_of_mem _ (List.mem_cons_of_mem _ (List.mem_cons_of_mem _ (List.mem_append_left _ hW.guard)))))))))
             have hgm2 : ∀ {x : Value} {e : List KE} {k : Nat} {Q : Bks}, (B, Row 87 [.float .f64 far, .slice az zs.length cz, .int .i64 ever, .map (some m)]) ∈ (b27, Row 98 [.int .i64 z.num, .int .i64 id]) :: (b26, Row 3 [.int .i64 id]) :: (((b16, Row 47 [x]) :: (m, KO e k) :: ((b18, Row 90 z.cells) :: (mf, FO fe fk) :: (b4, Row 23 [.float .f64 time]) :: (A ++ M'))) ++ Q) := by
              intro x e k Q
              exact List.mem_cons_of_mem _ (List.mem_cons_of_mem _ (List.mem_append_left _ (List.mem_cons_of_mem _ (List.mem_cons_of_mem _ (List.mem_cons_of_mem _ (List.mem_cons_of_mem _ (List.mem_cons_of_mem _ (List.mem_append_left _ hW.guard))))))))
             clear hgm
             refine W_pht [0, 1, 2] [3, 4] [5, 6, 7] (fun _ _ _ => False) Try.mixed (by kernel_rfl) (fun _ _ _ _ _ h => h) hs ?_
             refine PL_val rfl (fun w => R_move rfl) ?_
             refine PL_val rfl (fun w => R_nilCheck rfl) ?_
             refine PL_val rfl (fun w => R_fieldAddr (off := 3) Try.underlying87 rfl rfl Try.ti84 rfl) ?_
             refine PL_end ?_
             refine HL_val rfl (fun w hs => R_load Try.one84 rfl (by exact HS.cellM hs hgm2 rfl)) ?_
             refine HL_val rfl (fun w hs => R_loadA Try.agg98 Try.ti98 rfl (by exact cellsAt2' (hs.get (i := 0) rfl) rfl rfl)) ?_
             refine HL_tail ?_
             intro w hs
             refine L_look1 (k := (z.num, id)) (ek := pk) (ev := Value.int .i64) (z := .int .i64 0) rfl K98 Try.underlying84 Try.ti3 (hs.get (i := 3) rfl) rfl rfl ?_; rw [look_iv, ← hwas]
             refine L_assign rfl rfl ?_
             refine L_assign rfl rfl ?_
             refine RL_then ?_
             refine W_seq ?_
             refine W_seq ?_
             refine W_region ?_
             refine L_move rfl rfl ?_
             refine L_load rfl Try.one3 rfl (by exact hs.cell (i := 1) rfl rfl) ?_
             refine L_look2 (k := id) (ev := tv) (z := zeroTv) rfl K3 Try.underlying95 Try.ti60 (hs.get (i := 5) rfl) rfl rfl ?_; rw [look_tv]
             refine L_move rfl rfl ?_
             refine L_extract rfl rfl rfl ?_
             refine L_extract rfl rfl rfl ?_
             refine L_alloc rfl hs Try.ti60 ?_; intro b30 w hb30 _ hs; replace hs := HS.push hs
             refine L_storeA hs (i := 0) rfl Try.ti60 rfl rfl (by first | rfl | exact add_lit0 _ _ | exact Addr.add_lit .. | (rw [add_add]; exact add_lit0 _ _)) (by simp [Tk.cells]) (by exact Tk.one _) ?_
             intro w hs
             try dsimp only [List.set_cons_succ, List.set_cons_zero, List.cons_append, List.nil_append] at hs
             refine L_assign rfl rfl ?_
             refine RL_then ?_
             refine W_seq ?_
             replace hs : HS w0 w ((b30, Row 60 ((mget id fe).getD tk0).cells) :: (b27, Row 98 [.int .i64 z.num, .int .i64 id]) :: (b26, Row 3 [.int .i64 id]) :: (((b16, Row 47 [vu]) :: (m, KO T.es T.ck) :: ((b18, Row 90 z.cells) :: (mf, FO fe fk) :: (b4, Row 23 [.float .f64 time]) :: (A ++ M'))) ++ Mu)) := hs
             obtain ⟨ac, cc, hzv, hzs⟩ := hW.each z hzm
             obtain ⟨is0, his0⟩ : ∃ is0, is0 = isNow far z.ps fe id := ⟨_, rfl⟩
             refine W_region ?_
             refine L_move rfl rfl ?_
             refine RL_then ?_
             refine W_cut1 (fun (w : World) => [(0, .pointer (some ⟨B, 0, none⟩)), (4, .pointer (some ⟨b4, 0, none⟩)), (7, .map (some mf)), (16, .pointer (some ⟨b16, 0, none⟩)), (18, .pointer (some ⟨b18, 0, none⟩)), (26, .pointer (some ⟨b26, 0, none⟩)), (27, .pointer (some ⟨b27, 0, none⟩)), (28, .int .i64 was), (29, .int .i64 is0), (92, .slice az zs.length cz), (93, .int .i64 zs.length), (94, .int .i64 i), (145, .slice al K cl), (146, .int .i64 K), (147, .int .i64 j)]) (fun (w : World) => w) (fun (w : World) => (HS w0 w ((b27, Row 98 [.int .i64 z.num, .int .i64 id]) :: (b26, Row 3 [.int .i64 id]) :: (((b16, Row 47 [vu]) :: (m, KO T.es T.ck) :: ((b18, Row 90 z.cells) :: (mf, FO fe fk) :: (b4, Row 23 [.float .f64 time]) :: (A ++ M'))) ++ Mu)))) ?_ ?_
             ·
              rcases (Bool.eq_false_or_eq_true (mget id fe).isSome).symm with hg | hg
              ·
               have e0 : isNow far z.ps fe id = 0 := by
                unfold isNow
                cases hm : mget id fe with
                | none => rfl
                | some y => rw [hm] at hg; cases hg
               refine W_set 167 (v' := .bool false) rfl (by rw [hg]; rfl) ?_
               refine W_if_false rfl ?_
               refine W_skip' ?_
               refine Nx_set 29 (v' := .int .i64 is0) rfl (by rw [his0, e0]) ?_
               refine Nx_cutP (_) (is := [0, 4, 7, 16, 18, 26, 27, 28, 29, 92, 93, 94, 145, 146, 147]) (I' := (fun (w : World) => (HS w0 w ((b27, Row 98 [.int .i64 z.num, .int .i64 id]) :: (b26, Row 3 [.int .i64 id]) :: (((b16, Row 47 [vu]) :: (m, KO T.es T.ck) :: ((b18, Row 90 z.cells) :: (mf, FO fe fk) :: (b4, Row 23 [.float .f64 time]) :: (A ++ M'))) ++ Mu)))) (_)) rfl rfl rfl ?_
               exact HS.pop hs hb30
              ·
               have e0 : isNow far z.ps fe id = nowF far z.ps ((mget id fe).getD tk0) := by
                unfold isNow
                cases hm : mget id fe with
                | none => rw [hm] at hg; cases hg
                | some y => rfl
               have hmA : ∀ p ∈ A, p ∈ ((b30, Row 60 ((mget id fe).getD tk0).cells) :: (b27, Row 98 [.int .i64 z.num, .int .i64 id]) :: (b26, Row 3 [.int .i64 id]) :: (((b16, Row 47 [vu]) :: (m, KO T.es T.ck) :: ((b18, Row 90 z.cells) :: (mf, FO fe fk) :: (b4, Row 23 [.float .f64 time]) :: (A ++ M'))) ++ Mu)) := fun p hp => List.mem_cons_of_mem _ (List.mem_cons_of_mem _ (List.mem_cons_of_mem _ (List.mem_append_left _ (List.mem_cons_of_mem _ (List.mem_cons_of_mem _ (List.mem_cons_of_mem _ (List.mem_cons_of_mem _ (List.mem_cons_of_mem _ (List.mem_append_left _ hp)))))))))
               refine W_set 167 (v' := .bool true) rfl (by rw [hg]; rfl) ?_
               refine W_if_true rfl ?_
               refine W_region ?_
               refine L_move rfl rfl ?_
               refine L_fieldAddr rfl (off := 1) Try.underlying90 rfl rfl Try.ti40 rfl ?_
               refine L_fieldAddr rfl (off := 1) Try.underlying40 rfl rfl Try.ti22 rfl ?_
               refine L_load rfl Try.one22 rfl (by exact hs.cell (i := 5) rfl rfl) ?_
               refine RL_set 171 (v' := .slice ac z.ps.length cc) rfl (by rw [← hzv]) ?_
               refine L_loadA rfl Try.agg60 Try.ti60 rfl (by exact cellsAt_whole (cs := ((mget id fe).getD tk0).cells) (hs.get (i := 0) rfl)) ?_
               refine L_call rfl Try.fun39 rfl (now_ok B far ac z.ps.length cc z.ps ((mget id fe).getD tk0) w (hzs _ _ hs hmA) rfl (HS.cellM hs (hmA _ hW.guard) rfl)) ?_
               rintro _ w1 ⟨rfl, hs'⟩
               replace hs := hs.nil hs'
               clear hs'
               refine L_assign rfl rfl ?_
               refine RL_nil' ?_
               refine Nx_set 29 (v' := .int .i64 is0) rfl (by rw [his0, e0]) ?_
               refine Nx_cutP (_) (is := [0, 4, 7, 16, 18, 26, 27, 28, 29, 92, 93, 94, 145, 146, 147]) (I' := (fun (w : World) => (HS w0 w ((b27, Row 98 [.int .i64 z.num, .int .i64 id]) :: (b26, Row 3 [.int .i64 id]) :: (((b16, Row 47 [vu]) :: (m, KO T.es T.ck) :: ((b18, Row 90 z.cells) :: (mf, FO fe fk) :: (b4, Row 23 [.float .f64 time]) :: (A ++ M'))) ++ Mu)))) (_)) rfl rfl rfl ?_
               exact HS.pop hs hb30
             ·
              clear hs
              intro w hI
              show W _ _ _ _ [(0, .pointer (some ⟨B, 0, none⟩)), (4, .pointer (some ⟨b4, 0, none⟩)), (7, .map (some mf)), (16, .pointer (some ⟨b16, 0, none⟩)), (18, .pointer (some ⟨b18, 0, none⟩)), (26, .pointer (some ⟨b26, 0, none⟩)), (27, .pointer (some ⟨b27, 0, none⟩)), (28, .int .i64 was), (29, .int .i64 is0), (92, .slice az zs.length cz), (93, .int .i64 zs.length), (94, .int .i64 i), (145, .slice al K cl), (146, .int .i64 K), (147, .int .i64 j)] w
              have hs := hI
              clear hI
              refine W_seq ?_
              refine W_region ?_
              refine RL_val rfl (R_makeFunc rfl rfl) ?_
              refine L_assign rfl rfl ?_
              refine RL_then ?_
              refine W_seq ?_
              obtain ⟨als, hals⟩ : ∃ als : List Al, als = (match kindOf was is0 with | some k => [⟨k, z.num, id, time⟩] | none => []) := ⟨_, rfl⟩
              refine W_cut4 (fun (is1 : Int) (vv : Value) (Mv : Bks) (w : World) => [(0, .pointer (some ⟨B, 0, none⟩)), (4, .pointer (some ⟨b4, 0, none⟩)), (7, .map (some mf)), (16, .pointer (some ⟨b16, 0, none⟩)), (18, .pointer (some ⟨b18, 0, none⟩)), (27, .pointer (some ⟨b27, 0, none⟩)), (29, .int .i64 is1), (92, .slice az zs.length cz), (93, .int .i64 zs.length), (94, .int .i64 i), (145, .slice al K cl), (146, .int .i64 K), (147, .int .i64 j)]) (fun (is1 : Int) (vv : Value) (Mv : Bks) (w : World) => w) (fun (is1 : Int) (vv : Value) (Mv : Bks) (w : World) => (is1 = if was = 2 ∧ is0 ≠ 2 then 0 else is0) ∧ (Bl w0 51 4 vv (T.told ++ als).length (acs (T.told ++ als)) Mv) ∧ (HS w0 w ((b27, Row 98 [.int .i64 z.num, .int .i64 id]) :: (b26, Row 3 [.int .i64 id]) :: (((b16, Row 47 [vv]) :: (m, KO T.es T.ck) :: ((b18, Row 90 z.cells) :: (mf, FO fe fk) :: (b4, Row 23 [.float .f64 time]) :: (A ++ M'))) ++ Mv)))) ?_ ?_
              ·
               have htellk : ∀ kd : Int, ∀ w1, HS w0 w1 ((b27, Row 98 [.int .i64 z.num, .int .i64 id]) :: (b26, Row 3 [.int .i64 id]) :: (((b16, Row 47 [vu]) :: (m, KO T.es T.ck) :: ((b18, Row 90 z.cells) :: (mf, FO fe fk) :: (b4, Row 23 [.float .f64 time]) :: (A ++ M'))) ++ Mu)) →
                 Ret Try.prog 40 [.int .i8 kd, .pointer (some ⟨b16, 0, none⟩), .pointer (some ⟨b18, 0, none⟩), .pointer (some ⟨b26, 0, none⟩), .pointer (some ⟨b4, 0, none⟩)] w1 fun r w' => r = .tuple #[] ∧ ∃ vv Mv, Bl w0 51 4 vv (T.told ++ [(⟨kd, z.num, id, time⟩ : Al)]).length (acs (T.told ++ [(⟨kd, z.num, id, time⟩ : Al)])) Mv ∧ HS w0 w' ((b27, Row 98 [.int .i64 z.num, .int .i64 id]) :: (b26, Row 3 [.int .i64 id]) :: (((b16, Row 47 [vv]) :: (m, KO T.es T.ck) :: ((b18, Row 90 z.cells) :: (mf, FO fe fk) :: (b4, Row 23 [.float .f64 time]) :: (A ++ M'))) ++ Mv)) := fun kd w1 hs1 => by
                have hs2 : HS w0 w1 (((b16, Row 47 [vu]) :: ((b27, Row 98 [.int .i64 z.num, .int .i64 id]) :: (b26, Row 3 [.int .i64 id]) :: (m, KO T.es T.ck) :: (b18, Row 90 z.cells) :: (mf, FO fe fk) :: (b4, Row 23 [.float .f64 time]) :: (A ++ M'))) ++ Mu) := HS.re hs1 (fun c => by simp only [List.map_append, List.map_cons, List.map_nil, List.sum_append, List.sum_cons, List.sum_nil]; omega)
                refine Calls.mono (tell_ok kd z.num id time T.told.length b16 b18 b26 b4 vu z.cells (acs T.told) _ Mu w0 w1 hs2 hbu (by have : i * 2000000 ≤ 64 * 2000000 := Nat.mul_le_mul_right _ (by omega); omega) (List.mem_cons_of_mem _ (List.mem_cons_of_mem _ (List.mem_cons_of_mem _ (List.mem_cons_self ..)))) rfl (List.mem_cons_of_mem _ (List.mem_cons_self ..)) (List.mem_cons_of_mem _ (List.mem_cons_of_mem _ (List.mem_cons_of_mem _ (List.mem_cons_of_mem _ (List.mem_cons_of_mem _ (List.mem_cons_self ..))))))) fun e w' => ?_
                rintro ⟨r, rfl, rfl, vv, Mv, hs3, hb3⟩
                exact ⟨_, rfl, rfl, vv, Mv, by rw [acs_snoc, List.length_append, List.length_singleton]; exact hb3, HS.re hs3 (fun c => by simp only [List.map_append, List.map_cons, List.map_nil, List.sum_append, List.sum_cons, List.sum_nil]; omega)⟩
               by_cases h1 : was = 2
               ·
                by_cases h2 : is0 = 2
                ·
                 have e : als = [] := by rw [hals, h1, h2]; rfl
                 refine W_block ?_
                 refine W_seq ?_
                 refine W_region ?_
                 refine L_move rfl rfl ?_
                 first | refine L_neq rfl rfl rfl (dtrue (by omega)) ?_ | refine L_neq rfl rfl rfl (dfalse (by omega)) ?_ | refine L_neq rfl rfl rfl rfl ?_
                 refine L_move rfl rfl ?_
                 first | (refine RL_want rfl rfl ?_; refine L_move rfl rfl ?_) | refine RL_skip rfl rfl rfl rfl ?_ | refine RL_skipU rfl rfl rfl ?_
                 first | (refine RL_want rfl rfl ?_; (first | refine L_eql rfl rfl rfl (dtrue (by omega)) ?_ | refine L_eql rfl rfl rfl (dfalse (by omega)) ?_ | refine L_eql rfl rfl rfl rfl ?_)) | refine RL_skip rfl rfl rfl rfl ?_ | refine RL_skipU rfl rfl rfl ?_
                 first | refine L_pick_t rfl rfl rfl ?_ | refine L_pick_f rfl rfl rfl ?_
                 refine L_assign rfl rfl ?_
                 refine RL_then ?_
                 refine W_if_false rfl ?_
                 refine W_seq ?_
                 refine W_region ?_
                 refine L_move rfl rfl ?_
                 first | refine L_eql rfl rfl rfl (dtrue (by omega)) ?_ | refine L_eql rfl rfl rfl (dfalse (by omega)) ?_ | refine L_eql rfl rfl rfl rfl ?_
                 refine L_move rfl rfl ?_
                 first | (refine RL_want rfl rfl ?_; refine L_move rfl rfl ?_) | refine RL_skip rfl rfl rfl rfl ?_ | refine RL_skipU rfl rfl rfl ?_
                 first | (refine RL_want rfl rfl ?_; (first | refine L_neq rfl rfl rfl (dtrue (by omega)) ?_ | refine L_neq rfl rfl rfl (dfalse (by omega)) ?_ | refine L_neq rfl rfl rfl rfl ?_)) | refine RL_skip rfl rfl rfl rfl ?_ | refine RL_skipU rfl rfl rfl ?_
                 first | refine L_pick_t rfl rfl rfl ?_ | refine L_pick_f rfl rfl rfl ?_
                 refine L_assign rfl rfl ?_
                 refine RL_then ?_
                 refine W_if_false rfl ?_
                 refine W_seq ?_
                 refine W_region ?_
                 refine L_move rfl rfl ?_
                 first | refine L_eql rfl rfl rfl (dtrue (by omega)) ?_ | refine L_eql rfl rfl rfl (dfalse (by omega)) ?_ | refine L_eql rfl rfl rfl rfl ?_
                 refine L_move rfl rfl ?_
                 first | (refine RL_want rfl rfl ?_; refine L_move rfl rfl ?_) | refine RL_skip rfl rfl rfl rfl ?_ | refine RL_skipU rfl rfl rfl ?_
                 first | (refine RL_want rfl rfl ?_; (first | refine L_eql rfl rfl rfl (dtrue (by omega)) ?_ | refine L_eql rfl rfl rfl (dfalse (by omega)) ?_ | refine L_eql rfl rfl rfl rfl ?_)) | refine RL_skip rfl rfl rfl rfl ?_ | refine RL_skipU rfl rfl rfl ?_
                 first | refine L_pick_t rfl rfl rfl ?_ | refine L_pick_f rfl rfl rfl ?_
                 refine L_assign rfl rfl ?_
                 refine RL_then ?_
                 refine W_if_false rfl ?_
                 refine W_skip' ?_
                 refine Nx_block ?_
                 refine Nx_cutP (is0, vu, Mu, _) (is := [0, 4, 7, 16, 18, 27, 29, 92, 93, 94, 145, 146, 147]) (I' := (fun (is1 : Int) (vv : Value) (Mv : Bks) (w : World) => (is1 = if was = 2 ∧ is0 ≠ 2 then 0 else is0) ∧ (Bl w0 51 4 vv (T.told ++ als).length (acs (T.told ++ als)) Mv) ∧ (HS w0 w ((b27, Row 98 [.int .i64 z.num, .int .i64 id]) :: (b26, Row 3 [.int .i64 id]) :: (((b16, Row 47 [vv]) :: (m, KO T.es T.ck) :: ((b18, Row 90 z.cells) :: (mf, FO fe fk) :: (b4, Row 23 [.float .f64 time]) :: (A ++ M'))) ++ Mv)))) (is0) (vu) (Mu) (_)) rfl rfl rfl ?_
                 exact ⟨by rw [if_neg (fun h => h.2 h2)], by rw [e, List.append_nil]; exact hbu, hs⟩
                ·
                 have e : als = [⟨1, z.num, id, time⟩] := by rw [hals]; unfold kindOf; rw [if_neg (fun h => h.1 h1), if_pos ⟨h1, h2⟩]
                 refine W_block ?_
                 refine W_seq ?_
                 refine W_region ?_
                 refine L_move rfl rfl ?_
                 first | refine L_neq rfl rfl rfl (dtrue (by omega)) ?_ | refine L_neq rfl rfl rfl (dfalse (by omega)) ?_ | refine L_neq rfl rfl rfl rfl ?_
                 refine L_move rfl rfl ?_
                 first | (refine RL_want rfl rfl ?_; refine L_move rfl rfl ?_) | refine RL_skip rfl rfl rfl rfl ?_ | refine RL_skipU rfl rfl rfl ?_
                 first | (refine RL_want rfl rfl ?_; (first | refine L_eql rfl rfl rfl (dtrue (by omega)) ?_ | refine L_eql rfl rfl rfl (dfalse (by omega)) ?_ | refine L_eql rfl rfl rfl rfl ?_)) | refine RL_skip rfl rfl rfl rfl ?_ | refine RL_skipU rfl rfl rfl ?_
                 first | refine L_pick_t rfl rfl rfl ?_ | refine L_pick_f rfl rfl rfl ?_
                 refine L_assign rfl rfl ?_
                 refine RL_then ?_
                 refine W_if_false rfl ?_
                 refine W_seq ?_
                 refine W_region ?_
                 refine L_move rfl rfl ?_
                 first | refine L_eql rfl rfl rfl (dtrue (by omega)) ?_ | refine L_eql rfl rfl rfl (dfalse (by omega)) ?_ | refine L_eql rfl rfl rfl rfl ?_
                 refine L_move rfl rfl ?_
                 first | (refine RL_want rfl rfl ?_; refine L_move rfl rfl ?_) | refine RL_skip rfl rfl rfl rfl ?_ | refine RL_skipU rfl rfl rfl ?_
                 first | (refine RL_want rfl rfl ?_; (first | refine L_neq rfl rfl rfl (dtrue (by omega)) ?_ | refine L_neq rfl rfl rfl (dfalse (by omega)) ?_ | refine L_neq rfl rfl rfl rfl ?_)) | refine RL_skip rfl rfl rfl rfl ?_ | refine RL_skipU rfl rfl rfl ?_
                 first | refine L_pick_t rfl rfl rfl ?_ | refine L_pick_f rfl rfl rfl ?_
                 refine L_assign rfl rfl ?_
                 refine RL_then ?_
                 refine W_if_true rfl ?_
                 refine W_seq ?_
                 refine W_region ?_
                 refine L_move rfl rfl ?_
                 refine L_callV rfl Try.fun40 rfl rfl (htellk 1 w hs) ?_
                 rintro _ w1 ⟨rfl, vv, Mv, hbv, hs1⟩
                 refine RL_then ?_
                 refine W_region ?_
                 refine L_assign rfl rfl ?_
                 refine RL_nil' ?_
                 refine Nx_block ?_
                 refine Nx_cutP (0, vv, Mv, _) (is := [0, 4, 7, 16, 18, 27, 29, 92, 93, 94, 145, 146, 147]) (I' := (fun (is1 : Int) (vv : Value) (Mv : Bks) (w : World) => (is1 = if was = 2 ∧ is0 ≠ 2 then 0 else is0) ∧ (Bl w0 51 4 vv (T.told ++ als).length (acs (T.told ++ als)) Mv) ∧ (HS w0 w ((b27, Row 98 [.int .i64 z.num, .int .i64 id]) :: (b26, Row 3 [.int .i64 id]) :: (((b16, Row 47 [vv]) :: (m, KO T.es T.ck) :: ((b18, Row 90 z.cells) :: (mf, FO fe fk) :: (b4, Row 23 [.float .f64 time]) :: (A ++ M'))) ++ Mv)))) (0) (vv) (Mv) (_)) rfl rfl rfl ?_
                 exact ⟨by rw [if_pos ⟨h1, h2⟩], by rw [e]; exact hbv, hs1⟩
               ·
                by_cases h2 : is0 = 2
                ·
                 have e : als = [⟨0, z.num, id, time⟩] := by rw [hals]; unfold kindOf; rw [if_pos ⟨h1, h2⟩]
                 refine W_block ?_
                 refine W_seq ?_
                 refine W_region ?_
                 refine L_move rfl rfl ?_
                 first | refine L_neq rfl rfl rfl (dtrue (by omega)) ?_ | refine L_neq rfl rfl rfl (dfalse (by omega)) ?_ | refine L_neq rfl rfl rfl rfl ?_
                 refine L_move rfl rfl ?_
                 first | (refine RL_want rfl rfl ?_; refine L_move rfl rfl ?_) | refine RL_skip rfl rfl rfl rfl ?_ | refine RL_skipU rfl rfl rfl ?_
                 first | (refine RL_want rfl rfl ?_; (first | refine L_eql rfl rfl rfl (dtrue (by omega)) ?_ | refine L_eql rfl rfl rfl (dfalse (by omega)) ?_ | refine L_eql rfl rfl rfl rfl ?_)) | refine RL_skip rfl rfl rfl rfl ?_ | refine RL_skipU rfl rfl rfl ?_
                 first | refine L_pick_t rfl rfl rfl ?_ | refine L_pick_f rfl rfl rfl ?_
                 refine L_assign rfl rfl ?_
                 refine RL_then ?_
                 refine W_if_true rfl ?_
                 refine W_region ?_
                 refine L_move rfl rfl ?_
                 refine L_callV rfl Try.fun40 rfl rfl (htellk 0 w hs) ?_
                 rintro _ w1 ⟨rfl, vv, Mv, hbv, hs1⟩
                 refine RL_nil' ?_
                 refine Nx_block ?_
                 refine Nx_cutP (is0, vv, Mv, _) (is := [0, 4, 7, 16, 18, 27, 29, 92, 93, 94, 145, 146, 147]) (I' := (fun (is1 : Int) (vv : Value) (Mv : Bks) (w : World) => (is1 = if was = 2 ∧ is0 ≠ 2 then 0 else is0) ∧ (Bl w0 51 4 vv (T.told ++ als).length (acs (T.told ++ als)) Mv) ∧ (HS w0 w ((b27, Row 98 [.int .i64 z.num, .int .i64 id]) :: (b26, Row 3 [.int .i64 id]) :: (((b16, Row 47 [vv]) :: (m, KO T.es T.ck) :: ((b18, Row 90 z.cells) :: (mf, FO fe fk) :: (b4, Row 23 [.float .f64 time]) :: (A ++ M'))) ++ Mv)))) (is0) (vv) (Mv) (_)) rfl rfl rfl ?_
                 exact ⟨by rw [if_neg (fun h => h1 h.1)], by rw [e]; exact hbv, hs1⟩
                ·
                 by_cases h3 : was = 0
                 ·
                  by_cases h4 : is0 = 1
                  ·
                   have e : als = [⟨2, z.num, id, time⟩] := by rw [hals]; unfold kindOf; rw [if_neg (fun h => h2 h.2), if_neg (fun h => h1 h.1), if_pos ⟨h3, h4⟩]
                   refine W_block ?_
                   refine W_seq ?_
                   refine W_region ?_
                   refine L_move rfl rfl ?_
                   first | refine L_neq rfl rfl rfl (dtrue (by omega)) ?_ | refine L_neq rfl rfl rfl (dfalse (by omega)) ?_ | refine L_neq rfl rfl rfl rfl ?_
                   refine L_move rfl rfl ?_
                   first | (refine RL_want rfl rfl ?_; refine L_move rfl rfl ?_) | refine RL_skip rfl rfl rfl rfl ?_ | refine RL_skipU rfl rfl rfl ?_
                   first | (refine RL_want rfl rfl ?_; (first | refine L_eql rfl rfl rfl (dtrue (by omega)) ?_ | refine L_eql rfl rfl rfl (dfalse (by omega)) ?_ | refine L_eql rfl rfl rfl rfl ?_)) | refine RL_skip rfl rfl rfl rfl ?_ | refine RL_skipU rfl rfl rfl ?_
                   first | refine L_pick_t rfl rfl rfl ?_ | refine L_pick_f rfl rfl rfl ?_
                   refine L_assign rfl rfl ?_
                   refine RL_then ?_
                   refine W_if_false rfl ?_
                   refine W_seq ?_
                   refine W_region ?_
                   refine L_move rfl rfl ?_
                   first | refine L_eql rfl rfl rfl (dtrue (by omega)) ?_ | refine L_eql rfl rfl rfl (dfalse (by omega)) ?_ | refine L_eql rfl rfl rfl rfl ?_
                   refine L_move rfl rfl ?_
                   first | (refine RL_want rfl rfl ?_; refine L_move rfl rfl ?_) | refine RL_skip rfl rfl rfl rfl ?_ | refine RL_skipU rfl rfl rfl ?_
                   first | (refine RL_want rfl rfl ?_; (first | refine L_neq rfl rfl rfl (dtrue (by omega)) ?_ | refine L_neq rfl rfl rfl (dfalse (by omega)) ?_ | refine L_neq rfl rfl rfl rfl ?_)) | refine RL_skip rfl rfl rfl rfl ?_ | refine RL_skipU rfl rfl rfl ?_
                   first | refine L_pick_t rfl rfl rfl ?_ | refine L_pick_f rfl rfl rfl ?_
                   refine L_assign rfl rfl ?_
                   refine RL_then ?_
                   refine W_if_false rfl ?_
                   refine W_seq ?_
                   refine W_region ?_
                   refine L_move rfl rfl ?_
                   first | refine L_eql rfl rfl rfl (dtrue (by omega)) ?_ | refine L_eql rfl rfl rfl (dfalse (by omega)) ?_ | refine L_eql rfl rfl rfl rfl ?_
                   refine L_move rfl rfl ?_
                   first | (refine RL_want rfl rfl ?_; refine L_move rfl rfl ?_) | refine RL_skip rfl rfl rfl rfl ?_ | refine RL_skipU rfl rfl rfl ?_
                   first | (refine RL_want rfl rfl ?_; (first | refine L_eql rfl rfl rfl (dtrue (by omega)) ?_ | refine L_eql rfl rfl rfl (dfalse (by omega)) ?_ | refine L_eql rfl rfl rfl rfl ?_)) | refine RL_skip rfl rfl rfl rfl ?_ | refine RL_skipU rfl rfl rfl ?_
                   first | refine L_pick_t rfl rfl rfl ?_ | refine L_pick_f rfl rfl rfl ?_
                   refine L_assign rfl rfl ?_
                   refine RL_then ?_
                   refine W_if_true rfl ?_
                   refine W_region ?_
                   refine L_move rfl rfl ?_
                   refine L_callV rfl Try.fun40 rfl rfl (htellk 2 w hs) ?_
                   rintro _ w1 ⟨rfl, vv, Mv, hbv, hs1⟩
                   refine RL_nil' ?_
                   refine Nx_block ?_
                   refine Nx_cutP (is0, vv, Mv, _) (is := [0, 4, 7, 16, 18, 27, 29, 92, 93, 94, 145, 146, 147]) (I' := (fun (is1 : Int) (vv : Value) (Mv : Bks) (w : World) => (is1 = if was = 2 ∧ is0 ≠ 2 then 0 else is0) ∧ (Bl w0 51 4 vv (T.told ++ als).length (acs (T.told ++ als)) Mv) ∧ (HS w0 w ((b27, Row 98 [.int .i64 z.num, .int .i64 id]) :: (b26, Row 3 [.int .i64 id]) :: (((b16, Row 47 [vv]) :: (m, KO T.es T.ck) :: ((b18, Row 90 z.cells) :: (mf, FO fe fk) :: (b4, Row 23 [.float .f64 time]) :: (A ++ M'))) ++ Mv)))) (is0) (vv) (Mv) (_)) rfl rfl rfl ?_
                   exact ⟨by rw [if_neg (fun h => h1 h.1)], by rw [e]; exact hbv, hs1⟩
                  ·
                   have e : als = [] := by rw [hals]; unfold kindOf; rw [if_neg (fun h => h2 h.2), if_neg (fun h => h1 h.1), if_neg (fun h => h4 h.2)]
                   refine W_block ?_
                   refine W_seq ?_
                   refine W_region ?_
                   refine L_move rfl rfl ?_
                   first | refine L_neq rfl rfl rfl (dtrue (by omega)) ?_ | refine L_neq rfl rfl rfl (dfalse (by omega)) ?_ | refine L_neq rfl rfl rfl rfl ?_
                   refine L_move rfl rfl ?_
                   first | (refine RL_want rfl rfl ?_; refine L_move rfl rfl ?_) | refine RL_skip rfl rfl rfl rfl ?_ | refine RL_skipU rfl rfl rfl ?_
                   first | (refine RL_want rfl rfl ?_; (first | refine L_eql rfl rfl rfl (dtrue (by omega)) ?_ | refine L_eql rfl rfl rfl (dfalse (by omega)) ?_ | refine L_eql rfl rfl rfl rfl ?_)) | refine RL_skip rfl rfl rfl rfl ?_ | refine RL_skipU rfl rfl rfl ?_
                   first | refine L_pick_t rfl rfl rfl ?_ | refine L_pick_f rfl rfl rfl ?_
                   refine L_assign rfl rfl ?_
                   refine RL_then ?_
                   refine W_if_false rfl ?_
                   refine W_seq ?_
                   refine W_region ?_
                   refine L_move rfl rfl ?_
                   first | refine L_eql rfl rfl rfl (dtrue (by omega)) ?_ | refine L_eql rfl rfl rfl (dfalse (by omega)) ?_ | refine L_eql rfl rfl rfl rfl ?_
                   refine L_move rfl rfl ?_
                   first | (refine RL_want rfl rfl ?_; refine L_move rfl rfl ?_) | refine RL_skip rfl rfl rfl rfl ?_ | refine RL_skipU rfl rfl rfl ?_
                   first | (refine RL_want rfl rfl ?_; (first | refine L_neq rfl rfl rfl (dtrue (by omega)) ?_ | refine L_neq rfl rfl rfl (dfalse (by omega)) ?_ | refine L_neq rfl rfl rfl rfl ?_)) | refine RL_skip rfl rfl rfl rfl ?_ | refine RL_skipU rfl rfl rfl ?_
                   first | refine L_pick_t rfl rfl rfl ?_ | refine L_pick_f rfl rfl rfl ?_
                   refine L_assign rfl rfl ?_
                   refine RL_then ?_
                   refine W_if_false rfl ?_
                   refine W_seq ?_
                   refine W_region ?_
                   refine L_move rfl rfl ?_
                   first | refine L_eql rfl rfl rfl (dtrue (by omega)) ?_ | refine L_eql rfl rfl rfl (dfalse (by omega)) ?_ | refine L_eql rfl rfl rfl rfl ?_
                   refine L_move rfl rfl ?_
                   first | (refine RL_want rfl rfl ?_; refine L_move rfl rfl ?_) | refine RL_skip rfl rfl rfl rfl ?_ | refine RL_skipU rfl rfl rfl ?_
                   first | (refine RL_want rfl rfl ?_; (first | refine L_eql rfl rfl rfl (dtrue (by omega)) ?_ | refine L_eql rfl rfl rfl (dfalse (by omega)) ?_ | refine L_eql rfl rfl rfl rfl ?_)) | refine RL_skip rfl rfl rfl rfl ?_ | refine RL_skipU rfl rfl rfl ?_
                   first | refine L_pick_t rfl rfl rfl ?_ | refine L_pick_f rfl rfl rfl ?_
                   refine L_assign rfl rfl ?_
                   refine RL_then ?_
                   refine W_if_false rfl ?_
                   refine W_skip' ?_
                   refine Nx_block ?_
                   refine Nx_cutP (is0, vu, Mu, _) (is := [0, 4, 7, 16, 18, 27, 29, 92, 93, 94, 145, 146, 147]) (I' := (fun (is1 : Int) (vv : Value) (Mv : Bks) (w : World) => (is1 = if was = 2 ∧ is0 ≠ 2 then 0 else is0) ∧ (Bl w0 51 4 vv (T.told ++ als).length (acs (T.told ++ als)) Mv) ∧ (HS w0 w ((b27, Row 98 [.int .i64 z.num, .int .i64 id]) :: (b26, Row 3 [.int .i64 id]) :: (((b16, Row 47 [vv]) :: (m, KO T.es T.ck) :: ((b18, Row 90 z.cells) :: (mf, FO fe fk) :: (b4, Row 23 [.float .f64 time]) :: (A ++ M'))) ++ Mv)))) (is0) (vu) (Mu) (_)) rfl rfl rfl ?_
                   exact ⟨by rw [if_neg (fun h => h1 h.1)], by rw [e, List.append_nil]; exact hbu, hs⟩
                 ·
                  have e : als = [] := by rw [hals]; unfold kindOf; rw [if_neg (fun h => h2 h.2), if_neg (fun h => h1 h.1), if_neg (fun h => h3 h.1)]
                  refine W_block ?_
                  refine W_seq ?_
                  refine W_region ?_
                  refine L_move rfl rfl ?_
                  first | refine L_neq rfl rfl rfl (dtrue (by omega)) ?_ | refine L_neq rfl rfl rfl (dfalse (by omega)) ?_ | refine L_neq rfl rfl rfl rfl ?_
                  refine L_move rfl rfl ?_
                  first | (refine RL_want rfl rfl ?_; refine L_move rfl rfl ?_) | refine RL_skip rfl rfl rfl rfl ?_ | refine RL_skipU rfl rfl rfl ?_
                  first | (refine RL_want rfl rfl ?_; (first | refine L_eql rfl rfl rfl (dtrue (by omega)) ?_ | refine L_eql rfl rfl rfl (dfalse (by omega)) ?_ | refine L_eql rfl rfl rfl rfl ?_)) | refine RL_skip rfl rfl rfl rfl ?_ | refine RL_skipU rfl rfl rfl ?_
                  first | refine L_pick_t rfl rfl rfl ?_ | refine L_pick_f rfl rfl rfl ?_
                  refine L_assign rfl rfl ?_
                  refine RL_then ?_
                  refine W_if_false rfl ?_
                  refine W_seq ?_
                  refine W_region ?_
                  refine L_move rfl rfl ?_
                  first | refine L_eql rfl rfl rfl (dtrue (by omega)) ?_ | refine L_eql rfl rfl rfl (dfalse (by omega)) ?_ | refine L_eql rfl rfl rfl rfl ?_
                  refine L_move rfl rfl ?_
                  first | (refine RL_want rfl rfl ?_; refine L_move rfl rfl ?_) | refine RL_skip rfl rfl rfl rfl ?_ | refine RL_skipU rfl rfl rfl ?_
                  first | (refine RL_want rfl rfl ?_; (first | refine L_neq rfl rfl rfl (dtrue (by omega)) ?_ | refine L_neq rfl rfl rfl (dfalse (by omega)) ?_ | refine L_neq rfl rfl rfl rfl ?_)) | refine RL_skip rfl rfl rfl rfl ?_ | refine RL_skipU rfl rfl rfl ?_
                  first | refine L_pick_t rfl rfl rfl ?_ | refine L_pick_f rfl rfl rfl ?_
                  refine L_assign rfl rfl ?_
                  refine RL_then ?_
                  refine W_if_false rfl ?_
                  refine W_seq ?_
                  refine W_region ?_
                  refine L_move rfl rfl ?_
                  first | refine L_eql rfl rfl rfl (dtrue (by omega)) ?_ | refine L_eql rfl rfl rfl (dfalse (by omega)) ?_ | refine L_eql rfl rfl rfl rfl ?_
                  refine L_move rfl rfl ?_
                  first | (refine RL_want rfl rfl ?_; refine L_move rfl rfl ?_) | refine RL_skip rfl rfl rfl rfl ?_ | refine RL_skipU rfl rfl rfl ?_
                  first | (refine RL_want rfl rfl ?_; (first | refine L_eql rfl rfl rfl (dtrue (by omega)) ?_ | refine L_eql rfl rfl rfl (dfalse (by omega)) ?_ | refine L_eql rfl rfl rfl rfl ?_)) | refine RL_skip rfl rfl rfl rfl ?_ | refine RL_skipU rfl rfl rfl ?_
                  first | refine L_pick_t rfl rfl rfl ?_ | refine L_pick_f rfl rfl rfl ?_
                  refine L_assign rfl rfl ?_
                  refine RL_then ?_
                  refine W_if_false rfl ?_
                  refine W_skip' ?_
                  refine Nx_block ?_
                  refine Nx_cutP (is0, vu, Mu, _) (is := [0, 4, 7, 16, 18, 27, 29, 92, 93, 94, 145, 146, 147]) (I' := (fun (is1 : Int) (vv : Value) (Mv : Bks) (w : World) => (is1 = if was = 2 ∧ is0 ≠ 2 then 0 else is0) ∧ (Bl w0 51 4 vv (T.told ++ als).length (acs (T.told ++ als)) Mv) ∧ (HS w0 w ((b27, Row 98 [.int .i64 z.num, .int .i64 id]) :: (b26, Row 3 [.int .i64 id]) :: (((b16, Row 47 [vv]) :: (m, KO T.es T.ck) :: ((b18, Row 90 z.cells) :: (mf, FO fe fk) :: (b4, Row 23 [.float .f64 time]) :: (A ++ M'))) ++ Mv)))) (is0) (vu) (Mu) (_)) rfl rfl rfl ?_
                  exact ⟨by rw [if_neg (fun h => h1 h.1)], by rw [e, List.append_nil]; exact hbu, hs⟩
              ·
               clear hs hbu
               intro is1 vv Mv w hI
               show W _ _ _ _ [(0, .pointer (some ⟨B, 0, none⟩)), (4, .pointer (some ⟨b4, 0, none⟩)), (7, .map (some mf)), (16, .pointer (some ⟨b16, 0, none⟩)), (18, .pointer (some ⟨b18, 0, none⟩)), (27, .pointer (some ⟨b27, 0, none⟩)), (29, .int .i64 is1), (92, .slice az zs.length cz), (93, .int .i64 zs.length), (94, .int .i64 i), (145, .slice al K cl), (146, .int .i64 K), (147, .int .i64 j)] w
               obtain ⟨his1, hbv, hs⟩ := hI
               obtain ⟨T', hT'⟩ : ∃ T', T' = idStep far time fe z T id := ⟨_, rfl⟩
               have eT : T' = ⟨T.told ++ als, if is1 = 0 then mdel (z.num, id) (mput (z.num, id) is1 T.ck T.es) else mput (z.num, id) is1 T.ck T.es, mclk (z.num, id) T.ck T.es⟩ := by
                rw [hT', hals, his1, hwas, his0]; rfl
               have eF : T' = (ids.take (j + 1)).foldl (idStep far time fe z) S := by
                rw [List.take_add_one, show ids[j]? = some id by rw [hid, List.getD_eq_getElem?_getD, List.getElem?_eq_getElem (by omega)]; rfl, List.foldl_append, ← hT, hT']; rfl
               have hmk := mput_ok hKT (z.num, id) is1
               have hals1 : als.length ≤ 1 := by
                rw [hals]; cases kindOf was is0 <;> simp
               have etk : ids.take (j + 1) = ids.take j ++ [id] := by
                rw [List.take_add_one, show ids[j]? = some id by rw [hid, List.getD_eq_getElem?_getD, List.getElem?_eq_getElem (by omega)]; rfl]; rfl
               by_cases h0 : is1 = 0
               ·
                rw [if_pos h0] at eT
                refine W_seq ?_
                refine W_pht [0, 1, 2, 5] [3, 4] [6] (fun _ _ _ => False) Try.mixed (by kernel_rfl) (fun _ _ _ _ _ h => h) hs ?_
                refine PL_val rfl (fun w => R_move rfl) ?_
                refine PL_val rfl (fun w => R_nilCheck rfl) ?_
                refine PL_val rfl (fun w => R_fieldAddr (off := 3) Try.underlying87 rfl rfl Try.ti84 rfl) ?_
                refine PL_val rfl (fun w => R_move rfl) ?_
                refine PL_end ?_
                refine HL_val rfl (fun w hs => R_load Try.one84 rfl (by exact HS.cellM hs hgm2 rfl)) ?_
                refine HL_val rfl (fun w hs => R_loadA Try.agg98 Try.ti98 rfl (by exact cellsAt2' (hs.get (i := 0) rfl) rfl rfl)) ?_
                refine HL_tail ?_
                intro w hs
                refine L_mput hs (i := 3) (k := (z.num, id)) (v := is1) (ek := pk) (ev := Value.int .i64) rfl K98 Try.underlying84 rfl rfl rfl ?_; intro w hs
                refine RL_then ?_
                refine W_seq ?_
                refine W_region ?_
                refine L_move rfl rfl ?_
                first | refine L_eql rfl rfl rfl (dtrue (by omega)) ?_ | refine L_eql rfl rfl rfl (dfalse (by omega)) ?_ | refine L_eql rfl rfl rfl rfl ?_
                refine RL_then ?_
                refine W_if_true rfl ?_
                refine W_pht [0, 1, 2] [3, 4] [5] (fun _ _ _ => False) Try.mixed (by kernel_rfl) (fun _ _ _ _ _ h => h) hs ?_
                refine PL_val rfl (fun w => R_move rfl) ?_
                refine PL_val rfl (fun w => R_nilCheck rfl) ?_
                refine PL_val rfl (fun w => R_fieldAddr (off := 3) Try.underlying87 rfl rfl Try.ti84 rfl) ?_
                refine PL_end ?_
                refine HL_val rfl (fun w hs => R_load Try.one84 rfl (by exact HS.cellM hs hgm2 rfl)) ?_
                refine HL_val rfl (fun w hs => R_loadA Try.agg98 Try.ti98 rfl (by exact cellsAt2' (hs.get (i := 0) rfl) rfl rfl)) ?_
                refine HL_tail ?_
                intro w hs
                refine L_mdel hs (i := 3) (k := (z.num, id)) (ek := pk) (ev := Value.int .i64) rfl K98 Try.underlying84 rfl rfl ?_; intro w hs
                refine RL_nil' ?_
                refine Nx_block ?_
                refine Nx_then ?_
                refine W_region ?_
                first | refine L_add rfl rfl rfl (wrp_i64 (by omega)) ?_ | refine L_add rfl rfl rfl rfl ?_
                refine L_move rfl rfl ?_
                refine RL_nil' ?_
                refine Nx_loopP (j + 1, T', vv, Mv, _) (is := [0, 4, 7, 16, 18, 92, 93, 94, 145, 146, 147]) (I' := (fun (j : Nat) (T : WS) (vu : Value) (Mu : Bks) (w : World) => (j ≤ K) ∧ (T = (ids.take j).foldl (idStep far time fe z) S) ∧ (KOk T.es T.ck) ∧ (T.es.length ≤ S.es.length + ((ids.take j).filter fun id => (mget id fe).isSome).length) ∧ (T.told.length ≤ S.told.length + j) ∧ (Bl w0 51 4 vu T.told.length (acs T.told) Mu) ∧ (HS w0 w (((b16, Row 47 [vu]) :: (m, KO T.es T.ck) :: ((b18, Row 90 z.cells) :: (mf, FO fe fk) :: (b4, Row 23 [.float .f64 time]) :: (A ++ M'))) ++ Mu))) (j + 1) (T') (vv) (Mv) (_)) rfl rfl rfl ?_ ?_
                ·
                 refine ⟨hlt3, eF, ?_, ?_, ?_, ?_, ?_⟩
                 ·
                  rw [eT]; exact mdel_ok hmk _
                 ·
                  rw [eT, etk, List.filter_append, List.length_append]
                  show (mdel (z.num, id) (mput (z.num, id) is1 T.ck T.es)).length ≤ _
                  rw [mdel_mput]
                  have := mdel_len (z.num, id) T.es
                  omega
                 ·
                  rw [eT]
                  show (T.told ++ als).length ≤ _
                  rw [List.length_append]; omega
                 ·
                  rw [eT]; exact hbv
                 ·
                  rw [eT]; exact HS.pop (HS.pop hs hb27) hb26
                ·
                 omega
               ·
                have hfm : (mget id fe).isSome = true := by
                 cases hm : mget id fe with
                 | some y => rfl
                 | none =>
                  have e0 : is0 = 0 := by rw [his0]; unfold isNow; rw [hm]
                  rw [e0] at his1
                  split at his1 <;> exact absurd his1 h0
                rw [if_neg h0] at eT
                refine W_seq ?_
                refine W_pht [0, 1, 2, 5] [3, 4] [6] (fun _ _ _ => False) Try.mixed (by kernel_rfl) (fun _ _ _ _ _ h => h) hs ?_
                refine PL_val rfl (fun w => R_move rfl) ?_
                refine PL_val rfl (fun w => R_nilCheck rfl) ?_
                refine PL_val rfl (fun w => R_fieldAddr (off := 3) Try.underlying87 rfl rfl Try.ti84 rfl) ?_
                refine PL_val rfl (fun w => R_move rfl) ?_
                refine PL_end ?_
                refine HL_val rfl (fun w hs => R_load Try.one84 rfl (by exact HS.cellM hs hgm2 rfl)) ?_
                refine HL_val rfl (fun w hs => R_loadA Try.agg98 Try.ti98 rfl (by exact cellsAt2' (hs.get (i := 0) rfl) rfl rfl)) ?_
                refine HL_tail ?_
                intro w hs
                refine L_mput hs (i := 3) (k := (z.num, id)) (v := is1) (ek := pk) (ev := Value.int .i64) rfl K98 Try.underlying84 rfl rfl rfl ?_; intro w hs
                refine RL_then ?_
                refine W_seq ?_
                refine W_region ?_
                refine L_move rfl rfl ?_
                first | refine L_eql rfl rfl rfl (dtrue (by omega)) ?_ | refine L_eql rfl rfl rfl (dfalse (by omega)) ?_ | refine L_eql rfl rfl rfl rfl ?_
                refine RL_then ?_
                refine W_if_false rfl ?_
                refine W_skip' ?_
                refine Nx_block ?_
                refine Nx_then ?_
                refine W_region ?_
                first | refine L_add rfl rfl rfl (wrp_i64 (by omega)) ?_ | refine L_add rfl rfl rfl rfl ?_
                refine L_move rfl rfl ?_
                refine RL_nil' ?_
                refine Nx_loopP (j + 1, T', vv, Mv, _) (is := [0, 4, 7, 16, 18, 92, 93, 94, 145, 146, 147]) (I' := (fun (j : Nat) (T : WS) (vu : Value) (Mu : Bks) (w : World) => (j ≤ K) ∧ (T = (ids.take j).foldl (idStep far time fe z) S) ∧ (KOk T.es T.ck) ∧ (T.es.length ≤ S.es.length + ((ids.take j).filter fun id => (mget id fe).isSome).length) ∧ (T.told.length ≤ S.told.length + j) ∧ (Bl w0 51 4 vu T.told.length (acs T.told) Mu) ∧ (HS w0 w (((b16, Row 47 [vu]) :: (m, KO T.es T.ck) :: ((b18, Row 90 z.cells) :: (mf, FO fe fk) :: (b4, Row 23 [.float .f64 time]) :: (A ++ M'))) ++ Mu))) (j + 1) (T') (vv) (Mv) (_)) rfl rfl rfl ?_ ?_
                ·
                 refine ⟨hlt3, eF, ?_, ?_, ?_, ?_, ?_⟩
                 ·
                  rw [eT]; exact hmk
                 ·
                  rw [eT, etk, List.filter_append, List.length_append, show (List.filter (fun id => (mget id fe).isSome) [id]) = [id] from List.filter_cons_of_pos (p := fun id => (mget id fe).isSome) hfm]
                  show (mput (z.num, id) is1 T.ck T.es).length ≤ _
                  rw [mput_len, List.length_singleton]
                  split <;> omega
                 ·
                  rw [eT]
                  show (T.told ++ als).length ≤ _
                  rw [List.length_append]; omega
                 ·
                  rw [eT]; exact hbv
                 ·
                  rw [eT]; exact HS.pop (HS.pop hs hb27) hb26
                ·
                 omega
            ·
             obtain rfl : j = K := by omega
             rw [List.take_of_length_le (by omega)] at hT hTl
             have hTz : T = zoneStep far time fe S z := by rw [hT, hidd]; rfl
             have hcnt : (ids.filter fun id => (mget id fe).isSome).length ≤ fe.length := by
              rw [hidd]; exact ids_firm fe S.es z.num
             refine W_seq ?_
             refine W_region ?_
             first | refine L_lss rfl rfl rfl (dtrue (by omega)) ?_ | refine L_lss rfl rfl rfl (dfalse (by omega)) ?_ | refine L_lss rfl rfl rfl rfl ?_
             refine RL_then ?_
             refine W_seq ?_
             refine W_if_false rfl ?_
             refine W_exit' ?_
             refine Ex_then_exit ?_
             refine Ex_loop_exit ?_
             refine Ex_block_hit ?_
             refine Nx_block ?_
             refine Nx_then ?_
             refine W_region ?_
             first | refine L_add rfl rfl rfl (wrp_i64 (by omega)) ?_ | refine L_add rfl rfl rfl rfl ?_
             refine L_move rfl rfl ?_
             refine RL_nil' ?_
             refine Nx_loopP (i + 1, T, vu, Mu, _) (is := [0, 4, 7, 16, 92, 93, 94]) (I' := (fun (i : Nat) (S : WS) (vt : Value) (Mt : Bks) (w : World) => (i ≤ zs.length) ∧ (S = (zs.take i).foldl (zoneStep far time fe) S0) ∧ (KOk S.es S.ck) ∧ (S.es.length ≤ es.length + i * fe.length) ∧ (S.told.length ≤ i * 2000000) ∧ (Bl w0 51 4 vt S.told.length (acs S.told) Mt) ∧ (HS w0 w (((b16, Row 47 [vt]) :: (m, KO S.es S.ck) :: (mf, FO fe fk) :: (b4, Row 23 [.float .f64 time]) :: A) ++ Mt))) (i + 1) (T) (vu) (Mu) (_)) rfl rfl rfl ?_ ?_
             ·
              refine ⟨hlt2, ?_, hKT, ?_, ?_, hbu, ?_⟩
              ·
               rw [take_zn hlt2, List.foldl_append, ← hS, hTz, hzd]; rfl
              ·
               rw [Nat.succ_mul]; omega
              ·
               rw [Nat.succ_mul]; omega
              ·
               have hs9 : HS w0 w (((b18, Row 90 z.cells) :: (((b16, Row 47 [vu]) :: (m, KO T.es T.ck) :: (mf, FO fe fk) :: (b4, Row 23 [.float .f64 time]) :: A) ++ Mu)) ++ M') := HS.re hs (fun c => by simp only [List.map_append, List.map_cons, List.map_nil, List.sum_append, List.sum_cons, List.sum_nil]; omega)
               exact HS.pop (hs9.dropR hbs.own) hb18
             ·
              omega
          ·
           intro x hx hxs w hs
           replace hs : HS w0 w (((b112, ItO m S.ck (vis.map (·.2.2) ++ [x.2.2]) S.ck) :: C) ++ Ml) := hs
           refine L_extract rfl rfl rfl ?_
           refine RL_then ?_
           refine W_seq ?_
           refine W_if_true rfl ?_
           refine W_skip' ?_
           refine Nx_then ?_
           refine W_block ?_
           refine W_seq ?_
           refine W_region ?_
           refine L_entry rfl hs (List.mem_append_left _ (List.mem_cons_self ..)) (List.mem_append_left _ (List.mem_cons_of_mem _ hCm)) hx hKS.born rfl ?_
           refine L_extract rfl rfl rfl ?_
           refine L_extract rfl rfl rfl ?_
           refine L_alloc rfl hs Try.ti98 ?_; intro b21 w hb21 _ hs; replace hs := HS.push hs
           refine L_storeA hs (i := 0) rfl Try.ti98 rfl rfl (by first | rfl | exact add_lit0 _ _ | exact Addr.add_lit .. | (rw [add_add]; exact add_lit0 _ _)) (by simp) (by first | (simp; done) | simp [Value.oneCell']) ?_
           intro w hs
           try dsimp only [List.set_cons_succ, List.set_cons_zero, List.cons_append, List.nil_append] at hs
           refine L_assign rfl rfl ?_
           refine RL_then ?_
           refine W_seq ?_
           refine W_region ?_
           refine L_move rfl rfl ?_
           refine L_fieldAddr rfl (off := 1) Try.underlying98 rfl rfl Try.ti3 rfl ?_
           refine L_load rfl Try.one3 rfl (by first | exact hs.cell (i := 0) rfl rfl | exact hs.cell (i := 1) rfl rfl) ?_
           refine L_look2 (k := x.1.2) (ev := tv) (z := zeroTv) rfl K3 Try.underlying95 Try.ti60 (hs.has _ (List.mem_cons_of_mem _ (List.mem_append_left _ (List.mem_cons_of_mem _ hCf)))) rfl rfl ?_; rw [look_tv]
           refine L_move rfl rfl ?_
           refine L_extract rfl rfl rfl ?_
           refine L_extract rfl rfl rfl ?_
           refine L_alloc rfl hs Try.ti60 ?_; intro b23 w hb23 _ hs; replace hs := HS.push hs
           refine L_storeA hs (i := 0) rfl Try.ti60 rfl rfl (by first | rfl | exact add_lit0 _ _ | exact Addr.add_lit .. | (rw [add_add]; exact add_lit0 _ _)) (by simp [Tk.cells]) (by exact Tk.one _) ?_
           intro w hs
           try dsimp only [List.set_cons_succ, List.set_cons_zero, List.cons_append, List.nil_append] at hs
           refine L_assign rfl rfl ?_
           refine RL_then ?_
           refine W_seq ?_
           replace hs : HS w0 w ((((b21, Row 98 [.int .i64 x.1.1, .int .i64 x.1.2]) :: (b112, ItO m S.ck (vis.map (·.2.2) ++ [x.2.2]) S.ck) :: C)) ++ Ml) := HS.pop hs hb23
           have fmap : (vis ++ [x]).map (·.2.2) = vis.map (·.2.2) ++ [x.2.2] := by simp
           have flt : (unseen ((vis ++ [x]).map (·.2.2)) S.es).length < (unseen (vis.map (·.2.2)) S.es).length := by rw [fmap]; exact unseen_lt hx hxs
           have fsub : ∀ y ∈ vis ++ [x], y ∈ S.es := fun y hy => (List.mem_append.1 hy).elim (hsub y) fun h => by rw [List.mem_singleton.1 h]; exact hx
           have fnd : (vis ++ [x]).Nodup := List.nodup_append.2 ⟨hnd, by simp, fun a ha b hb' hab => hxs (by rw [List.mem_singleton.1 hb'] at hab; exact List.mem_map.2 ⟨a, ha, by rw [hab]⟩)⟩
           have flen : (vis ++ [x]).length + (unseen ((vis ++ [x]).map (·.2.2)) S.es).length ≤ S.es.length := by rw [List.length_append, List.length_singleton]; omega
           have fno : goneB fe z.num x = false → Bl w0 3 1 l (xs1 ++ gonL fe z.num (vis ++ [x])).length (il (xs1 ++ gonL fe z.num (vis ++ [x]))) Ml := fun h => by rw [gonL_snoc, h, if_neg (by decide), List.append_nil]; exact hb
           by_cases h1 : x.1.1 = z.num
           ·
            by_cases h2 : x.2.1 = 2
            ·
             rcases (Bool.eq_false_or_eq_true (mget x.1.2 fe).isSome).symm with hg | hg
             ·
              have hgo : goneB fe z.num x = true := by
               unfold goneB
               rw [decide_eq_true h1, decide_eq_true h2]
               cases h : mget x.1.2 fe with
               | none => rfl
               | some y => rw [h] at hg; cases hg
              refine W_set 24 (v' := .bool false) rfl (by rw [hg]; rfl) ?_
              refine W_region ?_
              refine L_fieldAddr rfl (off := 0) Try.underlying98 rfl rfl Try.ti3 rfl ?_
              refine L_load rfl Try.one3 rfl (by first | exact hs.cell (i := 0) rfl rfl | exact HS.cellM hs (List.mem_append_left _ (List.mem_cons_of_mem _ (List.mem_cons_of_mem _ hC18))) rfl) ?_
              refine L_fieldAddr rfl (off := 0) Try.underlying90 rfl rfl Try.ti3 rfl ?_
              refine L_load rfl Try.one3 rfl (by first | exact hs.cell (i := 0) rfl rfl | exact HS.cellM hs (List.mem_append_left _ (List.mem_cons_of_mem _ (List.mem_cons_of_mem _ hC18))) rfl) ?_
              first | refine L_eql rfl rfl rfl (dtrue (by omega)) ?_ | refine L_eql rfl rfl rfl (dfalse (by omega)) ?_ | refine L_eql rfl rfl rfl rfl ?_
              refine L_move rfl rfl ?_
              first | (refine RL_want rfl rfl ?_; refine L_move rfl rfl ?_) | refine RL_skip rfl rfl rfl rfl ?_ | refine RL_skipU rfl rfl rfl ?_
              first | (refine RL_want rfl rfl ?_; (first | refine L_eql rfl rfl rfl (dtrue (by omega)) ?_ | refine L_eql rfl rfl rfl (dfalse (by omega)) ?_ | refine L_eql rfl rfl rfl rfl ?_)) | refine RL_skip rfl rfl rfl rfl ?_ | refine RL_skipU rfl rfl rfl ?_
              first | refine L_pick_t rfl rfl rfl ?_ | refine L_pick_f rfl rfl rfl ?_
              refine L_move rfl rfl ?_
              first | (refine RL_want rfl rfl ?_; refine L_move rfl rfl ?_) | refine RL_skip rfl rfl rfl rfl ?_ | refine RL_skipU rfl rfl rfl ?_
              first | (refine RL_want rfl rfl ?_; refine L_not rfl rfl ?_) | refine RL_skip rfl rfl rfl rfl ?_ | refine RL_skipU rfl rfl rfl ?_
              first | refine L_pick_t rfl rfl rfl ?_ | refine L_pick_f rfl rfl rfl ?_
              refine RL_then ?_
              refine W_if_true rfl ?_
              refine W_region ?_
              refine L_move rfl rfl ?_
              refine L_fieldAddr rfl (off := 1) Try.underlying98 rfl rfl Try.ti3 rfl ?_
              refine L_load rfl Try.one3 rfl (by first | exact hs.cell (i := 0) rfl rfl | exact HS.cellM hs (List.mem_append_left _ (List.mem_cons_of_mem _ (List.mem_cons_of_mem _ hC18))) rfl) ?_
              refine L_buildSlice1 rfl hs Try.underlying38 Try.ti3 rfl (by decide) rfl rfl ?_
              intro b141 w hb141 hnb141 hs
              simp only [List.map_cons, List.map_nil] at hs
              try dsimp only [List.set_cons_succ, List.set_cons_zero, List.cons_append, List.nil_append] at hs
              replace hs : HS w0 w (((((b21, Row 98 [.int .i64 x.1.1, .int .i64 x.1.2]) :: (b112, ItO m S.ck (vis.map (·.2.2) ++ [x.2.2]) S.ck) :: C)) ++ Ml) ++ [(b141, Row 3 [.int .i64 x.1.2])]) := hs
              refine L_appendT (L := (b21, Row 98 [.int .i64 x.1.1, .int .i64 x.1.2]) :: (b112, ItO m S.ck (vis.map (·.2.2) ++ [x.2.2]) S.ck) :: C) rfl Try.underlying38 Try.ti3 rfl hs hb141 hb rfl rfl rfl (by simp [Value.oneCell']) (by rw [List.length_append]; omega) (by rw [List.length_append]; omega) ?_
              intro l2 w M2 hs hb2
              refine L_assign rfl rfl ?_
              refine RL_nil' ?_
              refine Nx_block ?_
              refine Nx_loopP (vis ++ [x], l2, M2, _) (is := [0, 4, 7, 16, 18, 19, 92, 93, 94, 112]) (I' := (fun (vis : List KE) (l : Value) (Ml : Bks) (w : World) => (∀ x ∈ vis, x ∈ S.es) ∧ (vis.Nodup) ∧ (vis.length + (unseen (vis.map (·.2.2)) S.es).length ≤ S.es.length) ∧ (Bl w0 3 1 l (xs1 ++ gonL fe z.num vis).length (il (xs1 ++ gonL fe z.num vis)) Ml) ∧ (HS w0 w (((b112, ItO m S.ck (vis.map (·.2.2)) S.ck) :: C) ++ Ml))) (vis ++ [x]) (l2) (M2) (_)) rfl rfl rfl ?_ ?_
              ·
               refine ⟨fsub, fnd, flen, ?_, ?_⟩
               ·
                rw [gonL_snoc, hgo, if_pos rfl, ← List.append_assoc, List.length_append, List.length_singleton, ← il_snoc]; exact hb2
               ·
                rw [fmap]; exact HS.pop (L := ((b112, ItO m S.ck (vis.map (·.2.2) ++ [x.2.2]) S.ck) :: C) ++ M2) hs hb21
              ·
               exact flt
             ·
              have hgo : goneB fe z.num x = false := by
               unfold goneB
               cases h : mget x.1.2 fe with
               | none => rw [h] at hg; cases hg
               | some y => exact Bool.and_false _
              refine W_set 24 (v' := .bool true) rfl (by rw [hg]; rfl) ?_
              refine W_region ?_
              refine L_fieldAddr rfl (off := 0) Try.underlying98 rfl rfl Try.ti3 rfl ?_
              refine L_load rfl Try.one3 rfl (by first | exact hs.cell (i := 0) rfl rfl | exact HS.cellM hs (List.mem_append_left _ (List.mem_cons_of_mem _ (List.mem_cons_of_mem _ hC18))) rfl) ?_
              refine L_fieldAddr rfl (off := 0) Try.underlying90 rfl rfl Try.ti3 rfl ?_
              refine L_load rfl Try.one3 rfl (by first | exact hs.cell (i := 0) rfl rfl | exact HS.cellM hs (List.mem_append_left _ (List.mem_cons_of_mem _ (List.mem_cons_of_mem _ hC18))) rfl) ?_
              first | refine L_eql rfl rfl rfl (dtrue (by omega)) ?_ | refine L_eql rfl rfl rfl (dfalse (by omega)) ?_ | refine L_eql rfl rfl rfl rfl ?_
              refine L_move rfl rfl ?_
              first | (refine RL_want rfl rfl ?_; refine L_move rfl rfl ?_) | refine RL_skip rfl rfl rfl rfl ?_ | refine RL_skipU rfl rfl rfl ?_
              first | (refine RL_want rfl rfl ?_; (first | refine L_eql rfl rfl rfl (dtrue (by omega)) ?_ | refine L_eql rfl rfl rfl (dfalse (by omega)) ?_ | refine L_eql rfl rfl rfl rfl ?_)) | refine RL_skip rfl rfl rfl rfl ?_ | refine RL_skipU rfl rfl rfl ?_
              first | refine L_pick_t rfl rfl rfl ?_ | refine L_pick_f rfl rfl rfl ?_
              refine L_move rfl rfl ?_
              first | (refine RL_want rfl rfl ?_; refine L_move rfl rfl ?_) | refine RL_skip rfl rfl rfl rfl ?_ | refine RL_skipU rfl rfl rfl ?_
              first | (refine RL_want rfl rfl ?_; refine L_not rfl rfl ?_) | refine RL_skip rfl rfl rfl rfl ?_ | refine RL_skipU rfl rfl rfl ?_
              first | refine L_pick_t rfl rfl rfl ?_ | refine L_pick_f rfl rfl rfl ?_
              refine RL_then ?_
              refine W_if_false rfl ?_
              refine W_skip' ?_
              refine Nx_block ?_
              refine Nx_loopP (vis ++ [x], l, Ml, _) (is := [0, 4, 7, 16, 18, 19, 92, 93, 94, 112]) (I' := (fun (vis : List KE) (l : Value) (Ml : Bks) (w : World) => (∀ x ∈ vis, x ∈ S.es) ∧ (vis.Nodup) ∧ (vis.length + (unseen (vis.map (·.2.2)) S.es).length ≤ S.es.length) ∧ (Bl w0 3 1 l (xs1 ++ gonL fe z.num vis).length (il (xs1 ++ gonL fe z.num vis)) Ml) ∧ (HS w0 w (((b112, ItO m S.ck (vis.map (·.2.2)) S.ck) :: C) ++ Ml))) (vis ++ [x]) (l) (Ml) (_)) rfl rfl rfl ?_ ?_
              ·
               exact ⟨fsub, fnd, flen, fno hgo, by rw [fmap]; exact HS.pop (L := ((b112, ItO m S.ck (vis.map (·.2.2) ++ [x.2.2]) S.ck) :: C) ++ Ml) hs hb21⟩
              ·
               exact flt
            ·
             have hgo : goneB fe z.num x = false := by unfold goneB; rw [decide_eq_false h2, Bool.and_false]; rfl
             refine W_region ?_
             refine L_fieldAddr rfl (off := 0) Try.underlying98 rfl rfl Try.ti3 rfl ?_
             refine L_load rfl Try.one3 rfl (by first | exact hs.cell (i := 0) rfl rfl | exact HS.cellM hs (List.mem_append_left _ (List.mem_cons_of_mem _ (List.mem_cons_of_mem _ hC18))) rfl) ?_
             refine L_fieldAddr rfl (off := 0) Try.underlying90 rfl rfl Try.ti3 rfl ?_
             refine L_load rfl Try.one3 rfl (by first | exact hs.cell (i := 0) rfl rfl | exact HS.cellM hs (List.mem_append_left _ (List.mem_cons_of_mem _ (List.mem_cons_of_mem _ hC18))) rfl) ?_
             first | refine L_eql rfl rfl rfl (dtrue (by omega)) ?_ | refine L_eql rfl rfl rfl (dfalse (by omega)) ?_ | refine L_eql rfl rfl rfl rfl ?_
             refine L_move rfl rfl ?_
             first | (refine RL_want rfl rfl ?_; refine L_move rfl rfl ?_) | refine RL_skip rfl rfl rfl rfl ?_ | refine RL_skipU rfl rfl rfl ?_
             first | (refine RL_want rfl rfl ?_; (first | refine L_eql rfl rfl rfl (dtrue (by omega)) ?_ | refine L_eql rfl rfl rfl (dfalse (by omega)) ?_ | refine L_eql rfl rfl rfl rfl ?_)) | refine RL_skip rfl rfl rfl rfl ?_ | refine RL_skipU rfl rfl rfl ?_
             first | refine L_pick_t rfl rfl rfl ?_ | refine L_pick_f rfl rfl rfl ?_
             refine L_move rfl rfl ?_
             first | (refine RL_want rfl rfl ?_; refine L_move rfl rfl ?_) | refine RL_skip rfl rfl rfl rfl ?_ | refine RL_skipU rfl rfl rfl ?_
             first | (refine RL_want rfl rfl ?_; refine L_not rfl rfl ?_) | refine RL_skip rfl rfl rfl rfl ?_ | refine RL_skipU rfl rfl rfl ?_
             first | refine L_pick_t rfl rfl rfl ?_ | refine L_pick_f rfl rfl rfl ?_
             refine RL_then ?_
             refine W_if_false rfl ?_
             refine W_skip' ?_
             refine Nx_block ?_
             refine Nx_loopP (vis ++ [x], l, Ml, _) (is := [0, 4, 7, 16, 18, 19, 92, 93, 94, 112]) (I' := (fun (vis : List KE) (l : Value) (Ml : Bks) (w : World) => (∀ x ∈ vis, x ∈ S.es) ∧ (vis.Nodup) ∧ (vis.length + (unseen (vis.map (·.2.2)) S.es).length ≤ S.es.length) ∧ (Bl w0 3 1 l (xs1 ++ gonL fe z.num vis).length (il (xs1 ++ gonL fe z.num vis)) Ml) ∧ (HS w0 w (((b112, ItO m S.ck (vis.map (·.2.2)) S.ck) :: C) ++ Ml))) (vis ++ [x]) (l) (Ml) (_)) rfl rfl rfl ?_ ?_
             ·
              exact ⟨fsub, fnd, flen, fno hgo, by rw [fmap]; exact HS.pop (L := ((b112, ItO m S.ck (vis.map (·.2.2) ++ [x.2.2]) S.ck) :: C) ++ Ml) hs hb21⟩
             ·
              exact flt
           ·
            have hgo : goneB fe z.num x = false := by unfold goneB; rw [decide_eq_false h1]; rfl
            refine W_region ?_
            refine L_fieldAddr rfl (off := 0) Try.underlying98 rfl rfl Try.ti3 rfl ?_
            refine L_load rfl Try.one3 rfl (by first | exact hs.cell (i := 0) rfl rfl | exact HS.cellM hs (List.mem_append_left _ (List.mem_cons_of_mem _ (List.mem_cons_of_mem _ hC18))) rfl) ?_
            refine L_fieldAddr rfl (off := 0) Try.underlying90 rfl rfl Try.ti3 rfl ?_
            refine L_load rfl Try.one3 rfl (by first | exact hs.cell (i := 0) rfl rfl | exact HS.cellM hs (List.mem_append_left _ (List.mem_cons_of_mem _ (List.mem_cons_of_mem _ hC18))) rfl) ?_
            first | refine L_eql rfl rfl rfl (dtrue (by omega)) ?_ | refine L_eql rfl rfl rfl (dfalse (by omega)) ?_ | refine L_eql rfl rfl rfl rfl ?_
            refine L_move rfl rfl ?_
            first | (refine RL_want rfl rfl ?_; refine L_move rfl rfl ?_) | refine RL_skip rfl rfl rfl rfl ?_ | refine RL_skipU rfl rfl rfl ?_
            first | (refine RL_want rfl rfl ?_; (first | refine L_eql rfl rfl rfl (dtrue (by omega)) ?_ | refine L_eql rfl rfl rfl (dfalse (by omega)) ?_ | refine L_eql rfl rfl rfl rfl ?_)) | refine RL_skip rfl rfl rfl rfl ?_ | refine RL_skipU rfl rfl rfl ?_
            first | refine L_pick_t rfl rfl rfl ?_ | refine L_pick_f rfl rfl rfl ?_
            refine L_move rfl rfl ?_
            first | (refine RL_want rfl rfl ?_; refine L_move rfl rfl ?_) | refine RL_skip rfl rfl rfl rfl ?_ | refine RL_skipU rfl rfl rfl ?_
            first | (refine RL_want rfl rfl ?_; refine L_not rfl rfl ?_) | refine RL_skip rfl rfl rfl rfl ?_ | refine RL_skipU rfl rfl rfl ?_
            first | refine L_pick_t rfl rfl rfl ?_ | refine L_pick_f rfl rfl rfl ?_
            refine RL_then ?_
            refine W_if_false rfl ?_
            refine W_skip' ?_
            refine Nx_block ?_
            refine Nx_loopP (vis ++ [x], l, Ml, _) (is := [0, 4, 7, 16, 18, 19, 92, 93, 94, 112]) (I' := (fun (vis : List KE) (l : Value) (Ml : Bks) (w : World) => (∀ x ∈ vis, x ∈ S.es) ∧ (vis.Nodup) ∧ (vis.length + (unseen (vis.map (·.2.2)) S.es).length ≤ S.es.length) ∧ (Bl w0 3 1 l (xs1 ++ gonL fe z.num vis).length (il (xs1 ++ gonL fe z.num vis)) Ml) ∧ (HS w0 w (((b112, ItO m S.ck (vis.map (·.2.2)) S.ck) :: C) ++ Ml))) (vis ++ [x]) (l) (Ml) (_)) rfl rfl rfl ?_ ?_
            ·
             exact ⟨fsub, fnd, flen, fno hgo, by rw [fmap]; exact HS.pop (L := ((b112, ItO m S.ck (vis.map (·.2.2) ++ [x.2.2]) S.ck) :: C) ++ Ml) hs hb21⟩
            ·
             exact flt
        ·
         intro x hx hxs w hs
         replace hs : HS w0 w (((b99, ItO mf fk (vis.map (·.2.2) ++ [x.2.2]) fk) :: C) ++ Ml) := hs
         refine L_extract rfl rfl rfl ?_
         refine RL_then ?_
         refine W_seq ?_
         refine W_if_true rfl ?_
         refine W_skip' ?_
         refine Nx_then ?_
         refine W_block ?_
         refine W_seq ?_
         refine W_region ?_
         refine L_entry rfl hs (List.mem_append_left _ (List.mem_cons_self ..)) (List.mem_append_left _ (List.mem_cons_of_mem _ hCf)) hx hF.born rfl ?_
         refine L_extract rfl rfl rfl ?_
         refine L_assign rfl rfl ?_
         refine RL_then ?_
         refine W_region ?_
         refine L_move rfl rfl ?_
         refine L_move rfl rfl ?_
         refine L_buildSlice1 rfl hs Try.underlying38 Try.ti3 rfl (by decide) rfl rfl ?_
         intro b106 w hb106 hnb106 hs
         simp only [List.map_cons, List.map_nil] at hs
         try dsimp only [List.set_cons_succ, List.set_cons_zero, List.cons_append, List.nil_append] at hs
         have fmap : (vis ++ [x]).map (·.2.2) = vis.map (·.2.2) ++ [x.2.2] := by simp
         have flt : (unseen ((vis ++ [x]).map (·.2.2)) fe).length < (unseen (vis.map (·.2.2)) fe).length := by rw [fmap]; exact unseen_lt hx hxs
         have fsub : ∀ y ∈ vis ++ [x], y ∈ fe := fun y hy => (List.mem_append.1 hy).elim (hsub y) fun h => by rw [List.mem_singleton.1 h]; exact hx
         have fnd : (vis ++ [x]).Nodup := List.nodup_append.2 ⟨hnd, by simp, fun a ha b hb' hab => hxs (by rw [List.mem_singleton.1 hb'] at hab; exact List.mem_map.2 ⟨a, ha, by rw [hab]⟩)⟩
         have flen : (vis ++ [x]).length + (unseen ((vis ++ [x]).map (·.2.2)) fe).length ≤ fe.length := by rw [List.length_append, List.length_singleton]; omega
         replace hs : HS w0 w ((((b99, ItO mf fk (vis.map (·.2.2) ++ [x.2.2]) fk) :: C) ++ Ml) ++ [(b106, Row 3 [.int .i64 x.1])]) := hs
         refine L_appendT (L := (b99, ItO mf fk (vis.map (·.2.2) ++ [x.2.2]) fk) :: C) rfl Try.underlying38 Try.ti3 rfl hs hb106 hb rfl rfl rfl (by simp [Value.oneCell']) (by omega) (by omega) ?_
         intro l2 w M2 hs hb2
         refine L_assign rfl rfl ?_
         refine RL_nil' ?_
         refine Nx_block ?_
         refine Nx_loopP (vis ++ [x], l2, M2, _) (is := [0, 4, 7, 16, 18, 19, 92, 93, 94, 99]) (I' := (fun (vis : List FE) (l : Value) (Ml : Bks) (w : World) => (∀ x ∈ vis, x ∈ fe) ∧ (vis.Nodup) ∧ (vis.length + (unseen (vis.map (·.2.2)) fe).length ≤ fe.length) ∧ (Bl w0 3 1 l vis.length (il (vis.map (·.1))) Ml) ∧ (HS w0 w (((b99, ItO mf fk (vis.map (·.2.2)) fk) :: C) ++ Ml))) (vis ++ [x]) (l2) (M2) (_)) rfl rfl rfl ?_ ?_
         ·
          refine ⟨fsub, fnd, flen, ?_, ?_⟩
          ·
           rw [List.length_append, List.length_singleton, List.map_append, List.map_singleton, ← il_snoc]; exact hb2
          ·
           rw [fmap]; exact hs
         ·
          exact flt
      ·
       obtain rfl : i = zs.length := by omega
       rw [List.take_of_length_le (Nat.le_refl _), hS0] at hS
       have hSw : S = watchF far time zs es ck ts := by rw [hS, hfe]; rfl
       refine W_seq ?_
       refine W_region ?_
       first | refine L_lss rfl rfl rfl (dtrue (by omega)) ?_ | refine L_lss rfl rfl rfl (dfalse (by omega)) ?_ | refine L_lss rfl rfl rfl rfl ?_
       refine RL_then ?_
       refine W_seq ?_
       refine W_if_false rfl ?_
       refine W_exit' ?_
       refine Ex_then_exit ?_
       refine Ex_loop_exit ?_
       refine Ex_block_hit ?_
       refine Nx_then ?_
       refine W_seq ?_
       refine W_region ?_
       refine L_load rfl Try.one47 rfl (by exact hs.cell (i := 0) rfl rfl) ?_
       refine L_assign rfl rfl ?_
       refine RL_then ?_
       refine W_ret' ?_
       refine Ex_done1 rfl rfl ?_
       refine ⟨_, rfl, Mt, ?_, by rw [← hSw]; exact hbt, by rw [← hSw]; exact hKS, by rw [← hSw]; exact Nat.le_trans hSl (Nat.add_le_add_left (Nat.mul_le_mul_left _ (by rw [hfe]; exact firmE_len ts)) _)⟩
       rw [← hSw]
       have hs9 : HS w0 w ((b16, Row 47 [vt]) :: (mf, FO fe fk) :: (b4, Row 23 [.float .f64 time]) :: (((m, KO S.es S.ck) :: A) ++ Mt)) := HS.re hs (fun c => by simp only [List.map_append, List.map_cons, List.map_nil, List.sum_append, List.sum_cons, List.sum_nil]; omega)
       exact HS.pop (HS.pop (HS.pop hs9 hb16) hmf) hb4
    ·
     intro x hx hxs w hs
     have hxe : x ∈ es := (List.mem_filter.1 hx).1
     replace hs : HS w0 w ((b65, ItO m ck (vis.map (·.2.2) ++ [x.2.2]) ck) :: (mf, FO fe fk) :: (b4, Row 23 [.float .f64 time]) :: (m, KO (curE es D) ck) :: A) := hs
     refine L_extract rfl rfl rfl ?_
     refine RL_then ?_
     refine W_seq ?_
     refine W_if_true rfl ?_
     refine W_skip' ?_
     refine Nx_then ?_
     refine W_block ?_
     refine W_seq ?_
     refine W_region ?_
     refine L_entry rfl hs (List.mem_cons_self ..) (List.mem_cons_of_mem _ (List.mem_cons_of_mem _ (List.mem_cons_of_mem _ (List.mem_cons_self ..)))) hx hKc.born rfl ?_
     refine L_extract rfl rfl rfl ?_
     refine L_extract rfl rfl rfl ?_
     refine L_alloc rfl hs Try.ti98 ?_; intro b12 w hb12 _ hs; replace hs := HS.push hs
     refine L_storeA hs (i := 0) rfl Try.ti98 rfl rfl (by first | rfl | exact add_lit0 _ _ | exact Addr.add_lit .. | (rw [add_add]; exact add_lit0 _ _)) (by simp) (by first | (simp; done) | simp [Value.oneCell']) ?_
     intro w hs
     try dsimp only [List.set_cons_succ, List.set_cons_zero, List.cons_append, List.nil_append] at hs
     refine L_assign rfl rfl ?_
     refine RL_then ?_
     refine W_seq ?_
     replace hs : HS w0 w ((b12, Row 98 [.int .i64 x.1.1, .int .i64 x.1.2]) :: (b65, ItO m ck (vis.map (·.2.2) ++ [x.2.2]) ck) :: (mf, FO fe fk) :: (b4, Row 23 [.float .f64 time]) :: (m, KO (curE es D) ck) :: A) := hs
     refine W_region ?_
     refine L_move rfl rfl ?_
     refine L_fieldAddr rfl (off := 1) Try.underlying98 rfl rfl Try.ti3 rfl ?_
     refine L_load rfl Try.one3 rfl (by first | exact hs.cell (i := 0) rfl rfl | exact hs.cell (i := 1) rfl rfl) ?_
     refine L_look2 (k := x.1.2) (ev := tv) (z := zeroTv) rfl K3 Try.underlying95 Try.ti60 (hs.get (i := 2) rfl) rfl rfl ?_; rw [look_tv]
     refine L_move rfl rfl ?_
     refine L_extract rfl rfl rfl ?_
     refine L_extract rfl rfl rfl ?_
     refine L_alloc rfl hs Try.ti60 ?_; intro b14 w hb14 _ hs; replace hs := HS.push hs
     refine L_storeA hs (i := 0) rfl Try.ti60 rfl rfl (by first | rfl | exact add_lit0 _ _ | exact Addr.add_lit .. | (rw [add_add]; exact add_lit0 _ _)) (by simp [Tk.cells]) (by exact Tk.one _) ?_
     intro w hs
     try dsimp only [List.set_cons_succ, List.set_cons_zero, List.cons_append, List.nil_append] at hs
     refine L_assign rfl rfl ?_
     refine RL_then ?_
     refine W_seq ?_
     replace hs : HS w0 w ((b12, Row 98 [.int .i64 x.1.1, .int .i64 x.1.2]) :: (b65, ItO m ck (vis.map (·.2.2) ++ [x.2.2]) ck) :: (mf, FO fe fk) :: (b4, Row 23 [.float .f64 time]) :: (m, KO (curE es D) ck) :: A) := HS.pop hs hb14
     have fmap : (vis ++ [x]).map (·.2.2) = vis.map (·.2.2) ++ [x.2.2] := by simp
     have flt : (unseen ((vis ++ [x]).map (·.2.2)) es).length < (unseen (vis.map (·.2.2)) es).length := by rw [fmap]; exact unseen_lt hxe hxs
     have fsub : ∀ y ∈ vis ++ [x], y ∈ es := fun y hy => (List.mem_append.1 hy).elim (hsub y) fun h => by rw [List.mem_singleton.1 h]; exact hxe
     have fnot : awayB fe x = false → ∀ y ∈ vis ++ [x], awayB fe y = true → y.1 ∈ D := fun hf y hy ha => (List.mem_append.1 hy).elim (fun h => hD1 y h ha) fun h => by rw [List.mem_singleton.1 h, hf] at ha; cases ha
     rcases (Bool.eq_false_or_eq_true (mget x.1.2 fe).isSome).symm with hg | hg
     ·
      have hg' : (mget x.1.2 fe).isNone = true := by cases h : mget x.1.2 fe with
       | none => rfl
       | some y => rw [h] at hg; cases hg
      refine W_set 15 (v' := .bool false) rfl (by rw [hg]; rfl) ?_
      by_cases h1 : x.2.1 = 1
      ·
       have haw : awayB fe x = true := by unfold awayB; rw [hg', decide_eq_true h1]; rfl
       refine W_region ?_
       refine L_move rfl rfl ?_
       refine L_not rfl rfl ?_
       refine L_move rfl rfl ?_
       first | (refine RL_want rfl rfl ?_; refine L_move rfl rfl ?_) | refine RL_skip rfl rfl rfl rfl ?_ | refine RL_skipU rfl rfl rfl ?_
       first | (refine RL_want rfl rfl ?_; (first | refine L_eql rfl rfl rfl (dtrue (by omega)) ?_ | refine L_eql rfl rfl rfl (dfalse (by omega)) ?_ | refine L_eql rfl rfl rfl rfl ?_)) | refine RL_skip rfl rfl rfl rfl ?_ | refine RL_skipU rfl rfl rfl ?_
       first | refine L_pick_t rfl rfl rfl ?_ | refine L_pick_f rfl rfl rfl ?_
       refine RL_then ?_
       refine W_if_true rfl ?_
       refine W_pht [0, 1, 2] [3, 4] [5] (fun _ _ _ => False) Try.mixed (by kernel_rfl) (fun _ _ _ _ _ h => h) hs ?_
       refine PL_val rfl (fun w => R_move rfl) ?_
       refine PL_val rfl (fun w => R_nilCheck rfl) ?_
       refine PL_val rfl (fun w => R_fieldAddr (off := 3) Try.underlying87 rfl rfl Try.ti84 rfl) ?_
       refine PL_end ?_
       refine HL_val rfl (fun w hs => R_load Try.one84 rfl (by exact HS.cellM hs (List.mem_cons_of_mem _ (List.mem_cons_of_mem _ (List.mem_cons_of_mem _ (List.mem_cons_of_mem _ (List.mem_cons_of_mem _ hW.guard))))) rfl)) ?_
       refine HL_val rfl (fun w hs => R_loadA Try.agg98 Try.ti98 rfl (by exact cellsAt2' (hs.get (i := 0) rfl) rfl rfl)) ?_
       refine HL_tail ?_
       intro w hs
       refine L_mdel hs (i := 4) (k := x.1) rfl K98 Try.underlying84 rfl rfl ?_; intro w hs
       refine RL_nil' ?_
       refine Nx_block ?_
       refine Nx_loopP (vis ++ [x], D ++ [x.1], _) (is := [0, 4, 7, 65]) (I' := (fun (vis : List KE) (D : List (Int × Int)) (w : World) => (∀ x ∈ vis, x ∈ es) ∧ (∀ x ∈ vis, awayB fe x = true → x.1 ∈ D) ∧ (∀ k ∈ D, ∃ x ∈ es, x.1 = k ∧ awayB fe x = true) ∧ (HS w0 w ((b65, ItO m ck (vis.map (·.2.2)) ck) :: (mf, FO fe fk) :: (b4, Row 23 [.float .f64 time]) :: (m, KO (curE es D) ck) :: A))) (vis ++ [x]) (D ++ [x.1]) (_)) rfl rfl rfl ?_ ?_
       ·
        refine ⟨fsub, fun y hy ha => ?_, fun k hk => ?_, ?_⟩
        ·
         rcases List.mem_append.1 hy with h | h
         ·
          exact List.mem_append_left _ (hD1 y h ha)
         ·
          rw [List.mem_singleton.1 h]; exact List.mem_append_right _ (List.mem_singleton.2 rfl)
        ·
         rcases List.mem_append.1 hk with h | h
         ·
          exact hD2 k h
         ·
          exact ⟨x, hxe, (List.mem_singleton.1 h).symm, haw⟩
        ·
         rw [fmap, curE_snoc, ← mdel_filter (l := curE es D) x.1 hKc.keys]
         exact HS.pop (L := (b65, ItO m ck (vis.map (·.2.2) ++ [x.2.2]) ck) :: (mf, FO fe fk) :: (b4, Row 23 [.float .f64 time]) :: (m, KO (mdel x.1 (curE es D)) ck) :: A) hs hb12
       ·
        exact flt
      ·
       have haw : awayB fe x = false := by unfold awayB; rw [decide_eq_false h1, Bool.and_false]
       refine W_region ?_
       refine L_move rfl rfl ?_
       refine L_not rfl rfl ?_
       refine L_move rfl rfl ?_
       first | (refine RL_want rfl rfl ?_; refine L_move rfl rfl ?_) | refine RL_skip rfl rfl rfl rfl ?_ | refine RL_skipU rfl rfl rfl ?_
       first | (refine RL_want rfl rfl ?_; (first | refine L_eql rfl rfl rfl (dtrue (by omega)) ?_ | refine L_eql rfl rfl rfl (dfalse (by omega)) ?_ | refine L_eql rfl rfl rfl rfl ?_)) | refine RL_skip rfl rfl rfl rfl ?_ | refine RL_skipU rfl rfl rfl ?_
       first | refine L_pick_t rfl rfl rfl ?_ | refine L_pick_f rfl rfl rfl ?_
       refine RL_then ?_
       refine W_if_false rfl ?_
       refine W_skip' ?_
       refine Nx_block ?_
       refine Nx_loopP (vis ++ [x], D, _) (is := [0, 4, 7, 65]) (I' := (fun (vis : List KE) (D : List (Int × Int)) (w : World) => (∀ x ∈ vis, x ∈ es) ∧ (∀ x ∈ vis, awayB fe x = true → x.1 ∈ D) ∧ (∀ k ∈ D, ∃ x ∈ es, x.1 = k ∧ awayB fe x = true) ∧ (HS w0 w ((b65, ItO m ck (vis.map (·.2.2)) ck) :: (mf, FO fe fk) :: (b4, Row 23 [.float .f64 time]) :: (m, KO (curE es D) ck) :: A))) (vis ++ [x]) (D) (_)) rfl rfl rfl ?_ ?_
       ·
        exact ⟨fsub, fnot haw, hD2, by rw [fmap]; exact HS.pop hs hb12⟩
       ·
        exact flt
     ·
      have haw : awayB fe x = false := by
       unfold awayB
       cases h : mget x.1.2 fe with
       | none => rw [h] at hg; cases hg
       | some y => rfl
      refine W_set 15 (v' := .bool true) rfl (by rw [hg]; rfl) ?_
      refine W_region ?_
      refine L_move rfl rfl ?_
      refine L_not rfl rfl ?_
      refine L_move rfl rfl ?_
      first | (refine RL_want rfl rfl ?_; refine L_move rfl rfl ?_) | refine RL_skip rfl rfl rfl rfl ?_ | refine RL_skipU rfl rfl rfl ?_
      first | (refine RL_want rfl rfl ?_; (first | refine L_eql rfl rfl rfl (dtrue (by omega)) ?_ | refine L_eql rfl rfl rfl (dfalse (by omega)) ?_ | refine L_eql rfl rfl rfl rfl ?_)) | refine RL_skip rfl rfl rfl rfl ?_ | refine RL_skipU rfl rfl rfl ?_
      first | refine L_pick_t rfl rfl rfl ?_ | refine L_pick_f rfl rfl rfl ?_
      refine RL_then ?_
      refine W_if_false rfl ?_
      refine W_skip' ?_
      refine Nx_block ?_
      refine Nx_loopP (vis ++ [x], D, _) (is := [0, 4, 7, 65]) (I' := (fun (vis : List KE) (D : List (Int × Int)) (w : World) => (∀ x ∈ vis, x ∈ es) ∧ (∀ x ∈ vis, awayB fe x = true → x.1 ∈ D) ∧ (∀ k ∈ D, ∃ x ∈ es, x.1 = k ∧ awayB fe x = true) ∧ (HS w0 w ((b65, ItO m ck (vis.map (·.2.2)) ck) :: (mf, FO fe fk) :: (b4, Row 23 [.float .f64 time]) :: (m, KO (curE es D) ck) :: A))) (vis ++ [x]) (D) (_)) rfl rfl rfl ?_ ?_
      ·
       exact ⟨fsub, fnot haw, hD2, by rw [fmap]; exact HS.pop hs hb12⟩
      ·
       exact flt
end Go.Proofs.Ytoiobncojfeoiaa
