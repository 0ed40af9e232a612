/-
  A part of the proof: what functions that the statement reaches do, or a plain law on what they do. Each theorem holds under its own premises alone.
-/
import Derived.Test.YtoiobncojfeoiaaTUX
import Derived.Test.YtoiobncojfeoiaaKitQ
import Derived.Test.YtoiobncojfeoiaaTUP
namespace Go.Proofs.Ytoiobncojfeoiaa
open Go Go.Lk
/-! ### GuardTurns -/
theorem nfX_fv {x : Nat} {v : Int} (h : FV x v) : nfX x = false := by
  obtain ⟨c, hc⟩ : ∃ c, c = 1074 := ⟨_, rfl⟩
  obtain ⟨r, h1, h2⟩ := fv_sub c hc h h (by rw [Int.sub_self]; exact Nat.zero_le _)
  rw [Int.sub_self, rd_zero] at h2
  have h0 : FV 0 0 := ⟨false, 0, by simp [Ieee.Format.word], by decide, by rw [show rv 0 = 0 from rv_zero.2 rfl]; rfl⟩
  unfold nfX eqB
  rw [fop_some' h1, h2.order h0, Int.compare_eq_eq.2 rfl]
  rfl
theorem bad_or {far : Nat} (hf : far < 18446744073709551616) (h : badNew far = true) : geB far 0 = false ∨ leB far 9218868437227405311 = false := by
  unfold badNew at h
  rcases classify hf with ⟨v, hv⟩ | ⟨s, hs⟩ | hn
  · left
    rw [nfX_fv hv, Bool.false_or] at h
    unfold ltB at h
    unfold geB
    rw [eq_of_beq h]; rfl
  · rcases inf_of_read hf hs with rfl | rfl
    · right; kernel_rfl
    · left; kernel_rfl
  · left
    cases hg : geB far 0 with
    | false => rfl
    | true =>
      rw [geB_leB] at hg
      rw [leB_num hg] at hn; cases hn
def numsN (k : Nat) : List Int := (List.range k).map fun j : Nat => (j : Int) + 1
theorem numsN_succ (k : Nat) : numsN (k + 1) = numsN k ++ [(k : Int) + 1] := by unfold numsN; rw [List.range_succ, List.map_append]; rfl
theorem numsN_len (k : Nat) : (numsN k).length = k := by unfold numsN; simp
theorem numsN_nodup (k : Nat) : (numsN k).Nodup := by
  unfold numsN
  refine List.pairwise_map.2 ((List.nodup_range (n := k)).imp fun h e => h ?_)
  omega
theorem numsN_get {k i : Nat} (h : i < k) : (numsN k).getD i 0 = (i : Int) + 1 := by
  unfold numsN
  rw [List.getD_eq_getElem?_getD, List.getElem?_map, List.getElem?_range h]; rfl
theorem zs_get {gz : List Zn} (h : gz.map (·.num) = numsN gz.length) {i : Nat} (hi : i < gz.length) : (gz.getD i zn0).num = (i : Int) + 1 := by
  have h1 : (gz.map (·.num)).getD i 0 = (gz.getD i zn0).num := by
    rw [List.getD_eq_getElem?_getD, List.getElem?_map, List.getD_eq_getElem?_getD, List.getElem?_eq_getElem hi]; rfl
  rw [← h1, h, numsN_get hi]
theorem cr_le {zs : List AZ} {i : Nat} (h : i < zs.length) : (zs.getD i az0).ps.length / 4 ≤ crS zs zs.length := by
  have key : ∀ k, i < k → k ≤ zs.length → (zs.getD i az0).ps.length / 4 ≤ crS zs k := by
    intro k
    induction k with
    | zero => intro h; exact absurd h (Nat.not_lt_zero _)
    | succ k ih =>
      intro h1 h2
      rw [crS_succ (by omega)]
      by_cases hik : i < k
      · have := ih hik (by omega); omega
      · obtain rfl : i = k := by omega
        omega
  exact key _ h (Nat.le_refl _)
theorem tk_mono (ls : List LK) {i k : Nat} (h : i ≤ k) (hk : k ≤ ls.length) : tkS ls i ≤ tkS ls k := by
  induction k with
  | zero => obtain rfl : i = 0 := by omega
            exact Nat.le_refl _
  | succ k ih =>
    by_cases hik : i ≤ k
    · have := ih hik (by omega)
      rw [tkS_succ (by omega)]; omega
    · obtain rfl : i = k + 1 := by omega
      exact Nat.le_refl _
theorem il_app (xs ys : List Int) : il (xs ++ ys) = il xs ++ il ys := by unfold il; exact List.map_append ..
/-- the zones that were taken, beside those that came in -/
structure ZOk (w0 : World) (gz : List Zn) (kz : List AZ) : Prop where
  len : kz.length = gz.length
  nums : gz.map (·.num) = numsN gz.length
  same : ∀ j, j < gz.length → (gz.getD j zn0).ps = (kz.getD j az0).ps
  at' : ∀ j, j < gz.length → SlC w0 (kz.getD j az0).a (pcs (kz.getD j az0).ps)
theorem ZOk.snoc {w0 : World} {gz : List Zn} {kz : List AZ} (h : ZOk w0 gz kz) {z : Zn} {k : AZ} (h1 : z.num = (gz.length : Int) + 1) (h2 : z.ps = k.ps) (h3 : SlC w0 k.a (pcs k.ps)) : ZOk w0 (gz ++ [z]) (kz ++ [k]) := by
  have e1 : ∀ j, j < gz.length → (gz ++ [z]).getD j zn0 = gz.getD j zn0 := fun j hj => by rw [List.getD_eq_getElem?_getD, List.getElem?_append_left hj, ← List.getD_eq_getElem?_getD]
  have e2 : ∀ j, j < gz.length → (kz ++ [k]).getD j az0 = kz.getD j az0 := fun j hj => by rw [List.getD_eq_getElem?_getD, List.getElem?_append_left (by rw [h.len]; exact hj), ← List.getD_eq_getElem?_getD]
  have e3 : (gz ++ [z]).getD gz.length zn0 = z := by simp
  have e4 : (kz ++ [k]).getD gz.length az0 = k := by rw [← h.len]; simp
  refine ⟨by simp [h.len], ?_, fun j hj => ?_, fun j hj => ?_⟩
  · rw [List.map_append, h.nums, List.length_append, List.length_singleton, numsN_succ, List.map_singleton, h1]
  · rw [List.length_append, List.length_singleton] at hj
    by_cases hj2 : j < gz.length
    · rw [e1 j hj2, e2 j hj2]; exact h.same j hj2
    · obtain rfl : j = gz.length := by omega
      rw [e3, e4]; exact h2
  · rw [List.length_append, List.length_singleton] at hj
    by_cases hj2 : j < gz.length
    · rw [e2 j hj2]; exact h.at' j hj2
    · obtain rfl : j = gz.length := by omega
      rw [e4]; exact h3
structure LA where
  v : Value
  M : Bks
  gz : List Zn
  kz : List AZ
  vn : Value
  Mn : Bks
  vk : Value
  Mk : Bks
structure LB where
  v : Value
  M : Bks
  gz : List Zn
  kz : List AZ
  an : Option Addr
  cn : Nat
  Mn : Bks
  ak : Option Addr
  ck : Nat
  Mk : Bks
theorem AZ.one (z : AZ) : ∀ v ∈ z.cells, v.oneCell' = true := by
  intro v hv
  unfold AZ.cells at hv
  simp only [List.mem_cons, List.not_mem_nil, or_false] at hv
  rcases hv with rfl | rfl <;> rfl
theorem LK.one (l : LK) : ∀ v ∈ l.cells, v.oneCell' = true := by
  intro v hv
  unfold LK.cells at hv
  simp only [List.mem_cons, List.not_mem_nil, or_false] at hv
  rcases hv with rfl | rfl <;> rfl
theorem Al.one (l : Al) : ∀ v ∈ l.cells, v.oneCell' = true := by
  intro v hv
  unfold Al.cells at hv
  simp only [List.mem_cons, List.not_mem_nil, or_false] at hv
  rcases hv with rfl | rfl | rfl | rfl <;> rfl
theorem prs_set : ∀ (P : List PP) (q : Nat) (x : PP) (sp : List Value), q < P.length → (prs P ++ sp).take (q * 2) ++ pr x ++ (prs P ++ sp).drop (q * 2 + 2) = prs (P.set q x) ++ sp
  | [], q, x, sp, h => absurd h (Nat.not_lt_zero _)
  | y :: P, 0, x, sp, _ => by
    show ((pr y ++ prs P) ++ sp).take 0 ++ pr x ++ ((pr y ++ prs P) ++ sp).drop 2 = (pr x ++ prs P) ++ sp
    rfl
  | y :: P, q + 1, x, sp, h => by
    have ih := prs_set P q x sp (by simpa using h)
    show ((pr y ++ prs P) ++ sp).take ((q + 1) * 2) ++ pr x ++ ((pr y ++ prs P) ++ sp).drop ((q + 1) * 2 + 2) = (pr y ++ prs (P.set q x)) ++ sp
    rw [List.append_assoc (pr y) (prs P) sp, List.append_assoc (pr y) (prs (P.set q x)) sp, ← ih, show (q + 1) * 2 = q * 2 + 2 by omega, show q * 2 + 2 + 2 = (q * 2 + 2) + 2 by omega]
    rfl
theorem swap_bl {w0 : World} {g cap q : Nat} {P : List PP} {sp : List Value} (hg : w0.heap.size ≤ g) (hc : (prs P ++ sp).length = cap * 2) (hk : P.length ≤ cap) : Bl w0 53 2 (.slice (some ⟨g, 0, none⟩) (P.length - 1) cap) (swapRem P q).length (prs (swapRem P q)) [(g, Row 53 (prs (P.set q (P.getD (P.length - 1) (0, 0))) ++ sp))] := by
  obtain ⟨S, hS⟩ : ∃ S, S = P.set q (P.getD (P.length - 1) (0, 0)) := ⟨_, rfl⟩
  have hl : S.length = P.length := by rw [hS, List.length_set]
  have e : prs S ++ sp = prs (swapRem P q) ++ (prs (S.drop (P.length - 1)) ++ sp) := by
    unfold swapRem
    rw [← hS, ← List.append_assoc, ← prs_app, List.take_append_drop]
  rw [← hS, e, swapRem_len]
  refine Bl.row hg (by rw [prs_len, swapRem_len]) ?_ (by omega)
  rw [← e, List.length_append, prs_len, hl]
  rw [List.length_append, prs_len] at hc
  exact hc
theorem acs_get' {T : List Al} {j : Nat} (h : j < T.length) : T.take (j + 1) = T.take j ++ [T.getD j al0] := by
  rw [List.take_add_one, List.getD_eq_getElem?_getD, List.getElem?_eq_getElem h]; rfl
theorem keys_fresh {T : List Al} (h : (T.map keyA).Nodup) {j : Nat} (hj : j < T.length) : ∀ y ∈ T.take j, keyA y ≠ keyA (T.getD j al0) := by
  intro y hy e
  obtain ⟨q, hq, rfl⟩ := List.getElem_of_mem hy
  rw [List.length_take] at hq
  rw [List.getElem_take] at e
  have h2 : T.getD j al0 = T[j] := by rw [List.getD_eq_getElem?_getD, List.getElem?_eq_getElem hj]; rfl
  rw [h2] at e
  have := nodup_at h (i := q) (j := j) (x := keyA T[j]) (by rw [List.getElem?_map, List.getElem?_eq_getElem (by omega)]; simp [e]) (by rw [List.getElem?_map, List.getElem?_eq_getElem hj]; rfl)
  omega
set_option maxHeartbeats 4000000 in
theorem turns_law (far : Nat) (a b : Option Addr) (c d : Nat) (zs : List AZ) (ls : List LK) (w0 : World) (hfar : far < 18446744073709551616) (hz : SlC w0 a (azs zs)) (hl : SlC w0 b (lks ls)) (hz1 : zs.length ≤ 1000000000000000) (hl1 : ls.length ≤ 1000000000000000)
    (hz2 : ∀ i, i < zs.length → SlC w0 (zs.getD i az0).a (pcs (zs.getD i az0).ps) ∧ (zs.getD i az0).ps.length ≤ 1000000000000000) (hl2 : ∀ i, i < ls.length → SlC w0 (ls.getD i lk0).a (tcs (ls.getD i lk0).ts) ∧ (ls.getD i lk0).ts.length ≤ 1000000000000000) :
    Ret Try.prog 4 [.float .f64 far, .slice a zs.length c, .slice b ls.length d] w0 fun r w' => r = .bool true ∧ HS w0 w' [] := by
  refine Ret.start fun w hs => ?_
  obtain ⟨nz, hnz⟩ : ∃ nz, nz = zs.length := ⟨_, rfl⟩
  obtain ⟨nl, hnl⟩ : ∃ nl, nl = ls.length := ⟨_, rfl⟩
  rw [← hnz, ← hnl]
  refine calls_of_W Try.func4 rfl rfl rfl ?_
  refine W_seq ?_
  refine W_region ?_
  refine L_assign rfl rfl ?_
  refine RL_then ?_
  refine W_seq ?_
  refine W_seq ?_
  refine W_region ?_
  refine L_call rfl Try.fun8 rfl (works_ok w) ?_
  rintro _ w1 ⟨rfl, hs'⟩
  have hs2 := hs.nil hs'
  clear hs hs'
  have hs := hs2
  clear hs2
  refine L_not rfl rfl ?_
  refine L_move rfl rfl ?_
  first | (refine RL_want rfl rfl ?_; refine L_move rfl rfl ?_) | refine RL_skip rfl rfl rfl rfl ?_ | refine RL_skipU rfl rfl rfl ?_
  first | (refine RL_want rfl rfl ?_; refine L_move rfl rfl ?_) | refine RL_skip rfl rfl rfl rfl ?_ | refine RL_skipU rfl rfl rfl ?_
  rw [hnz, hnl]
  refine RL_want rfl rfl ?_
  refine L_call rfl Try.fun12 rfl (great_ok a b c d zs ls w1 (hz.old hs Own.nil) (hl.old hs Own.nil) hz1 hl1 (fun i hi => (hz2 i hi).2) (fun i hi => (hl2 i hi).2)) ?_
  rintro _ w2 ⟨g, rfl, hs', hg⟩
  rw [← hnz, ← hnl]
  have hs2 := hs.nil hs'
  clear hs hs'
  have hs := hs2
  clear hs2
  cases g
  · replace hg := hg rfl
    rw [← hnz, ← hnl] at hg
    first | refine L_pick_t rfl rfl rfl ?_ | refine L_pick_f rfl rfl rfl ?_
    refine RL_then ?_
    refine W_if_false rfl ?_
    refine W_skip' ?_
    refine Nx_then ?_
    refine W_seq ?_
    refine W_region ?_
    refine L_move rfl rfl ?_
    refine L_call rfl Try.fun13 rfl (newG far w2) ?_
    rintro _ w3 (⟨hbad, rfl, hs'⟩ | ⟨_, B, m, rfl, hs', hN⟩)
    · have hs2 := hs.nil hs'
      clear hs hs'
      have hs := hs2
      clear hs2
      refine L_move rfl rfl ?_
      refine L_extract rfl rfl rfl ?_
      refine L_extract rfl rfl rfl ?_
      refine L_assign rfl rfl ?_
      refine L_assign rfl rfl ?_
      refine RL_then ?_
      refine W_seq ?_
      refine W_seq ?_
      refine W_region ?_
      refine L_move rfl rfl ?_
      first | refine L_neq rfl rfl rfl (dtrue (by omega)) ?_ | refine L_neq rfl rfl rfl (dfalse (by omega)) ?_ | refine L_neq rfl rfl rfl rfl ?_
      refine L_move rfl rfl ?_
      first | (refine RL_want rfl rfl ?_; refine L_move rfl rfl ?_) | refine RL_skip rfl rfl rfl rfl ?_ | refine RL_skipU rfl rfl rfl ?_
      first | (refine RL_want rfl rfl ?_; refine L_ptrNil rfl Try.underlying34 rfl rfl ?_) | refine RL_skip rfl rfl rfl rfl ?_ | refine RL_skipU rfl rfl rfl ?_
      first | refine L_pick_t rfl rfl rfl ?_ | refine L_pick_f rfl rfl rfl ?_
      refine RL_then ?_
      refine W_if_true rfl ?_
      rcases bad_or hfar hbad with hb | hb
      · skip
        refine W_seq ?_
        refine W_region ?_
        refine L_move rfl rfl ?_
        refine L_ptrNil rfl Try.underlying34 rfl rfl ?_
        refine L_move rfl rfl ?_
        first | (refine RL_want rfl rfl ?_; refine L_move rfl rfl ?_) | refine RL_skip rfl rfl rfl rfl ?_ | refine RL_skipU rfl rfl rfl ?_
        first | (refine RL_want rfl rfl ?_; refine L_fcmp rfl rfl rfl (fun _ => by rw [binOp_float_cmp_geq, (show (FloatKind.f64.format.order far 0 == some .gt || FloatKind.f64.format.order far 0 == some .eq) = _ from hb)]; rfl) ?_) | refine RL_skip rfl rfl rfl rfl ?_ | refine RL_skipU rfl rfl rfl ?_
        first | (refine RL_want rfl rfl ?_; refine L_move rfl rfl ?_) | refine RL_skip rfl rfl rfl rfl ?_ | refine RL_skipU rfl rfl rfl ?_
        first | (refine RL_want rfl rfl ?_; refine L_move rfl rfl ?_) | refine RL_skip rfl rfl rfl rfl ?_ | refine RL_skipU rfl rfl rfl ?_
        first | (refine RL_want rfl rfl ?_; refine L_fcmp rfl rfl rfl (fun _ => by rw [binOp_float_cmp_leq]; rfl) ?_) | refine RL_skip rfl rfl rfl rfl ?_ | refine RL_skipU rfl rfl rfl ?_
        first | (refine RL_want rfl rfl ?_; (first | refine L_pick_t rfl rfl rfl ?_ | refine L_pick_f rfl rfl rfl ?_)) | refine RL_skip rfl rfl rfl rfl ?_ | refine RL_skipU rfl rfl rfl ?_
        first | (refine RL_want rfl rfl ?_; refine L_not rfl rfl ?_) | refine RL_skip rfl rfl rfl rfl ?_ | refine RL_skipU rfl rfl rfl ?_
        first | refine L_pick_t rfl rfl rfl ?_ | refine L_pick_f rfl rfl rfl ?_
        refine L_assign rfl rfl ?_
        refine RL_then ?_
        refine W_ret' ?_
        refine Ex_then_ret ?_
        refine Ex_done1 rfl rfl ?_
        exact ⟨_, rfl, rfl, hs⟩
      · cases hb1 : geB far 0
        · skip
          refine W_seq ?_
          refine W_region ?_
          refine L_move rfl rfl ?_
          refine L_ptrNil rfl Try.underlying34 rfl rfl ?_
          refine L_move rfl rfl ?_
          first | (refine RL_want rfl rfl ?_; refine L_move rfl rfl ?_) | refine RL_skip rfl rfl rfl rfl ?_ | refine RL_skipU rfl rfl rfl ?_
          first | (refine RL_want rfl rfl ?_; refine L_fcmp rfl rfl rfl (fun _ => by rw [binOp_float_cmp_geq, (show (FloatKind.f64.format.order far 0 == some .gt || FloatKind.f64.format.order far 0 == some .eq) = _ from hb1)]; rfl) ?_) | refine RL_skip rfl rfl rfl rfl ?_ | refine RL_skipU rfl rfl rfl ?_
          first | (refine RL_want rfl rfl ?_; refine L_move rfl rfl ?_) | refine RL_skip rfl rfl rfl rfl ?_ | refine RL_skipU rfl rfl rfl ?_
          first | (refine RL_want rfl rfl ?_; refine L_move rfl rfl ?_) | refine RL_skip rfl rfl rfl rfl ?_ | refine RL_skipU rfl rfl rfl ?_
          first | (refine RL_want rfl rfl ?_; refine L_fcmp rfl rfl rfl (fun _ => by rw [binOp_float_cmp_leq]; rfl) ?_) | refine RL_skip rfl rfl rfl rfl ?_ | refine RL_skipU rfl rfl rfl ?_
          first | (refine RL_want rfl rfl ?_; (first | refine L_pick_t rfl rfl rfl ?_ | refine L_pick_f rfl rfl rfl ?_)) | refine RL_skip rfl rfl rfl rfl ?_ | refine RL_skipU rfl rfl rfl ?_
          first | (refine RL_want rfl rfl ?_; refine L_not rfl rfl ?_) | refine RL_skip rfl rfl rfl rfl ?_ | refine RL_skipU rfl rfl rfl ?_
          first | refine L_pick_t rfl rfl rfl ?_ | refine L_pick_f rfl rfl rfl ?_
          refine L_assign rfl rfl ?_
          refine RL_then ?_
          refine W_ret' ?_
          refine Ex_then_ret ?_
          refine Ex_done1 rfl rfl ?_
          exact ⟨_, rfl, rfl, hs⟩
        · skip
          refine W_seq ?_
          refine W_region ?_
          refine L_move rfl rfl ?_
          refine L_ptrNil rfl Try.underlying34 rfl rfl ?_
          refine L_move rfl rfl ?_
          first | (refine RL_want rfl rfl ?_; refine L_move rfl rfl ?_) | refine RL_skip rfl rfl rfl rfl ?_ | refine RL_skipU rfl rfl rfl ?_
          first | (refine RL_want rfl rfl ?_; refine L_fcmp rfl rfl rfl (fun _ => by rw [binOp_float_cmp_geq, (show (FloatKind.f64.format.order far 0 == some .gt || FloatKind.f64.format.order far 0 == some .eq) = _ from hb1)]; rfl) ?_) | refine RL_skip rfl rfl rfl rfl ?_ | refine RL_skipU rfl rfl rfl ?_
          first | (refine RL_want rfl rfl ?_; refine L_move rfl rfl ?_) | refine RL_skip rfl rfl rfl rfl ?_ | refine RL_skipU rfl rfl rfl ?_
          first | (refine RL_want rfl rfl ?_; refine L_move rfl rfl ?_) | refine RL_skip rfl rfl rfl rfl ?_ | refine RL_skipU rfl rfl rfl ?_
          first | (refine RL_want rfl rfl ?_; refine L_fcmp rfl rfl rfl (fun _ => by rw [binOp_float_cmp_leq, (show (FloatKind.f64.format.order far 9218868437227405311 == some .lt || FloatKind.f64.format.order far 9218868437227405311 == some .eq) = _ from hb)]; rfl) ?_) | refine RL_skip rfl rfl rfl rfl ?_ | refine RL_skipU rfl rfl rfl ?_
          first | (refine RL_want rfl rfl ?_; (first | refine L_pick_t rfl rfl rfl ?_ | refine L_pick_f rfl rfl rfl ?_)) | refine RL_skip rfl rfl rfl rfl ?_ | refine RL_skipU rfl rfl rfl ?_
          first | (refine RL_want rfl rfl ?_; refine L_not rfl rfl ?_) | refine RL_skip rfl rfl rfl rfl ?_ | refine RL_skipU rfl rfl rfl ?_
          first | refine L_pick_t rfl rfl rfl ?_ | refine L_pick_f rfl rfl rfl ?_
          refine L_assign rfl rfl ?_
          refine RL_then ?_
          refine W_ret' ?_
          refine Ex_then_ret ?_
          refine Ex_done1 rfl rfl ?_
          exact ⟨_, rfl, rfl, hs⟩
    · have hNo := hN.owns (far := far) (ever := 0)
      replace hN := hN.mono hs.size
      have hs2 := hs.call hs' hNo
      clear hs hs' hNo
      have hs := hs2
      clear hs2
      refine L_move rfl rfl ?_
      refine L_extract rfl rfl rfl ?_
      refine L_extract rfl rfl rfl ?_
      refine L_assign rfl rfl ?_
      refine L_assign rfl rfl ?_
      refine RL_then ?_
      refine W_seq ?_
      refine W_seq ?_
      refine W_region ?_
      refine L_move rfl rfl ?_
      first | refine L_neq rfl rfl rfl (dtrue (by omega)) ?_ | refine L_neq rfl rfl rfl (dfalse (by omega)) ?_ | refine L_neq rfl rfl rfl rfl ?_
      refine L_move rfl rfl ?_
      first | (refine RL_want rfl rfl ?_; refine L_move rfl rfl ?_) | refine RL_skip rfl rfl rfl rfl ?_ | refine RL_skipU rfl rfl rfl ?_
      first | (refine RL_want rfl rfl ?_; refine L_ptrNil rfl Try.underlying34 rfl rfl ?_) | refine RL_skip rfl rfl rfl rfl ?_ | refine RL_skipU rfl rfl rfl ?_
      first | refine L_pick_t rfl rfl rfl ?_ | refine L_pick_f rfl rfl rfl ?_
      refine RL_then ?_
      refine W_if_false rfl ?_
      refine W_skip' ?_
      refine Nx_then ?_
      refine W_seq ?_
      refine W_region ?_
      refine L_assign rfl rfl ?_
      refine RL_then ?_
      refine W_seq ?_
      refine W_region ?_
      refine L_assign rfl rfl ?_
      refine RL_then ?_
      refine W_seq ?_
      refine W_seq ?_
      refine W_region ?_
      refine L_move rfl rfl ?_
      refine L_len rfl Try.underlying31 rfl ?_
      refine L_move rfl rfl ?_
      refine RL_then ?_
      replace hs : HS w0 w3 (gbs B far (.slice none 0 0) [] 0 m [] 0 [] ++ ([] ++ [])) := by
        show HS w0 w3 (_ ++ [])
        rw [List.append_nil]; exact hs
      refine W_cut2 (fun (A : LB) (w : World) => [(2, .slice b nl d), (7, .pointer (some ⟨B, 0, none⟩)), (9, .slice A.an A.gz.length A.cn), (10, .slice A.ak A.gz.length A.ck)]) (fun (A : LB) (w : World) => w) (fun (A : LB) (w : World) => (ZOk w0 A.gz A.kz) ∧ (Bl w0 3 1 (.slice A.an A.gz.length A.cn) A.gz.length (il (numsN A.gz.length)) A.Mn) ∧ (Bl w0 40 2 (.slice A.ak A.gz.length A.ck) A.gz.length (azs A.kz) A.Mk) ∧ (GOk w0 B A.v A.M m [] 0 A.gz) ∧ (HS w0 w (gbs B far A.v A.M A.gz.length m [] 0 A.gz ++ (A.Mn ++ A.Mk)))) ?_ ?_
      · refine W_block ?_
        refine W_loop3 (fun (i : Nat) (A : LA) (w : World) => [(2, .slice b nl d), (7, .pointer (some ⟨B, 0, none⟩)), (9, A.vn), (10, A.vk), (64, .slice a nz c), (65, .int .i64 nz), (66, .int .i64 i)]) (fun (i : Nat) (A : LA) (w : World) => w) (fun (i : Nat) (A : LA) (w : World) => (i ≤ nz) ∧ (ZOk w0 A.gz A.kz) ∧ (Bl w0 3 1 A.vn A.gz.length (il (numsN A.gz.length)) A.Mn) ∧ (Bl w0 40 2 A.vk A.gz.length (azs A.kz) A.Mk) ∧ (GOk w0 B A.v A.M m [] 0 A.gz) ∧ (HS w0 w (gbs B far A.v A.M A.gz.length m [] 0 A.gz ++ (A.Mn ++ A.Mk)))) (fun (i : Nat) (A : LA) (w : World) => nz - i) (0) (LA.mk (.slice none 0 0) [] [] [] (.slice none 0 0) [] (.slice none 0 0) []) (w3) (is := [2, 7, 9, 10, 64, 65, 66]) rfl rfl ?_ ?_
        · exact ⟨Nat.zero_le _, ⟨rfl, rfl, fun j hj => absurd hj (Nat.not_lt_zero _), fun j hj => absurd hj (Nat.not_lt_zero _)⟩, Bl.nil, Bl.nil, hN, hs⟩
        · clear hs hN
          intro i A w hI
          show W _ _ _ _ [(2, .slice b nl d), (7, .pointer (some ⟨B, 0, none⟩)), (9, A.vn), (10, A.vk), (64, .slice a nz c), (65, .int .i64 nz), (66, .int .i64 i)] w
          obtain ⟨hi, hZ, hbn, hbk, hN, hs⟩ := hI
          by_cases hlt : i < nz
          · refine W_seq ?_
            refine W_region ?_
            first | refine L_lss rfl rfl rfl (dtrue (by omega)) ?_ | refine L_lss rfl rfl rfl (dfalse (by omega)) ?_ | refine L_lss rfl rfl rfl rfl ?_
            refine RL_then ?_
            refine W_seq ?_
            refine W_if_true rfl ?_
            obtain ⟨z, hzd⟩ : ∃ z, z = zs.getD i az0 := ⟨_, rfl⟩
            have hza : SlC w0 z.a (pcs z.ps) := by rw [hzd]; exact (hz2 i (by omega)).1
            have hzl : z.ps.length ≤ 1000000 := by
              have := cr_le (zs := zs) (i := i) (by omega)
              rw [← hzd, ← hnz] at this
              omega
            have hoK : Own w0 (A.Mn ++ A.Mk) := hbn.own.app hbk.own
            have hoS : Own w0 (gbs B far A.v A.M A.gz.length m [] 0 A.gz ++ (A.Mn ++ A.Mk)) := hN.owns.app hoK
            refine W_skip' ?_
            refine Nx_then ?_
            refine W_seq ?_
            refine W_block ?_
            refine W_seq ?_
            refine W_region ?_
            refine L_idxN rfl Try.underlying31 Try.ti40 rfl rfl (by with_reducible first | exact natc_k _ | exact natc_a1 _ | exact natc_0 | exact natc_1 | exact natc_2 | exact natc_s1 _ (by omega) | exact natc_a2 _ | exact natc_add _ _ | exact natc_mul _ _ | exact natc (by omega)) (by omega) (hz.ao (by rw [azs_len]; omega)) ?_
            refine L_loadA rfl Try.agg40 Try.ti40 rfl (by exact (by rw [hzd]; exact azs_at (hz.old hs hoS) (by omega) : CellsAt w ((aD a).add (i * 2)) z.cells)) ?_
            refine L_alloc rfl hs Try.ti40 ?_; intro b12 w hb12 _ hs; replace hs := HS.push hs
            refine L_storeA hs (i := 0) rfl Try.ti40 rfl rfl (by first | rfl | exact add_lit0 _ _ | exact Addr.add_lit .. | (rw [add_add]; exact add_lit0 _ _)) (by simp [AZ.cells]) (by exact AZ.one z) ?_
            intro w hs
            try dsimp only [List.set_cons_succ, List.set_cons_zero, List.cons_append, List.nil_append] at hs
            refine RL_then ?_
            refine W_seq ?_
            replace hs : HS w0 w ((b12, Row 40 z.cells) :: (gbs B far A.v A.M A.gz.length m [] 0 A.gz ++ (A.Mn ++ A.Mk))) := hs
            refine W_region ?_
            refine L_move rfl rfl ?_
            refine L_loadA rfl Try.agg40 Try.ti40 rfl (by exact cellsAt_whole (cs := z.cells) (hs.get (i := 0) rfl)) ?_
            have hs2 : HS w0 w (gbs B far A.v A.M A.gz.length m [] 0 A.gz ++ ((b12, Row 40 z.cells) :: (A.Mn ++ A.Mk))) := HS.re hs (fun c => by simp only [List.map_append, List.map_cons, List.map_nil, List.sum_append, List.sum_cons, List.sum_nil]; omega)
            clear hs
            have hs := hs2
            clear hs2
            refine L_call rfl Try.fun14 rfl (addG w0 w B far A.v A.M A.gz.length m [] 0 A.gz ((b12, Row 40 z.cells) :: (A.Mn ++ A.Mk)) z.name z.a z.ps.length z.c z.ps hs hN (Own.cons hb12 hoK) (fun w' L' hs' ho hL => hza.old hs' ho) rfl hzl (by omega) (by have := hN.len; omega)) ?_
            rintro _ w4 (⟨he, v', M', zv, zM, rfl, hs', hN'⟩ | ⟨he, rfl, hs'⟩)
            · obtain ⟨G', hG'⟩ : ∃ G', G' = gbs B far v' M' ((A.gz.length : Int) + 1) m [] 0 (A.gz ++ [⟨(A.gz.length : Int) + 1, z.name, z.ps, zv, zM⟩]) := ⟨_, rfl⟩
              rw [← hG'] at hs'
              clear hs
              have hs := hs'
              clear hs'
              have hlen := hN.len
              refine L_move rfl rfl ?_
              refine L_extract rfl rfl rfl ?_
              refine L_extract rfl rfl rfl ?_
              refine L_assign rfl rfl ?_
              refine L_assign rfl rfl ?_
              refine RL_then ?_
              refine W_seq ?_
              refine W_region ?_
              refine L_move rfl rfl ?_
              first | refine L_eql rfl rfl rfl (dtrue (by omega)) ?_ | refine L_eql rfl rfl rfl (dfalse (by omega)) ?_ | refine L_eql rfl rfl rfl rfl ?_
              refine RL_then ?_
              refine W_if_true rfl ?_
              refine W_seq ?_
              refine W_region ?_
              refine L_move rfl rfl ?_
              refine L_move rfl rfl ?_
              refine L_buildSlice1 rfl hs Try.underlying38 Try.ti3 rfl (by decide) rfl rfl ?_
              intro b80 w hb80 hnb80 hs
              simp only [List.map_cons, List.map_nil] at hs
              try dsimp only [List.set_cons_succ, List.set_cons_zero, List.cons_append, List.nil_append] at hs
              have h0 : HS w0 w ((G' ++ ((b12, Row 40 z.cells) :: (A.Mn ++ A.Mk))) ++ [(b80, Row 3 [.int .i64 ((A.gz.length : Int) + 1)])]) := hs
              clear hs
              have hs : HS w0 w (((G' ++ ((b12, Row 40 z.cells) :: A.Mk)) ++ A.Mn) ++ [(b80, Row 3 [.int .i64 ((A.gz.length : Int) + 1)])]) := HS.re h0 (fun c => by simp only [List.map_append, List.map_cons, List.map_nil, List.sum_append, List.sum_cons, List.sum_nil]; omega)
              clear h0
              refine L_appendT (L := G' ++ ((b12, Row 40 z.cells) :: A.Mk)) (M := A.Mn) rfl Try.underlying38 Try.ti3 rfl hs hb80 hbn rfl rfl rfl (by simp [Value.oneCell']) (by omega) (by omega) ?_
              intro vn' w Mn' hs hbn'
              refine L_assign rfl rfl ?_
              refine RL_then ?_
              refine W_region ?_
              refine L_move rfl rfl ?_
              refine L_loadA rfl Try.agg40 Try.ti40 rfl (by exact cellsAt_whole (cs := z.cells) (hs.has _ (List.mem_append_left _ (List.mem_append_right _ (List.mem_cons_self ..))))) ?_
              refine L_buildSlice rfl hs Try.underlying31 Try.ti40 rfl (by decide) rfl (by simp [Value.cells, AZ.cells]) ?_
              intro b84 w hb84 hnb84 hs
              skip
              have h0 : HS w0 w (((G' ++ ((b12, Row 40 z.cells) :: A.Mk)) ++ Mn') ++ [(b84, Row 40 z.cells)]) := hs
              clear hs
              have hs : HS w0 w (((G' ++ ((b12, Row 40 z.cells) :: Mn')) ++ A.Mk) ++ [(b84, Row 40 z.cells)]) := HS.re h0 (fun c => by simp only [List.map_append, List.map_cons, List.map_nil, List.sum_append, List.sum_cons, List.sum_nil]; omega)
              clear h0
              refine L_appendT (L := G' ++ ((b12, Row 40 z.cells) :: Mn')) (M := A.Mk) rfl Try.underlying31 Try.ti40 rfl hs hb84 hbk rfl rfl rfl (AZ.one z) (by omega) (by omega) ?_
              intro vk' w Mk' hs hbk'
              refine L_assign rfl rfl ?_
              refine RL_nil' ?_
              refine Nx_block ?_
              refine Nx_then ?_
              refine W_region ?_
              first | refine L_add rfl rfl rfl (wrp_i64 (by omega)) ?_ | refine L_add rfl rfl rfl rfl ?_
              refine L_move rfl rfl ?_
              refine RL_nil' ?_
              have hfin : HS w0 w (G' ++ (Mn' ++ Mk')) := HS.dropR (M := [(b12, Row 40 z.cells)]) (HS.re hs (fun c => by simp only [List.map_append, List.map_cons, List.map_nil, List.sum_append, List.sum_cons, List.sum_nil]; omega)) (Own.cons hb12 Own.nil)
              rw [hG'] at hfin
              refine Nx_loopP (i + 1, LA.mk v' M' (A.gz ++ [⟨(A.gz.length : Int) + 1, z.name, z.ps, zv, zM⟩]) (A.kz ++ [z]) vn' Mn' vk' Mk', w) (is := [2, 7, 9, 10, 64, 65, 66]) (I' := (fun (i : Nat) (A : LA) (w : World) => (i ≤ nz) ∧ (ZOk w0 A.gz A.kz) ∧ (Bl w0 3 1 A.vn A.gz.length (il (numsN A.gz.length)) A.Mn) ∧ (Bl w0 40 2 A.vk A.gz.length (azs A.kz) A.Mk) ∧ (GOk w0 B A.v A.M m [] 0 A.gz) ∧ (HS w0 w (gbs B far A.v A.M A.gz.length m [] 0 A.gz ++ (A.Mn ++ A.Mk)))) (i + 1) (LA.mk v' M' (A.gz ++ [⟨(A.gz.length : Int) + 1, z.name, z.ps, zv, zM⟩]) (A.kz ++ [z]) vn' Mn' vk' Mk') (w)) rfl rfl rfl ?_ ?_
              · have hl1 : (A.gz ++ [(⟨(A.gz.length : Int) + 1, z.name, z.ps, zv, zM⟩ : Zn)]).length = A.gz.length + 1 := by simp
                refine ⟨by omega, hZ.snoc rfl rfl hza, ?_, ?_, hN', ?_⟩
                · show Bl w0 3 1 vn' _ _ Mn'
                  rw [hl1, numsN_succ, il_app]
                  exact hbn'
                · show Bl w0 40 2 vk' _ _ Mk'
                  rw [hl1, azs_app]
                  rw [show azs [z] = z.cells by simp [azs]]
                  exact hbk'
                · show HS w0 w (gbs B far v' M' ((A.gz ++ [(⟨(A.gz.length : Int) + 1, z.name, z.ps, zv, zM⟩ : Zn)]).length : Nat) m [] 0 _ ++ (Mn' ++ Mk'))
                  rw [hl1]
                  exact hfin
              · omega
            · clear hs
              have hs := hs'
              clear hs'
              obtain ⟨er, her⟩ : ∃ er, addE A.gz z.name z.ps = er := ⟨_, rfl⟩
              rw [her] at he ⊢
              refine L_move rfl rfl ?_
              refine L_extract rfl rfl rfl ?_
              refine L_extract rfl rfl rfl ?_
              refine L_assign rfl rfl ?_
              refine L_assign rfl rfl ?_
              refine RL_then ?_
              refine W_seq ?_
              refine W_region ?_
              refine L_move rfl rfl ?_
              first | refine L_eql rfl rfl rfl (dtrue (by omega)) ?_ | refine L_eql rfl rfl rfl (dfalse (by omega)) ?_ | refine L_eql rfl rfl rfl rfl ?_
              refine RL_then ?_
              refine W_if_false rfl ?_
              refine W_skip' ?_
              refine Nx_block ?_
              refine Nx_then ?_
              refine W_region ?_
              first | refine L_add rfl rfl rfl (wrp_i64 (by omega)) ?_ | refine L_add rfl rfl rfl rfl ?_
              refine L_move rfl rfl ?_
              refine RL_nil' ?_
              have hfin : HS w0 w4 (gbs B far A.v A.M A.gz.length m [] 0 A.gz ++ (A.Mn ++ A.Mk)) := HS.dropR (M := [(b12, Row 40 z.cells)]) (HS.re hs (fun c => by simp only [List.map_append, List.map_cons, List.map_nil, List.sum_append, List.sum_cons, List.sum_nil]; omega)) (Own.cons hb12 Own.nil)
              refine Nx_loopP (i + 1, A, w4) (is := [2, 7, 9, 10, 64, 65, 66]) (I' := (fun (i : Nat) (A : LA) (w : World) => (i ≤ nz) ∧ (ZOk w0 A.gz A.kz) ∧ (Bl w0 3 1 A.vn A.gz.length (il (numsN A.gz.length)) A.Mn) ∧ (Bl w0 40 2 A.vk A.gz.length (azs A.kz) A.Mk) ∧ (GOk w0 B A.v A.M m [] 0 A.gz) ∧ (HS w0 w (gbs B far A.v A.M A.gz.length m [] 0 A.gz ++ (A.Mn ++ A.Mk)))) (i + 1) (A) (w4)) rfl rfl rfl ?_ ?_
              · exact ⟨by omega, hZ, hbn, hbk, hN, hfin⟩
              · omega
          · obtain ⟨an, cn, hvn, _⟩ := hbn.slice
            obtain ⟨ak, ck, hvk, _⟩ := hbk.slice
            rw [hvn] at hbn
            rw [hvk] at hbk
            rw [hvn, hvk]
            refine W_seq ?_
            refine W_region ?_
            first | refine L_lss rfl rfl rfl (dtrue (by omega)) ?_ | refine L_lss rfl rfl rfl (dfalse (by omega)) ?_ | refine L_lss rfl rfl rfl rfl ?_
            refine RL_then ?_
            refine W_seq ?_
            refine W_if_false rfl ?_
            refine W_exit' ?_
            refine Ex_then_exit ?_
            refine Ex_loop_exit ?_
            refine Ex_block_hit ?_
            refine Nx_cutP (LB.mk A.v A.M A.gz A.kz an cn A.Mn ak ck A.Mk, w) (is := [2, 7, 9, 10]) (I' := (fun (A : LB) (w : World) => (ZOk w0 A.gz A.kz) ∧ (Bl w0 3 1 (.slice A.an A.gz.length A.cn) A.gz.length (il (numsN A.gz.length)) A.Mn) ∧ (Bl w0 40 2 (.slice A.ak A.gz.length A.ck) A.gz.length (azs A.kz) A.Mk) ∧ (GOk w0 B A.v A.M m [] 0 A.gz) ∧ (HS w0 w (gbs B far A.v A.M A.gz.length m [] 0 A.gz ++ (A.Mn ++ A.Mk)))) (LB.mk A.v A.M A.gz A.kz an cn A.Mn ak ck A.Mk) (w)) rfl rfl rfl ?_
            exact ⟨hZ, hbn, hbk, hN, hs⟩
      · clear hs hN
        intro A w hI
        show W _ _ _ _ [(2, .slice b nl d), (7, .pointer (some ⟨B, 0, none⟩)), (9, .slice A.an A.gz.length A.cn), (10, .slice A.ak A.gz.length A.ck)] w
        obtain ⟨hZ, hbn, hbk, hN, hs⟩ := hI
        have hKo : Own w0 (A.Mn ++ A.Mk) := hbn.own.app hbk.own
        have hnums : (A.gz.map (·.num)).Nodup := by rw [hZ.nums]; exact numsN_nodup _
        have hgl := hN.len
        replace hs : HS w0 w (gbs B far A.v A.M A.gz.length m [] 0 A.gz ++ ((A.Mn ++ A.Mk) ++ [])) := by rw [List.append_nil]; exact hs
        refine W_seq ?_
        refine W_region ?_
        refine L_assign rfl rfl ?_
        refine RL_then ?_
        refine W_seq ?_
        refine W_seq ?_
        refine W_region ?_
        refine L_move rfl rfl ?_
        refine L_len rfl Try.underlying32 rfl ?_
        refine L_move rfl rfl ?_
        refine RL_then ?_
        refine W_block ?_
        refine W_loop7 (fun (i : Nat) (es : List KE) (ck : Nat) (P : List PP) (vP : Value) (Mp : Bks) (w : World) => [(7, .pointer (some ⟨B, 0, none⟩)), (9, .slice A.an A.gz.length A.cn), (10, .slice A.ak A.gz.length A.ck), (15, vP), (87, .slice b nl d), (88, .int .i64 nl), (89, .int .i64 i)]) (fun (i : Nat) (es : List KE) (ck : Nat) (P : List PP) (vP : Value) (Mp : Bks) (w : World) => w) (fun (i : Nat) (es : List KE) (ck : Nat) (P : List PP) (vP : Value) (Mp : Bks) (w : World) => (i ≤ nl) ∧ (VOk es) ∧ (∀ x ∈ es, ∃ z ∈ A.gz, z.num = x.1.1) ∧ (es.length ≤ 192 * tkS ls i) ∧ (P.Nodup) ∧ (∀ p, p ∈ P ↔ val es p = 2) ∧ (P.length ≤ i * 100000000) ∧ (Bl w0 53 2 vP P.length (prs P) Mp) ∧ (GOk w0 B A.v A.M m es ck A.gz) ∧ (HS w0 w (gbs B far A.v A.M A.gz.length m es ck A.gz ++ ((A.Mn ++ A.Mk) ++ Mp)))) (fun (i : Nat) (es : List KE) (ck : Nat) (P : List PP) (vP : Value) (Mp : Bks) (w : World) => nl - i) (0) ([]) (0) ([]) (.slice none 0 0) ([]) (w) (is := [7, 9, 10, 15, 87, 88, 89]) rfl rfl ?_ ?_
        · exact ⟨Nat.zero_le _, fun x hx => (by cases hx), fun x hx => (by cases hx), Nat.zero_le _, List.nodup_nil, fun p => by simp [val, mget], Nat.zero_le _, Bl.nil, hN, hs⟩
        · clear hs hN
          intro i es ck P vP Mp w hI
          show W _ _ _ _ [(7, .pointer (some ⟨B, 0, none⟩)), (9, .slice A.an A.gz.length A.cn), (10, .slice A.ak A.gz.length A.ck), (15, vP), (87, .slice b nl d), (88, .int .i64 nl), (89, .int .i64 i)] w
          obtain ⟨hi, hV, hZk, hel, hP, hPm, hPl, hbP, hN, hs⟩ := hI
          by_cases hlt : i < nl
          · refine W_seq ?_
            refine W_region ?_
            first | refine L_lss rfl rfl rfl (dtrue (by omega)) ?_ | refine L_lss rfl rfl rfl (dfalse (by omega)) ?_ | refine L_lss rfl rfl rfl rfl ?_
            refine RL_then ?_
            refine W_seq ?_
            refine W_if_true rfl ?_
            obtain ⟨l, hld⟩ : ∃ l, l = ls.getD i lk0 := ⟨_, rfl⟩
            have hla : SlC w0 l.a (tcs l.ts) := by rw [hld]; exact (hl2 i (by omega)).1
            have htk : tkS ls (i + 1) = tkS ls i + l.ts.length := by rw [tkS_succ (by omega), hld]
            have htm := tk_mono ls (i := i + 1) (k := nl) (by omega) (by omega)
            have hoS : Own w0 (gbs B far A.v A.M A.gz.length m es ck A.gz ++ ((A.Mn ++ A.Mk) ++ Mp)) := hN.owns.app (hKo.app hbP.own)
            refine W_skip' ?_
            refine Nx_then ?_
            refine W_seq ?_
            refine W_block ?_
            refine W_seq ?_
            refine W_region ?_
            refine L_idxN rfl Try.underlying32 Try.ti46 rfl rfl (by with_reducible first | exact natc_k _ | exact natc_a1 _ | exact natc_0 | exact natc_1 | exact natc_2 | exact natc_s1 _ (by omega) | exact natc_a2 _ | exact natc_add _ _ | exact natc_mul _ _ | exact natc (by omega)) (by omega) (hl.ao (by rw [lks_len]; omega)) ?_
            refine L_loadA rfl Try.agg46 Try.ti46 rfl (by exact (by rw [hld]; exact lks_at (hl.old hs hoS) (by omega) : CellsAt w ((aD b).add (i * 2)) l.cells)) ?_
            refine L_alloc rfl hs Try.ti46 ?_; intro b17 w hb17 _ hs; replace hs := HS.push hs
            refine L_storeA hs (i := 0) rfl Try.ti46 rfl rfl (by first | rfl | exact add_lit0 _ _ | exact Addr.add_lit .. | (rw [add_add]; exact add_lit0 _ _)) (by simp [LK.cells]) (by exact LK.one l) ?_
            intro w hs
            try dsimp only [List.set_cons_succ, List.set_cons_zero, List.cons_append, List.nil_append] at hs
            refine RL_then ?_
            refine W_seq ?_
            replace hs : HS w0 w ((b17, Row 46 l.cells) :: (gbs B far A.v A.M A.gz.length m es ck A.gz ++ ((A.Mn ++ A.Mk) ++ Mp))) := hs
            have hs2 : HS w0 w (gbs B far A.v A.M A.gz.length m es ck A.gz ++ ((b17, Row 46 l.cells) :: ((A.Mn ++ A.Mk) ++ Mp))) := HS.re hs (fun c => by simp only [List.map_append, List.map_cons, List.map_nil, List.sum_append, List.sum_cons, List.sum_nil]; omega)
            clear hs
            have hs := hs2
            clear hs2
            have hoR : Own w0 ((b17, Row 46 l.cells) :: ((A.Mn ++ A.Mk) ++ Mp)) := Own.cons hb17 (hKo.app hbP.own)
            refine W_region ?_
            refine L_assign rfl rfl ?_
            refine RL_then ?_
            refine W_seq ?_
            refine W_seq ?_
            refine W_region ?_
            refine L_move rfl rfl ?_
            refine L_fieldAddr rfl (off := 0) Try.underlying46 rfl rfl Try.ti23 rfl ?_
            refine L_load rfl Try.one23 rfl (by exact HS.cellM hs (List.mem_append_right _ (List.mem_cons_self ..)) rfl) ?_
            refine L_fieldAddr rfl (off := 1) Try.underlying46 rfl rfl Try.ti44 rfl ?_
            refine L_load rfl Try.one44 rfl (by exact HS.cellM hs (List.mem_append_right _ (List.mem_cons_self ..)) rfl) ?_
            refine L_call rfl Try.fun15 rfl (watchG w0 w B far A.v A.M ((b17, Row 46 l.cells) :: ((A.Mn ++ A.Mk) ++ Mp)) A.gz.length m es ck A.gz l.time l.a l.ts.length l.c l.ts hs hN hoR (fun w' L' hs' ho hL => hla.old hs' ho) (by omega) rfl (by omega)) ?_
            rintro _ w1 ⟨N1, hs1, hn1, hN1, hel1⟩
            obtain ⟨a1, c1, rfl, _⟩ := hn1.slice
            have hT1 := told_ok (far := far) (time := l.time) (ts := l.ts) hnums hN.map hV hZk
            have htl1 := told_len (far := far) (time := l.time) (ts := l.ts) hnums hN.map hV hZk
            have hv1 := watch_val (far := far) (time := l.time) (ts := l.ts) hnums hN.map hV hZk
            obtain ⟨_, _, _, hV1, hZ1⟩ := watch_closed far l.time A.gz es ck l.ts hnums hN.map hV hZk
            obtain ⟨W1, hW1⟩ : ∃ W1, W1 = watchF far l.time A.gz es ck l.ts := ⟨_, rfl⟩
            obtain ⟨nn, hnn⟩ : ∃ nn, nn = nowZ far (firmE l.ts).1 A.gz := ⟨_, rfl⟩
            rw [← hW1] at hs1 hn1 hN1 hel1 hT1 htl1 hv1 hV1 hZ1
            rw [← hW1]
            rw [← hnn] at hT1 hv1
            have htl1' : W1.told.length ≤ 100000000 := Nat.le_trans htl1 (Nat.le_trans (Nat.mul_le_mul_right _ hgl) (by omega))
            clear hs
            have hs : HS w0 w1 ((gbs B far A.v A.M A.gz.length m W1.es W1.ck A.gz ++ ((A.Mn ++ A.Mk) ++ ((b17, Row 46 l.cells) :: N1))) ++ (Mp ++ [])) := by
              rw [List.append_nil]
              exact HS.re hs1 (fun c => by simp only [List.map_append, List.map_cons, List.map_nil, List.sum_append, List.sum_cons, List.sum_nil]; omega)
            clear hs1
            obtain ⟨XX, hXX⟩ : ∃ XX, XX = gbs B far A.v A.M A.gz.length m W1.es W1.ck A.gz ++ ((A.Mn ++ A.Mk) ++ ((b17, Row 46 l.cells) :: N1)) := ⟨_, rfl⟩
            have hXo : Own w0 XX := by rw [hXX]; exact hN1.owns.app (hKo.app (Own.cons hb17 hn1.own))
            have hXb : (b17, Row 46 l.cells) ∈ XX := by rw [hXX]; exact List.mem_append_right _ (List.mem_append_right _ (List.mem_cons_self ..))
            have hXN : ∀ p ∈ N1, p ∈ XX := fun p hp => by rw [hXX]; exact List.mem_append_right _ (List.mem_append_right _ (List.mem_cons_of_mem _ hp))
            rw [← hXX] at hs
            obtain ⟨T, hTd⟩ : ∃ T, T = W1.told := ⟨_, rfl⟩
            obtain ⟨nT, hnT⟩ : ∃ nT, nT = T.length := ⟨_, rfl⟩
            rw [← hTd] at hn1 hT1 htl1'
            rw [← hTd, ← hnT]
            rw [← hnT] at hn1 htl1'
            refine L_len rfl Try.underlying47 rfl ?_
            refine L_move rfl rfl ?_
            refine RL_then ?_
            refine W_block ?_
            refine W_loop7 (fun (j : Nat) (P' : List PP) (vP' : Value) (Mp' : Bks) (vL : Value) (ML : Bks) (w : World) => [(7, .pointer (some ⟨B, 0, none⟩)), (9, .slice A.an A.gz.length A.cn), (10, .slice A.ak A.gz.length A.ck), (15, vP'), (17, .pointer (some ⟨b17, 0, none⟩)), (18, vL), (87, .slice b nl d), (88, .int .i64 nl), (89, .int .i64 i), (98, .slice a1 nT c1), (99, .int .i64 nT), (100, .int .i64 j)]) (fun (j : Nat) (P' : List PP) (vP' : Value) (Mp' : Bks) (vL : Value) (ML : Bks) (w : World) => w) (fun (j : Nat) (P' : List PP) (vP' : Value) (Mp' : Bks) (vL : Value) (ML : Bks) (w : World) => (j ≤ nT) ∧ (P'.Nodup) ∧ (∀ p, p ∈ P' ↔ inS (T.take j) (val es) p) ∧ (P'.length ≤ P.length + j) ∧ (Bl w0 53 2 vP' P'.length (prs P') Mp') ∧ (Bl w0 53 2 vL (leftL (T.take j)).length (prs (leftL (T.take j))) ML) ∧ (HS w0 w (XX ++ (Mp' ++ ML)))) (fun (j : Nat) (P' : List PP) (vP' : Value) (Mp' : Bks) (vL : Value) (ML : Bks) (w : World) => nT - j) (0) (P) (vP) (Mp) (.slice none 0 0) ([]) (w1) (is := [7, 9, 10, 15, 17, 18, 87, 88, 89, 98, 99, 100]) rfl rfl ?_ ?_
            · exact ⟨Nat.zero_le _, hP, fun p => by rw [List.take_zero, inS_nil]; exact hPm p, Nat.le_refl _, hbP, Bl.nil, hs⟩
            · clear hs
              intro j P' vP' Mp' vL ML w hI
              show W _ _ _ _ [(7, .pointer (some ⟨B, 0, none⟩)), (9, .slice A.an A.gz.length A.cn), (10, .slice A.ak A.gz.length A.ck), (15, vP'), (17, .pointer (some ⟨b17, 0, none⟩)), (18, vL), (87, .slice b nl d), (88, .int .i64 nl), (89, .int .i64 i), (98, .slice a1 nT c1), (99, .int .i64 nT), (100, .int .i64 j)] w
              obtain ⟨hj, hP', hPm', hPl', hbP', hbL, hs⟩ := hI
              have hoX : Own w0 (XX ++ (Mp' ++ ML)) := hXo.app (hbP'.own.app hbL.own)
              by_cases hjt : j < nT
              · refine W_seq ?_
                refine W_region ?_
                first | refine L_lss rfl rfl rfl (dtrue (by omega)) ?_ | refine L_lss rfl rfl rfl (dfalse (by omega)) ?_ | refine L_lss rfl rfl rfl rfl ?_
                refine RL_then ?_
                refine W_seq ?_
                refine W_if_true rfl ?_
                obtain ⟨aP, cP, rfl, _⟩ := hbP'.slice
                obtain ⟨x, hxd⟩ : ∃ x, x = T.getD j al0 := ⟨_, rfl⟩
                have hxT : x ∈ T := by rw [hxd]; exact getD_mem (by omega)
                have htake : T.take (j + 1) = T.take j ++ [x] := by rw [acs_get' (by omega), ← hxd]
                have hfr : ∀ y ∈ T.take j, keyA y ≠ keyA x := by rw [hxd]; exact keys_fresh hT1.keys (by omega)
                have hN1c : SlC w a1 (acs T) := hn1.slm hs (fun p hp => List.mem_append_left _ (hXN p hp))
                refine W_skip' ?_
                refine Nx_then ?_
                refine W_seq ?_
                refine W_block ?_
                refine W_seq ?_
                refine W_region ?_
                refine L_idxN rfl Try.underlying47 Try.ti51 rfl rfl (by with_reducible first | exact natc_k _ | exact natc_a1 _ | exact natc_0 | exact natc_1 | exact natc_2 | exact natc_s1 _ (by omega) | exact natc_a2 _ | exact natc_add _ _ | exact natc_mul _ _ | exact natc (by omega)) (by omega) (hN1c.ao (by rw [acs_len]; omega)) ?_
                refine L_loadA rfl Try.agg51 Try.ti51 rfl (by exact (by rw [hxd]; exact al_at hN1c (by omega) : CellsAt w ((aD a1).add (j * 4)) x.cells)) ?_
                refine L_alloc rfl hs Try.ti51 ?_; intro b20 w hb20 _ hs; replace hs := HS.push hs
                refine L_storeA hs (i := 0) rfl Try.ti51 rfl rfl (by first | rfl | exact add_lit0 _ _ | exact Addr.add_lit .. | (rw [add_add]; exact add_lit0 _ _)) (by simp [Al.cells]) (by exact Al.one x) ?_
                intro w hs
                try dsimp only [List.set_cons_succ, List.set_cons_zero, List.cons_append, List.nil_append] at hs
                refine RL_then ?_
                refine W_seq ?_
                replace hs : HS w0 w ((b20, Row 51 x.cells) :: (XX ++ (Mp' ++ ML))) := hs
                refine W_region ?_
                refine L_fieldAddr rfl (off := 1) Try.underlying51 rfl rfl Try.ti3 rfl ?_
                refine L_load rfl Try.one3 rfl (by exact hs.cell (i := 0) rfl rfl) ?_
                refine L_fieldAddr rfl (off := 2) Try.underlying51 rfl rfl Try.ti3 rfl ?_
                refine L_load rfl Try.one3 rfl (by exact hs.cell (i := 0) rfl rfl) ?_
                refine L_build rfl rfl (Pl.built Try.pl53 rfl) ?_
                refine L_alloc rfl hs Try.ti53 ?_; intro b21 w hb21 _ hs; replace hs := HS.push hs
                refine L_storeA hs (i := 0) rfl Try.ti53 rfl rfl (by first | rfl | exact add_lit0 _ _ | exact Addr.add_lit .. | (rw [add_add]; exact add_lit0 _ _)) (by simp [Al.cells]) (by first | (simp; done) | simp [Value.oneCell']) ?_
                intro w hs
                try dsimp only [List.set_cons_succ, List.set_cons_zero, List.cons_append, List.nil_append] at hs
                refine RL_then ?_
                refine W_seq ?_
                replace hs : HS w0 w ((b21, Row 53 (pr (keyA x))) :: (b20, Row 51 x.cells) :: (XX ++ (Mp' ++ ML))) := hs
                have hoB : Own w0 ((b21, Row 53 (pr (keyA x))) :: (b20, Row 51 x.cells) :: (XX ++ (Mp' ++ ML))) := Own.cons hb21 (Own.cons hb20 hoX)
                refine W_region ?_
                refine L_move rfl rfl ?_
                refine L_loadA rfl Try.agg53 Try.ti53 rfl (by exact cellsAt2' (hs.get (i := 0) rfl) rfl rfl) ?_
                refine L_call rfl Try.fun16 rfl (held_ok aP P'.length cP P' (keyA x) w (hbP'.slm hs (fun p hp => List.mem_cons_of_mem _ (List.mem_cons_of_mem _ (List.mem_append_right _ (List.mem_append_left _ hp))))) rfl (by omega)) ?_
                rintro _ w2 ⟨j0, rfl, hs', hF⟩
                have hs2 := hs.nil hs'
                clear hs hs'
                have hs := hs2
                clear hs2
                have hpk : keyA x ∈ P' ↔ val es (keyA x) = 2 := (hPm' _).trans (inS_fresh hfr)
                have hkx := hT1.kind x hxT
                rcases kind_some hkx with ⟨hk0, hv0, hn0⟩ | ⟨hk0, hv0, hn0⟩ | ⟨hk0, hv0, hn0⟩
                · have hnotP : keyA x ∉ P' := fun h => hv0 (hpk.1 h)
                  have hj0 : j0 = -1 := by
                    rcases hF with ⟨q, hq, _, hpq, _⟩ | ⟨h, _⟩
                    · exact absurd (by rw [← hpq]; exact getD_mem hq) hnotP
                    · exact h
                  subst hj0
                  refine L_assign rfl rfl ?_
                  refine RL_then ?_
                  refine W_seq ?_
                  refine W_region ?_
                  refine L_fieldAddr rfl (off := 0) Try.underlying51 rfl rfl Try.ti49 rfl ?_
                  refine L_load rfl Try.one49 rfl (by exact hs.cell (i := 1) rfl rfl) ?_
                  refine RL_then ?_
                  refine W_block ?_
                  refine W_seq ?_
                  refine W_region ?_
                  first | refine L_eql rfl rfl rfl (dtrue (by omega)) ?_ | refine L_eql rfl rfl rfl (dfalse (by omega)) ?_ | refine L_eql rfl rfl rfl rfl ?_
                  refine L_assign rfl rfl ?_
                  refine RL_then ?_
                  refine W_if_true rfl ?_
                  refine W_seq ?_
                  refine W_seq ?_
                  refine W_region ?_
                  refine L_move rfl rfl ?_
                  first | refine L_geq rfl rfl rfl (dtrue (by omega)) ?_ | refine L_geq rfl rfl rfl (dfalse (by omega)) ?_ | refine L_geq rfl rfl rfl rfl ?_
                  refine RL_then ?_
                  refine W_if_false rfl ?_
                  refine W_skip' ?_
                  refine Nx_then ?_
                  refine W_region ?_
                  refine L_move rfl rfl ?_
                  refine L_loadA rfl Try.agg53 Try.ti53 rfl (by exact cellsAt2' (hs.get (i := 0) rfl) rfl rfl) ?_
                  refine L_buildSlice rfl hs Try.underlying43 Try.ti53 rfl (by decide) rfl (by simp [Value.cells]) ?_
                  intro b120 w hb120 hnb120 hs
                  skip
                  have h0 : HS w0 w (((b21, Row 53 (pr (keyA x))) :: (b20, Row 51 x.cells) :: (XX ++ (Mp' ++ ML))) ++ [(b120, Row 53 (pr (keyA x)))]) := hs
                  clear hs
                  have hs : HS w0 w ((((b21, Row 53 (pr (keyA x))) :: (b20, Row 51 x.cells) :: (XX ++ ML)) ++ Mp') ++ [(b120, Row 53 (pr (keyA x)))]) := HS.re h0 (fun c => by simp only [List.map_append, List.map_cons, List.map_nil, List.sum_append, List.sum_cons, List.sum_nil]; omega)
                  clear h0
                  refine L_appendT (L := (b21, Row 53 (pr (keyA x))) :: (b20, Row 51 x.cells) :: (XX ++ ML)) (M := Mp') rfl Try.underlying43 Try.ti53 rfl hs hb120 hbP' rfl rfl rfl (by simp [pr, Value.oneCell']) (by omega) (by omega) ?_
                  intro v121 w M121 hs hb121
                  refine L_assign rfl rfl ?_
                  refine RL_nil' ?_
                  refine Nx_block ?_
                  refine Nx_block ?_
                  refine Nx_then ?_
                  refine W_region ?_
                  first | refine L_add rfl rfl rfl (wrp_i64 (by omega)) ?_ | refine L_add rfl rfl rfl rfl ?_
                  refine L_move rfl rfl ?_
                  refine RL_nil' ?_
                  have hfin : HS w0 w (XX ++ (M121 ++ ML)) := HS.dropR (M := [(b21, Row 53 (pr (keyA x))), (b20, Row 51 x.cells)]) (HS.re hs (fun c => by simp only [List.map_append, List.map_cons, List.map_nil, List.sum_append, List.sum_cons, List.sum_nil]; omega)) (Own.cons hb21 (Own.cons hb20 Own.nil))
                  refine Nx_loopP (j + 1, P' ++ [keyA x], v121, M121, vL, ML, _) (is := [7, 9, 10, 15, 17, 18, 87, 88, 89, 98, 99, 100]) (I' := (fun (j : Nat) (P' : List PP) (vP' : Value) (Mp' : Bks) (vL : Value) (ML : Bks) (w : World) => (j ≤ nT) ∧ (P'.Nodup) ∧ (∀ p, p ∈ P' ↔ inS (T.take j) (val es) p) ∧ (P'.length ≤ P.length + j) ∧ (Bl w0 53 2 vP' P'.length (prs P') Mp') ∧ (Bl w0 53 2 vL (leftL (T.take j)).length (prs (leftL (T.take j))) ML) ∧ (HS w0 w (XX ++ (Mp' ++ ML)))) (j + 1) (P' ++ [keyA x]) (v121) (M121) (vL) (ML) (_)) rfl rfl rfl ?_ ?_
                  · refine ⟨by omega, ?_, fun p => ?_, by rw [List.length_append, List.length_singleton]; omega, ?_, ?_, hfin⟩
                    · rw [List.nodup_append]
                      exact ⟨hP', by simp, fun a ha b hb hab => by rw [List.mem_singleton.1 hb] at hab; rw [hab] at ha; exact hnotP ha⟩
                    · rw [htake, inS_snoc hfr, List.mem_append, List.mem_singleton]
                      by_cases hpx : p = keyA x
                      · rw [if_pos hpx]; simp [hpx, hk0]
                      · rw [if_neg hpx, ← hPm' p]; simp [hpx]
                    · rw [List.length_append, prs_app]
                      rw [show prs [keyA x] = pr (keyA x) by simp [prs]]
                      exact hb121
                    · rw [htake, leftL_snoc, if_neg (by omega), List.append_nil]
                      exact hbL
                  · omega
                · obtain ⟨q, hq, rfl, hpq⟩ : ∃ q, q < P'.length ∧ j0 = (q : Int) ∧ P'.getD q (0, 0) = keyA x := by
                    rcases hF with ⟨q, hq, h1, hpq, _⟩ | ⟨_, h⟩
                    · exact ⟨q, hq, h1, hpq⟩
                    · obtain ⟨q, hq, hqe⟩ := List.getElem_of_mem (hpk.2 hv0)
                      exact absurd (by show P'.getD q (0, 0) = keyA x; rw [List.getD_eq_getElem?_getD, List.getElem?_eq_getElem hq]; exact hqe) (h q hq)
                  obtain ⟨g, cap, sp, hvv, rfl, hg9, hcap, hle9⟩ := hbP'.own_row (by omega)
                  obtain ⟨rfl, rfl⟩ : aP = some ⟨g, 0, none⟩ ∧ cP = cap := by injection hvv with h1 _ h2; exact ⟨h1, h2⟩
                  refine L_assign rfl rfl ?_
                  refine RL_then ?_
                  refine W_seq ?_
                  refine W_region ?_
                  refine L_fieldAddr rfl (off := 0) Try.underlying51 rfl rfl Try.ti49 rfl ?_
                  refine L_load rfl Try.one49 rfl (by exact hs.cell (i := 1) rfl rfl) ?_
                  refine RL_then ?_
                  refine W_block ?_
                  refine W_seq ?_
                  refine W_region ?_
                  first | refine L_eql rfl rfl rfl (dtrue (by omega)) ?_ | refine L_eql rfl rfl rfl (dfalse (by omega)) ?_ | refine L_eql rfl rfl rfl rfl ?_
                  refine L_assign rfl rfl ?_
                  refine RL_then ?_
                  refine W_if_false rfl ?_
                  refine W_seq ?_
                  refine W_region ?_
                  first | refine L_eql rfl rfl rfl (dtrue (by omega)) ?_ | refine L_eql rfl rfl rfl (dfalse (by omega)) ?_ | refine L_eql rfl rfl rfl rfl ?_
                  refine L_assign rfl rfl ?_
                  refine RL_then ?_
                  refine W_if_true rfl ?_
                  refine W_seq ?_
                  refine W_seq ?_
                  refine W_region ?_
                  refine L_move rfl rfl ?_
                  first | refine L_lss rfl rfl rfl (dtrue (by omega)) ?_ | refine L_lss rfl rfl rfl (dfalse (by omega)) ?_ | refine L_lss rfl rfl rfl rfl ?_
                  refine RL_then ?_
                  refine W_if_false rfl ?_
                  refine W_skip' ?_
                  refine Nx_then ?_
                  refine W_seq ?_
                  have h0 : HS w0 w2 ((g, Row 53 (prs P' ++ sp)) :: (b21, Row 53 (pr (keyA x))) :: (b20, Row 51 x.cells) :: (XX ++ ML)) := HS.re hs (fun c => by simp only [List.map_append, List.map_cons, List.map_nil, List.sum_append, List.sum_cons, List.sum_nil]; omega)
                  clear hs
                  have hs := h0
                  clear h0
                  obtain ⟨la, hla9⟩ : ∃ la, la = P'.getD (P'.length - 1) (0, 0) := ⟨_, rfl⟩
                  refine W_region ?_
                  refine L_move rfl rfl ?_
                  refine L_move rfl rfl ?_
                  refine L_move rfl rfl ?_
                  refine L_move rfl rfl ?_
                  refine L_len rfl Try.underlying43 rfl ?_
                  first | refine L_sub rfl rfl rfl (wrp_i64 (by omega)) ?_ | refine L_sub rfl rfl rfl rfl ?_
                  refine L_idxN rfl Try.underlying43 Try.ti53 rfl rfl (show ((P'.length : Int) - 1) = ((P'.length - 1 : Nat) : Int) by omega) (by omega) rfl ?_
                  refine L_loadA rfl Try.agg53 Try.ti53 rfl (by exact (by rw [hla9]; exact prs_at (SlC.of_row (hs.get (i := 0) rfl)) (by omega) : CellsAt w2 ((aD (some ⟨g, 0, none⟩)).add ((P'.length - 1) * 2)) (pr la))) ?_
                  refine L_idxN rfl Try.underlying43 Try.ti53 rfl rfl (by with_reducible first | exact natc_k _ | exact natc_a1 _ | exact natc_0 | exact natc_1 | exact natc_2 | exact natc_s1 _ (by omega) | exact natc_a2 _ | exact natc_add _ _ | exact natc_mul _ _ | exact natc (by omega)) (by omega) rfl ?_
                  refine L_storeA (vs := pr la) (j := q * 2) hs (i := 0) rfl Try.ti53 rfl rfl (add_lit0 _ _) (by rw [List.length_append, prs_len]; show q * 2 + 2 ≤ _; omega) (by simp [pr, Value.oneCell']) ?_; intro w hs
                  refine RL_then ?_
                  refine W_seq ?_
                  have h0 : HS w0 w ((g, Row 53 (prs (P'.set q la) ++ sp)) :: (b21, Row 53 (pr (keyA x))) :: (b20, Row 51 x.cells) :: (XX ++ ML)) := by
                    rw [← prs_set P' q la sp hq]
                    exact hs
                  clear hs
                  have hs := h0
                  clear h0
                  refine W_region ?_
                  refine L_move rfl rfl ?_
                  refine L_move rfl rfl ?_
                  refine L_len rfl Try.underlying43 rfl ?_
                  first | refine L_sub rfl rfl rfl (wrp_i64 (by omega)) ?_ | refine L_sub rfl rfl rfl rfl ?_
                  refine RL_val rfl (R_slice010 Try.underlying43 Try.ti53 rfl rfl (show ((P'.length : Int) - 1) = ((P'.length - 1 : Nat) : Int) by omega) (by omega)) ?_
                  refine L_assign rfl rfl ?_
                  refine RL_then ?_
                  refine W_region ?_
                  refine L_move rfl rfl ?_
                  refine L_loadA rfl Try.agg53 Try.ti53 rfl (by exact cellsAt2' (hs.get (i := 1) rfl) rfl rfl) ?_
                  refine L_buildSlice rfl hs Try.underlying43 Try.ti53 rfl (by decide) rfl (by simp [Value.cells]) ?_
                  intro b142 w hb142 hnb142 hs
                  skip
                  have h0 : HS w0 w (((g, Row 53 (prs (P'.set q la) ++ sp)) :: (b21, Row 53 (pr (keyA x))) :: (b20, Row 51 x.cells) :: (XX ++ ML)) ++ [(b142, Row 53 (pr (keyA x)))]) := hs
                  clear hs
                  have hs : HS w0 w ((((g, Row 53 (prs (P'.set q la) ++ sp)) :: (b21, Row 53 (pr (keyA x))) :: (b20, Row 51 x.cells) :: XX) ++ ML) ++ [(b142, Row 53 (pr (keyA x)))]) := HS.re h0 (fun c => by simp only [List.map_append, List.map_cons, List.map_nil, List.sum_append, List.sum_cons, List.sum_nil]; omega)
                  clear h0
                  have hLl : (leftL (T.take j)).length ≤ 100000000 := by
                    unfold leftL
                    rw [List.length_map]
                    refine Nat.le_trans (List.length_filter_le ..) ?_
                    rw [List.length_take]; omega
                  refine L_appendT (L := (g, Row 53 (prs (P'.set q la) ++ sp)) :: (b21, Row 53 (pr (keyA x))) :: (b20, Row 51 x.cells) :: XX) (M := ML) rfl Try.underlying43 Try.ti53 rfl hs hb142 hbL rfl rfl rfl (by simp [pr, Value.oneCell']) (by omega) (by omega) ?_
                  intro v143 w M143 hs hb143
                  refine L_assign rfl rfl ?_
                  refine RL_nil' ?_
                  refine Nx_block ?_
                  refine Nx_block ?_
                  refine Nx_then ?_
                  refine W_region ?_
                  first | refine L_add rfl rfl rfl (wrp_i64 (by omega)) ?_ | refine L_add rfl rfl rfl rfl ?_
                  refine L_move rfl rfl ?_
                  refine RL_nil' ?_
                  have hfin : HS w0 w (XX ++ ([(g, Row 53 (prs (P'.set q la) ++ sp))] ++ M143)) := HS.dropR (M := [(b21, Row 53 (pr (keyA x))), (b20, Row 51 x.cells)]) (HS.re hs (fun c => by simp only [List.map_append, List.map_cons, List.map_nil, List.sum_append, List.sum_cons, List.sum_nil]; omega)) (Own.cons hb21 (Own.cons hb20 Own.nil))
                  refine Nx_loopP (j + 1, swapRem P' q, .slice (some ⟨g, 0, none⟩) (P'.length - 1) cP, [(g, Row 53 (prs (P'.set q la) ++ sp))], v143, M143, _) (is := [7, 9, 10, 15, 17, 18, 87, 88, 89, 98, 99, 100]) (I' := (fun (j : Nat) (P' : List PP) (vP' : Value) (Mp' : Bks) (vL : Value) (ML : Bks) (w : World) => (j ≤ nT) ∧ (P'.Nodup) ∧ (∀ p, p ∈ P' ↔ inS (T.take j) (val es) p) ∧ (P'.length ≤ P.length + j) ∧ (Bl w0 53 2 vP' P'.length (prs P') Mp') ∧ (Bl w0 53 2 vL (leftL (T.take j)).length (prs (leftL (T.take j))) ML) ∧ (HS w0 w (XX ++ (Mp' ++ ML)))) (j + 1) (swapRem P' q) (.slice (some ⟨g, 0, none⟩) (P'.length - 1) cP) ([(g, Row 53 (prs (P'.set q la) ++ sp))]) (v143) (M143) (_)) rfl rfl rfl ?_ ?_
                  · have hsr := swapRem_spec hP' hq
                    refine ⟨by omega, hsr.1, fun p => ?_, by rw [swapRem_len]; omega, ?_, ?_, hfin⟩
                    · rw [htake, inS_snoc hfr, hsr.2, hpq]
                      by_cases hpx : p = keyA x
                      · rw [if_pos hpx]; simp [hpx, hk0]
                      · rw [if_neg hpx, ← hPm' p]; simp [hpx]
                    · rw [hla9]; exact swap_bl hg9 hcap hle9
                    · rw [htake, leftL_snoc, if_pos hk0, List.length_append, prs_app]
                      rw [show prs [keyA x] = pr (keyA x) by simp [prs]]
                      exact hb143
                  · omega
                · have hnotP : keyA x ∉ P' := fun h => by have := hpk.1 h; omega
                  have hj0 : j0 = -1 := by
                    rcases hF with ⟨q, hq, _, hpq, _⟩ | ⟨h, _⟩
                    · exact absurd (by rw [← hpq]; exact getD_mem hq) hnotP
                    · exact h
                  subst hj0
                  refine L_assign rfl rfl ?_
                  refine RL_then ?_
                  refine W_seq ?_
                  refine W_region ?_
                  refine L_fieldAddr rfl (off := 0) Try.underlying51 rfl rfl Try.ti49 rfl ?_
                  refine L_load rfl Try.one49 rfl (by exact hs.cell (i := 1) rfl rfl) ?_
                  refine RL_then ?_
                  refine W_block ?_
                  refine W_seq ?_
                  refine W_region ?_
                  first | refine L_eql rfl rfl rfl (dtrue (by omega)) ?_ | refine L_eql rfl rfl rfl (dfalse (by omega)) ?_ | refine L_eql rfl rfl rfl rfl ?_
                  refine L_assign rfl rfl ?_
                  refine RL_then ?_
                  refine W_if_false rfl ?_
                  refine W_seq ?_
                  refine W_region ?_
                  first | refine L_eql rfl rfl rfl (dtrue (by omega)) ?_ | refine L_eql rfl rfl rfl (dfalse (by omega)) ?_ | refine L_eql rfl rfl rfl rfl ?_
                  refine L_assign rfl rfl ?_
                  refine RL_then ?_
                  refine W_if_false rfl ?_
                  refine W_seq ?_
                  refine W_region ?_
                  first | refine L_eql rfl rfl rfl (dtrue (by omega)) ?_ | refine L_eql rfl rfl rfl (dfalse (by omega)) ?_ | refine L_eql rfl rfl rfl rfl ?_
                  refine L_assign rfl rfl ?_
                  refine RL_then ?_
                  refine W_if_true rfl ?_
                  refine W_seq ?_
                  refine W_region ?_
                  refine L_move rfl rfl ?_
                  first | refine L_geq rfl rfl rfl (dtrue (by omega)) ?_ | refine L_geq rfl rfl rfl (dfalse (by omega)) ?_ | refine L_geq rfl rfl rfl rfl ?_
                  refine RL_then ?_
                  refine W_if_false rfl ?_
                  refine W_skip' ?_
                  refine Nx_block ?_
                  refine Nx_block ?_
                  refine Nx_then ?_
                  refine W_region ?_
                  first | refine L_add rfl rfl rfl (wrp_i64 (by omega)) ?_ | refine L_add rfl rfl rfl rfl ?_
                  refine L_move rfl rfl ?_
                  refine RL_nil' ?_
                  have hfin : HS w0 w2 (XX ++ (Mp' ++ ML)) := HS.dropR (M := [(b21, Row 53 (pr (keyA x))), (b20, Row 51 x.cells)]) (HS.re hs (fun c => by simp only [List.map_append, List.map_cons, List.map_nil, List.sum_append, List.sum_cons, List.sum_nil]; omega)) (Own.cons hb21 (Own.cons hb20 Own.nil))
                  refine Nx_loopP (j + 1, P', .slice aP P'.length cP, Mp', vL, ML, _) (is := [7, 9, 10, 15, 17, 18, 87, 88, 89, 98, 99, 100]) (I' := (fun (j : Nat) (P' : List PP) (vP' : Value) (Mp' : Bks) (vL : Value) (ML : Bks) (w : World) => (j ≤ nT) ∧ (P'.Nodup) ∧ (∀ p, p ∈ P' ↔ inS (T.take j) (val es) p) ∧ (P'.length ≤ P.length + j) ∧ (Bl w0 53 2 vP' P'.length (prs P') Mp') ∧ (Bl w0 53 2 vL (leftL (T.take j)).length (prs (leftL (T.take j))) ML) ∧ (HS w0 w (XX ++ (Mp' ++ ML)))) (j + 1) (P') (.slice aP P'.length cP) (Mp') (vL) (ML) (_)) rfl rfl rfl ?_ ?_
                  · refine ⟨by omega, hP', fun p => ?_, by omega, hbP', ?_, hfin⟩
                    · rw [htake, inS_snoc hfr]
                      by_cases hpx : p = keyA x
                      · rw [if_pos hpx, hpx]
                        constructor
                        · intro h; exact absurd h hnotP
                        · intro h; omega
                      · rw [if_neg hpx]; exact hPm' p
                    · rw [htake, leftL_snoc, if_neg (by omega), List.append_nil]
                      exact hbL
                  · omega
              · obtain rfl : nT = j := by omega
                rw [List.take_of_length_le (by omega)] at hPm' hbL
                have hPn : ∀ p, p ∈ P' ↔ nn p = 2 := fun p => (hPm' p).trans (inS_end hT1 p)
                have hLn : (leftL T).Nodup := leftL_nodup hT1.keys
                have hLm := leftL_mem hT1
                have hLl : (leftL T).length ≤ 100000000 := by
                  unfold leftL
                  rw [List.length_map]
                  exact Nat.le_trans (List.length_filter_le ..) (by omega)
                obtain ⟨L, hLd⟩ : ∃ L, L = leftL T := ⟨_, rfl⟩
                rw [← hLd] at hbL hLn hLm hLl
                rw [hXX] at hs
                have h0 : HS w0 w (gbs B far A.v A.M A.gz.length m W1.es W1.ck A.gz ++ (((A.Mn ++ A.Mk) ++ ((b17, Row 46 l.cells) :: N1)) ++ (Mp' ++ ML))) := HS.asR hs
                clear hs
                have hs := h0
                clear h0
                have hoR2 : Own w0 (((A.Mn ++ A.Mk) ++ ((b17, Row 46 l.cells) :: N1)) ++ (Mp' ++ ML)) := (hKo.app (Own.cons hb17 hn1.own)).app (hbP'.own.app hbL.own)
                have hb17R : ∀ G : Bks, (b17, Row 46 l.cells) ∈ G ++ (((A.Mn ++ A.Mk) ++ ((b17, Row 46 l.cells) :: N1)) ++ (Mp' ++ ML)) := fun G => List.mem_append_right _ (List.mem_append_left _ (List.mem_append_right _ (List.mem_cons_self ..)))
                refine W_seq ?_
                refine W_region ?_
                first | refine L_lss rfl rfl rfl (dtrue (by omega)) ?_ | refine L_lss rfl rfl rfl (dfalse (by omega)) ?_ | refine L_lss rfl rfl rfl rfl ?_
                refine RL_then ?_
                refine W_seq ?_
                refine W_if_false rfl ?_
                refine W_exit' ?_
                refine Ex_then_exit ?_
                refine Ex_loop_exit ?_
                refine Ex_block_hit ?_
                refine Nx_then ?_
                refine W_seq ?_
                refine W_seq ?_
                refine W_region ?_
                refine L_move rfl rfl ?_
                refine L_fieldAddr rfl (off := 0) Try.underlying46 rfl rfl Try.ti23 rfl ?_
                refine L_load rfl Try.one23 rfl (by exact HS.cellM hs (hb17R _) rfl) ?_
                refine L_fieldAddr rfl (off := 1) Try.underlying46 rfl rfl Try.ti44 rfl ?_
                refine L_load rfl Try.one44 rfl (by exact HS.cellM hs (hb17R _) rfl) ?_
                refine L_call rfl Try.fun15 rfl (watchG w0 w B far A.v A.M (((A.Mn ++ A.Mk) ++ ((b17, Row 46 l.cells) :: N1)) ++ (Mp' ++ ML)) A.gz.length m W1.es W1.ck A.gz l.time l.a l.ts.length l.c l.ts hs hN1 hoR2 (fun w' L' hs' ho hL => hla.old hs' ho) (by omega) rfl (by omega)) ?_
                rintro _ w2 ⟨N2, hs2, hn2, hN2, hel2⟩
                obtain ⟨a2, c2, rfl, _⟩ := hn2.slice
                have hvf1 : val W1.es = fun p => newV (val es p) (nn p) := funext hv1
                have hT2 := told_ok (far := far) (time := l.time) (ts := l.ts) hnums hN1.map hV1 hZ1
                have htl2 := told_len (far := far) (time := l.time) (ts := l.ts) hnums hN1.map hV1 hZ1
                have hv2 := watch_val (far := far) (time := l.time) (ts := l.ts) hnums hN1.map hV1 hZ1
                obtain ⟨_, _, _, hV2, hZ2⟩ := watch_closed far l.time A.gz W1.es W1.ck l.ts hnums hN1.map hV1 hZ1
                obtain ⟨W2, hW2⟩ : ∃ W2, W2 = watchF far l.time A.gz W1.es W1.ck l.ts := ⟨_, rfl⟩
                rw [← hW2] at hs2 hn2 hN2 hel2 hT2 htl2 hv2 hV2 hZ2
                rw [← hW2]
                rw [← hnn] at hT2 hv2
                rw [hvf1] at hT2
                have htl2' : W2.told.length ≤ 100000000 := Nat.le_trans htl2 (Nat.le_trans (Nat.mul_le_mul_right _ hgl) (by omega))
                clear hs
                obtain ⟨YY, hYY⟩ : ∃ YY, YY = gbs B far A.v A.M A.gz.length m W2.es W2.ck A.gz ++ (((A.Mn ++ A.Mk) ++ Mp') ++ ((b17, Row 46 l.cells) :: (N1 ++ N2))) := ⟨_, rfl⟩
                have hs : HS w0 w2 (YY ++ ML) := by rw [hYY]; exact HS.re hs2 (fun c => by simp only [List.map_append, List.map_cons, List.map_nil, List.sum_append, List.sum_cons, List.sum_nil]; omega)
                have hYo : Own w0 YY := by rw [hYY]; exact hN2.owns.app ((hKo.app hbP'.own).app (Own.cons hb17 (hn1.own.app hn2.own)))
                have hYN : ∀ p ∈ N2, p ∈ YY := fun p hp => by rw [hYY]; exact List.mem_append_right _ (List.mem_append_right _ (List.mem_cons_of_mem _ (List.mem_append_right _ hp)))
                clear hs2
                obtain ⟨T2, hT2d⟩ : ∃ T2, T2 = W2.told := ⟨_, rfl⟩
                obtain ⟨n2, hnT2⟩ : ∃ n2, n2 = T2.length := ⟨_, rfl⟩
                rw [← hT2d] at hn2 hT2 htl2'
                rw [← hT2d, ← hnT2]
                rw [← hnT2] at hn2 htl2'
                refine L_len rfl Try.underlying47 rfl ?_
                refine L_move rfl rfl ?_
                refine RL_then ?_
                refine W_block ?_
                refine W_loop5 (fun (j : Nat) (L2 : List PP) (vL2 : Value) (ML2 : Bks) (w : World) => [(7, .pointer (some ⟨B, 0, none⟩)), (9, .slice A.an A.gz.length A.cn), (10, .slice A.ak A.gz.length A.ck), (15, vP'), (17, .pointer (some ⟨b17, 0, none⟩)), (18, vL2), (87, .slice b nl d), (88, .int .i64 nl), (89, .int .i64 i), (154, .slice a2 n2 c2), (155, .int .i64 n2), (156, .int .i64 j)]) (fun (j : Nat) (L2 : List PP) (vL2 : Value) (ML2 : Bks) (w : World) => w) (fun (j : Nat) (L2 : List PP) (vL2 : Value) (ML2 : Bks) (w : World) => (j ≤ n2) ∧ (L2.Nodup) ∧ (∀ p, p ∈ L2 ↔ p ∈ L ∧ ∀ x ∈ T2.take j, keyA x ≠ p) ∧ (L2.length ≤ 100000000) ∧ (Bl w0 53 2 vL2 L2.length (prs L2) ML2) ∧ (HS w0 w (YY ++ ML2))) (fun (j : Nat) (L2 : List PP) (vL2 : Value) (ML2 : Bks) (w : World) => n2 - j) (0) (L) (vL) (ML) (w2) (is := [7, 9, 10, 15, 17, 18, 87, 88, 89, 154, 155, 156]) rfl rfl ?_ ?_
                · exact ⟨Nat.zero_le _, hLn, fun p => by simp, hLl, hbL, hs⟩
                · clear hs
                  intro j L2 vL2 ML2 w hI
                  show W _ _ _ _ [(7, .pointer (some ⟨B, 0, none⟩)), (9, .slice A.an A.gz.length A.cn), (10, .slice A.ak A.gz.length A.ck), (15, vP'), (17, .pointer (some ⟨b17, 0, none⟩)), (18, vL2), (87, .slice b nl d), (88, .int .i64 nl), (89, .int .i64 i), (154, .slice a2 n2 c2), (155, .int .i64 n2), (156, .int .i64 j)] w
                  obtain ⟨hj2, hL2n, hL2m, hL2l, hbL2, hs⟩ := hI
                  have hoY : Own w0 (YY ++ ML2) := hYo.app hbL2.own
                  by_cases hjt2 : j < n2
                  · refine W_seq ?_
                    refine W_region ?_
                    first | refine L_lss rfl rfl rfl (dtrue (by omega)) ?_ | refine L_lss rfl rfl rfl (dfalse (by omega)) ?_ | refine L_lss rfl rfl rfl rfl ?_
                    refine RL_then ?_
                    refine W_seq ?_
                    refine W_if_true rfl ?_
                    obtain ⟨aL, cL, rfl, _⟩ := hbL2.slice
                    obtain ⟨x, hxd⟩ : ∃ x, x = T2.getD j al0 := ⟨_, rfl⟩
                    have hxT : x ∈ T2 := by rw [hxd]; exact getD_mem (by omega)
                    have htake : T2.take (j + 1) = T2.take j ++ [x] := by rw [acs_get' (by omega), ← hxd]
                    have hfr : ∀ y ∈ T2.take j, keyA y ≠ keyA x := by rw [hxd]; exact keys_fresh hT2.keys (by omega)
                    have hN2c : SlC w a2 (acs T2) := hn2.slm hs (fun p hp => List.mem_append_left _ (hYN p hp))
                    obtain ⟨hk2, hv2x, hn2x⟩ := second hT2 hxT
                    have hin2 : keyA x ∈ L2 := (hL2m _).2 ⟨(hLm _).2 ⟨hv2x, hn2x⟩, hfr⟩
                    refine W_skip' ?_
                    refine Nx_then ?_
                    refine W_seq ?_
                    refine W_block ?_
                    refine W_seq ?_
                    refine W_region ?_
                    refine L_idxN rfl Try.underlying47 Try.ti51 rfl rfl (by with_reducible first | exact natc_k _ | exact natc_a1 _ | exact natc_0 | exact natc_1 | exact natc_2 | exact natc_s1 _ (by omega) | exact natc_a2 _ | exact natc_add _ _ | exact natc_mul _ _ | exact natc (by omega)) (by omega) (hN2c.ao (by rw [acs_len]; omega)) ?_
                    refine L_loadA rfl Try.agg51 Try.ti51 rfl (by exact (by rw [hxd]; exact al_at hN2c (by omega) : CellsAt w ((aD a2).add (j * 4)) x.cells)) ?_
                    refine L_alloc rfl hs Try.ti51 ?_; intro b24 w hb24 _ hs; replace hs := HS.push hs
                    refine L_storeA hs (i := 0) rfl Try.ti51 rfl rfl (by first | rfl | exact add_lit0 _ _ | exact Addr.add_lit .. | (rw [add_add]; exact add_lit0 _ _)) (by simp [Al.cells]) (by exact Al.one x) ?_
                    intro w hs
                    try dsimp only [List.set_cons_succ, List.set_cons_zero, List.cons_append, List.nil_append] at hs
                    refine RL_then ?_
                    refine W_seq ?_
                    replace hs : HS w0 w ((b24, Row 51 x.cells) :: (YY ++ ML2)) := hs
                    refine W_region ?_
                    refine L_move rfl rfl ?_
                    refine L_fieldAddr rfl (off := 1) Try.underlying51 rfl rfl Try.ti3 rfl ?_
                    refine L_load rfl Try.one3 rfl (by exact hs.cell (i := 0) rfl rfl) ?_
                    refine L_fieldAddr rfl (off := 2) Try.underlying51 rfl rfl Try.ti3 rfl ?_
                    refine L_load rfl Try.one3 rfl (by exact hs.cell (i := 0) rfl rfl) ?_
                    refine L_build rfl rfl (Pl.built Try.pl53 rfl) ?_
                    refine L_call rfl Try.fun16 rfl (held_ok aL L2.length cL L2 (keyA x) w (hbL2.slm hs (fun p hp => List.mem_cons_of_mem _ (List.mem_append_right _ hp))) rfl (by omega)) ?_
                    rintro _ w3 ⟨j0, rfl, hs', hF⟩
                    have hs2 := hs.nil hs'
                    clear hs hs'
                    have hs := hs2
                    clear hs2
                    obtain ⟨q, hq, rfl, hpq⟩ : ∃ q, q < L2.length ∧ j0 = (q : Int) ∧ L2.getD q (0, 0) = keyA x := by
                      rcases hF with ⟨q, hq, h1, hpq, _⟩ | ⟨_, h⟩
                      · exact ⟨q, hq, h1, hpq⟩
                      · obtain ⟨q, hq, hqe⟩ := List.getElem_of_mem hin2
                        exact absurd (by show L2.getD q (0, 0) = keyA x; rw [List.getD_eq_getElem?_getD, List.getElem?_eq_getElem hq]; exact hqe) (h q hq)
                    obtain ⟨g, cap, sp, hvv, rfl, hg9, hcap, hle9⟩ := hbL2.own_row (by omega)
                    obtain ⟨rfl, rfl⟩ : aL = some ⟨g, 0, none⟩ ∧ cL = cap := by injection hvv with h1 _ h2; exact ⟨h1, h2⟩
                    refine L_assign rfl rfl ?_
                    refine RL_then ?_
                    refine W_seq ?_
                    refine W_seq ?_
                    refine W_region ?_
                    refine L_fieldAddr rfl (off := 0) Try.underlying51 rfl rfl Try.ti49 rfl ?_
                    refine L_load rfl Try.one49 rfl (by exact hs.cell (i := 0) rfl rfl) ?_
                    first | refine L_neq rfl rfl rfl (dtrue (by omega)) ?_ | refine L_neq rfl rfl rfl (dfalse (by omega)) ?_ | refine L_neq rfl rfl rfl rfl ?_
                    refine L_move rfl rfl ?_
                    first | (refine RL_want rfl rfl ?_; refine L_move rfl rfl ?_) | refine RL_skip rfl rfl rfl rfl ?_ | refine RL_skipU rfl rfl rfl ?_
                    first | (refine RL_want rfl rfl ?_; (first | refine L_lss rfl rfl rfl (dtrue (by omega)) ?_ | refine L_lss rfl rfl rfl (dfalse (by omega)) ?_ | refine L_lss rfl rfl rfl rfl ?_)) | refine RL_skip rfl rfl rfl rfl ?_ | refine RL_skipU rfl rfl rfl ?_
                    first | refine L_pick_t rfl rfl rfl ?_ | refine L_pick_f rfl rfl rfl ?_
                    refine RL_then ?_
                    refine W_if_false rfl ?_
                    refine W_skip' ?_
                    refine Nx_then ?_
                    refine W_seq ?_
                    have h0 : HS w0 w3 ((g, Row 53 (prs L2 ++ sp)) :: (b24, Row 51 x.cells) :: YY) := HS.re hs (fun c => by simp only [List.map_append, List.map_cons, List.map_nil, List.sum_append, List.sum_cons, List.sum_nil]; omega)
                    clear hs
                    have hs := h0
                    clear h0
                    obtain ⟨la, hla9⟩ : ∃ la, la = L2.getD (L2.length - 1) (0, 0) := ⟨_, rfl⟩
                    refine W_region ?_
                    refine L_move rfl rfl ?_
                    refine L_move rfl rfl ?_
                    refine L_move rfl rfl ?_
                    refine L_move rfl rfl ?_
                    refine L_len rfl Try.underlying43 rfl ?_
                    first | refine L_sub rfl rfl rfl (wrp_i64 (by omega)) ?_ | refine L_sub rfl rfl rfl rfl ?_
                    refine L_idxN rfl Try.underlying43 Try.ti53 rfl rfl (show ((L2.length : Int) - 1) = ((L2.length - 1 : Nat) : Int) by omega) (by omega) rfl ?_
                    refine L_loadA rfl Try.agg53 Try.ti53 rfl (by exact (by rw [hla9]; exact prs_at (SlC.of_row (hs.get (i := 0) rfl)) (by omega) : CellsAt w3 ((aD (some ⟨g, 0, none⟩)).add ((L2.length - 1) * 2)) (pr la))) ?_
                    refine L_idxN rfl Try.underlying43 Try.ti53 rfl rfl (by with_reducible first | exact natc_k _ | exact natc_a1 _ | exact natc_0 | exact natc_1 | exact natc_2 | exact natc_s1 _ (by omega) | exact natc_a2 _ | exact natc_add _ _ | exact natc_mul _ _ | exact natc (by omega)) (by omega) rfl ?_
                    refine L_storeA (vs := pr la) (j := q * 2) hs (i := 0) rfl Try.ti53 rfl rfl (add_lit0 _ _) (by rw [List.length_append, prs_len]; show q * 2 + 2 ≤ _; omega) (by simp [pr, Value.oneCell']) ?_; intro w hs
                    refine RL_then ?_
                    refine W_region ?_
                    refine L_move rfl rfl ?_
                    refine L_move rfl rfl ?_
                    refine L_len rfl Try.underlying43 rfl ?_
                    first | refine L_sub rfl rfl rfl (wrp_i64 (by omega)) ?_ | refine L_sub rfl rfl rfl rfl ?_
                    refine RL_val rfl (R_slice010 Try.underlying43 Try.ti53 rfl rfl (by with_reducible first | exact natc_k _ | exact natc_a1 _ | exact natc_0 | exact natc_1 | exact natc_2 | exact natc_s1 _ (by omega) | exact natc_a2 _ | exact natc_add _ _ | exact natc_mul _ _ | exact natc (by omega)) (by omega)) ?_
                    refine L_assign rfl rfl ?_
                    refine RL_nil' ?_
                    refine Nx_block ?_
                    refine Nx_then ?_
                    refine W_region ?_
                    first | refine L_add rfl rfl rfl (wrp_i64 (by omega)) ?_ | refine L_add rfl rfl rfl rfl ?_
                    refine L_move rfl rfl ?_
                    refine RL_nil' ?_
                    have h0 : HS w0 w ((g, Row 53 (prs (L2.set q la) ++ sp)) :: (b24, Row 51 x.cells) :: YY) := by
                      rw [← prs_set L2 q la sp hq]
                      exact hs
                    clear hs
                    have hs := h0
                    clear h0
                    have hfin : HS w0 w (YY ++ [(g, Row 53 (prs (L2.set q la) ++ sp))]) := HS.dropR (M := [(b24, Row 51 x.cells)]) (HS.re hs (fun c => by simp only [List.map_append, List.map_cons, List.map_nil, List.sum_append, List.sum_cons, List.sum_nil]; omega)) (Own.cons hb24 Own.nil)
                    refine Nx_loopP (j + 1, swapRem L2 q, .slice (some ⟨g, 0, none⟩) (L2.length - 1) cL, [(g, Row 53 (prs (L2.set q la) ++ sp))], _) (is := [7, 9, 10, 15, 17, 18, 87, 88, 89, 154, 155, 156]) (I' := (fun (j : Nat) (L2 : List PP) (vL2 : Value) (ML2 : Bks) (w : World) => (j ≤ n2) ∧ (L2.Nodup) ∧ (∀ p, p ∈ L2 ↔ p ∈ L ∧ ∀ x ∈ T2.take j, keyA x ≠ p) ∧ (L2.length ≤ 100000000) ∧ (Bl w0 53 2 vL2 L2.length (prs L2) ML2) ∧ (HS w0 w (YY ++ ML2))) (j + 1) (swapRem L2 q) (.slice (some ⟨g, 0, none⟩) (L2.length - 1) cL) ([(g, Row 53 (prs (L2.set q la) ++ sp))]) (_)) rfl rfl rfl ?_ ?_
                    · have hsr := swapRem_spec hL2n hq
                      refine ⟨by omega, hsr.1, fun p => ?_, by rw [swapRem_len]; omega, ?_, hfin⟩
                      · rw [htake, hsr.2, hpq, hL2m]
                        constructor
                        · rintro ⟨⟨h1, h2⟩, h3⟩
                          refine ⟨h1, fun y hy => ?_⟩
                          rcases List.mem_append.1 hy with hy | hy
                          · exact h2 y hy
                          · rw [List.mem_singleton.1 hy]; exact fun e => h3 e.symm
                        · rintro ⟨h1, h2⟩
                          exact ⟨⟨h1, fun y hy => h2 y (List.mem_append_left _ hy)⟩, fun e => h2 x (List.mem_append_right _ (List.mem_singleton.2 rfl)) e.symm⟩
                      · rw [hla9]; exact swap_bl hg9 hcap hle9
                    · omega
                  · obtain rfl : n2 = j := by omega
                    rw [hYY] at hs
                    have h0 : HS w0 w (gbs B far A.v A.M A.gz.length m W2.es W2.ck A.gz ++ ((((A.Mn ++ A.Mk) ++ Mp') ++ ((b17, Row 46 l.cells) :: (N1 ++ N2))) ++ ML2)) := HS.asR hs
                    clear hs
                    have hs := h0
                    clear h0
                    have hoR3 : Own w0 ((((A.Mn ++ A.Mk) ++ Mp') ++ ((b17, Row 46 l.cells) :: (N1 ++ N2))) ++ ML2) := ((hKo.app hbP'.own).app (Own.cons hb17 (hn1.own.app hn2.own))).app hbL2.own
                    have hb17R3 : ∀ G : Bks, (b17, Row 46 l.cells) ∈ G ++ ((((A.Mn ++ A.Mk) ++ Mp') ++ ((b17, Row 46 l.cells) :: (N1 ++ N2))) ++ ML2) := fun G => List.mem_append_right _ (List.mem_append_left _ (List.mem_append_right _ (List.mem_cons_self ..)))
                    refine W_seq ?_
                    refine W_region ?_
                    first | refine L_lss rfl rfl rfl (dtrue (by omega)) ?_ | refine L_lss rfl rfl rfl (dfalse (by omega)) ?_ | refine L_lss rfl rfl rfl rfl ?_
                    refine RL_then ?_
                    refine W_seq ?_
                    refine W_if_false rfl ?_
                    refine W_exit' ?_
                    refine Ex_then_exit ?_
                    refine Ex_loop_exit ?_
                    refine Ex_block_hit ?_
                    refine Nx_then ?_
                    refine W_seq ?_
                    refine W_seq ?_
                    refine W_region ?_
                    refine L_move rfl rfl ?_
                    refine L_fieldAddr rfl (off := 0) Try.underlying46 rfl rfl Try.ti23 rfl ?_
                    refine L_load rfl Try.one23 rfl (by exact HS.cellM hs (hb17R3 _) rfl) ?_
                    refine L_fieldAddr rfl (off := 1) Try.underlying46 rfl rfl Try.ti44 rfl ?_
                    refine L_load rfl Try.one44 rfl (by exact HS.cellM hs (hb17R3 _) rfl) ?_
                    refine L_call rfl Try.fun15 rfl (watchG w0 w B far A.v A.M ((((A.Mn ++ A.Mk) ++ Mp') ++ ((b17, Row 46 l.cells) :: (N1 ++ N2))) ++ ML2) A.gz.length m W2.es W2.ck A.gz l.time l.a l.ts.length l.c l.ts hs hN2 hoR3 (fun w' L' hs' ho hL => hla.old hs' ho) (by omega) rfl (by omega)) ?_
                    rintro _ w3 ⟨N3, hs3, hn3, hN3, hel3⟩
                    obtain ⟨a3, c3, rfl, _⟩ := hn3.slice
                    have hvf2 : val W2.es = fun p => newV (newV (val es p) (nn p)) (nn p) := funext fun p => by rw [hv2, hv1]
                    have hT3 := told_ok (far := far) (time := l.time) (ts := l.ts) hnums hN2.map hV2 hZ2
                    have hv3 := watch_val (far := far) (time := l.time) (ts := l.ts) hnums hN2.map hV2 hZ2
                    obtain ⟨_, _, _, hV3, hZ3⟩ := watch_closed far l.time A.gz W2.es W2.ck l.ts hnums hN2.map hV2 hZ2
                    obtain ⟨W3, hW3⟩ : ∃ W3, W3 = watchF far l.time A.gz W2.es W2.ck l.ts := ⟨_, rfl⟩
                    rw [← hW3] at hs3 hn3 hN3 hel3 hT3 hv3 hV3 hZ3
                    rw [← hW3]
                    rw [← hnn] at hT3 hv3
                    rw [hvf2] at hT3
                    have hl30 : W3.told.length = 0 := by rw [third hT3]; rfl
                    rw [hl30]
                    have hvn : ∀ p, val W3.es p = nn p := fun p => by rw [hv3, hvf2]; simp only [newV2]; unfold newV; split <;> omega
                    clear hs
                    obtain ⟨RR, hRR⟩ : ∃ RR, RR = ((A.Mn ++ A.Mk) ++ Mp') ++ (((b17, Row 46 l.cells) :: (N1 ++ N2)) ++ (ML2 ++ N3)) := ⟨_, rfl⟩
                    have hs : HS w0 w3 (gbs B far A.v A.M A.gz.length m W3.es W3.ck A.gz ++ RR) := by rw [hRR]; exact HS.re hs3 (fun c => by simp only [List.map_append, List.map_cons, List.map_nil, List.sum_append, List.sum_cons, List.sum_nil]; omega)
                    have hRo : Own w0 RR := by rw [hRR]; exact (hKo.app hbP'.own).app ((Own.cons hb17 (hn1.own.app hn2.own)).app (hbL2.own.app hn3.own))
                    have hRn : ∀ p ∈ A.Mn, p ∈ RR := fun p hp => by rw [hRR]; exact List.mem_append_left _ (List.mem_append_left _ (List.mem_append_left _ hp))
                    have hRk : ∀ p ∈ A.Mk, p ∈ RR := fun p hp => by rw [hRR]; exact List.mem_append_left _ (List.mem_append_left _ (List.mem_append_right _ hp))
                    have hRp : ∀ p ∈ Mp', p ∈ RR := fun p hp => by rw [hRR]; exact List.mem_append_left _ (List.mem_append_right _ hp)
                    have hRb : (b17, Row 46 l.cells) ∈ RR := by rw [hRR]; exact List.mem_append_right _ (List.mem_append_left _ (List.mem_cons_self ..))
                    have hGo : Own w0 (gbs B far A.v A.M A.gz.length m W3.es W3.ck A.gz ++ RR) := hN3.owns.app hRo
                    clear hs3
                    have he3 : W3.es.length ≤ 192 * tkS ls (i + 1) := by omega
                    obtain ⟨aP, cP, rfl, _⟩ := hbP'.slice
                    refine L_len rfl Try.underlying47 rfl ?_
                    first | refine L_neq rfl rfl rfl (dtrue (by omega)) ?_ | refine L_neq rfl rfl rfl (dfalse (by omega)) ?_ | refine L_neq rfl rfl rfl rfl ?_
                    refine RL_then ?_
                    refine W_if_false rfl ?_
                    refine W_skip' ?_
                    refine Nx_then ?_
                    refine W_seq ?_
                    refine W_region ?_
                    refine L_assign rfl rfl ?_
                    refine RL_then ?_
                    refine W_seq ?_
                    refine W_seq ?_
                    refine W_region ?_
                    refine L_move rfl rfl ?_
                    refine L_len rfl Try.underlying38 rfl ?_
                    refine L_move rfl rfl ?_
                    refine RL_then ?_
                    refine W_block ?_
                    refine W_loop2 (fun (k : Nat) (w : World) => [(7, .pointer (some ⟨B, 0, none⟩)), (9, .slice A.an A.gz.length A.cn), (10, .slice A.ak A.gz.length A.ck), (15, .slice aP P'.length cP), (17, .pointer (some ⟨b17, 0, none⟩)), (26, .int .i64 (cntN W3.es ((numsN A.gz.length).take k))), (87, .slice b nl d), (88, .int .i64 nl), (89, .int .i64 i), (197, .slice A.an A.gz.length A.cn), (198, .int .i64 A.gz.length), (199, .int .i64 k)]) (fun (k : Nat) (w : World) => w) (fun (k : Nat) (w : World) => (k ≤ A.gz.length) ∧ (HS w0 w (gbs B far A.v A.M A.gz.length m W3.es W3.ck A.gz ++ RR))) (fun (k : Nat) (w : World) => A.gz.length - k) (0) (w3) (is := [7, 9, 10, 15, 17, 26, 87, 88, 89, 197, 198, 199]) rfl rfl ?_ ?_
                    · exact ⟨Nat.zero_le _, hs⟩
                    · clear hs
                      intro k w hI
                      show W _ _ _ _ [(7, .pointer (some ⟨B, 0, none⟩)), (9, .slice A.an A.gz.length A.cn), (10, .slice A.ak A.gz.length A.ck), (15, .slice aP P'.length cP), (17, .pointer (some ⟨b17, 0, none⟩)), (26, .int .i64 (cntN W3.es ((numsN A.gz.length).take k))), (87, .slice b nl d), (88, .int .i64 nl), (89, .int .i64 i), (197, .slice A.an A.gz.length A.cn), (198, .int .i64 A.gz.length), (199, .int .i64 k)] w
                      obtain ⟨hk, hs⟩ := hI
                      have hcl := cntN_le W3.es ((numsN A.gz.length).take k)
                      have hcl2 : ((numsN A.gz.length).take k).length ≤ 64 := by rw [List.length_take, numsN_len]; omega
                      have hcl3 : cntN W3.es ((numsN A.gz.length).take k) ≤ 64 * 1000000 := Nat.le_trans hcl (Nat.mul_le_mul hcl2 (by omega))
                      by_cases hkt : k < A.gz.length
                      · refine W_seq ?_
                        refine W_region ?_
                        first | refine L_lss rfl rfl rfl (dtrue (by omega)) ?_ | refine L_lss rfl rfl rfl (dfalse (by omega)) ?_ | refine L_lss rfl rfl rfl rfl ?_
                        refine RL_then ?_
                        refine W_seq ?_
                        refine W_if_true rfl ?_
                        have hnc : SlC w A.an (il (numsN A.gz.length)) := hbn.slm hs (fun p hp => List.mem_append_right _ (hRn p hp))
                        have hng : (il (numsN A.gz.length))[k]? = some (.int .i64 ((k : Int) + 1)) := by rw [il_get (by rw [numsN_len]; exact hkt), numsN_get hkt]
                        have hntake : (numsN A.gz.length).take (k + 1) = (numsN A.gz.length).take k ++ [(k : Int) + 1] := by
                          rw [List.take_add_one, ← numsN_get hkt, List.getD_eq_getElem?_getD, List.getElem?_eq_getElem (by rw [numsN_len]; exact hkt)]; rfl
                        refine W_skip' ?_
                        refine Nx_then ?_
                        refine W_seq ?_
                        refine W_block ?_
                        refine W_seq ?_
                        refine W_region ?_
                        refine L_move rfl rfl ?_
                        refine L_idx1 rfl Try.underlying38 Try.ti3 rfl rfl (by with_reducible first | exact natc_k _ | exact natc_a1 _ | exact natc_0 | exact natc_1 | exact natc_2 | exact natc_s1 _ (by omega) | exact natc_a2 _ | exact natc_add _ _ | exact natc_mul _ _ | exact natc (by omega)) (by omega) (hnc.ao (by rw [il_length, numsN_len]; omega)) ?_
                        refine L_load rfl Try.one3 rfl (by exact hnc.get hng) ?_
                        refine L_assign rfl rfl ?_
                        refine L_assign rfl rfl ?_
                        refine RL_then ?_
                        refine W_seq ?_
                        refine W_region ?_
                        refine L_move rfl rfl ?_
                        refine L_move rfl rfl ?_
                        refine L_call rfl Try.fun17 rfl (inG w0 w B far A.v A.M RR A.gz.length m W3.es W3.ck A.gz ((k : Int) + 1) hs hN3 (by omega)) ?_
                        rintro _ w4 ⟨N4, hs4, hn4⟩
                        clear hs
                        have hs := hs4
                        clear hs4
                        have hil := inL_len W3.es ((k : Int) + 1)
                        have hids : ∀ id, id ∈ isort (inL W3.es ((k : Int) + 1)) ↔ nn ((k : Int) + 1, id) = 2 := fun id => by rw [inS_mem hN3.map.keys, hvn]
                        have hilt := inS_lt hN3.map.keys ((k : Int) + 1)
                        have hlen9 : (isort (inL W3.es ((k : Int) + 1))).length = (inL W3.es ((k : Int) + 1)).length := isort_len _
                        have hcs : cntN W3.es ((numsN A.gz.length).take (k + 1)) = cntN W3.es ((numsN A.gz.length).take k) + (inL W3.es ((k : Int) + 1)).length := by rw [hntake, cntN_snoc, hlen9]
                        obtain ⟨ids, hidd⟩ : ∃ ids, ids = isort (inL W3.es ((k : Int) + 1)) := ⟨_, rfl⟩
                        obtain ⟨ni, hnid⟩ : ∃ ni, ni = (inL W3.es ((k : Int) + 1)).length := ⟨_, rfl⟩
                        rw [← hidd] at hn4 hids hilt hlen9
                        rw [← hnid] at hn4 hlen9 hil hcs
                        obtain ⟨a4, c4, rfl, _⟩ := hn4.slice
                        have hoN : Own w0 ((gbs B far A.v A.M A.gz.length m W3.es W3.ck A.gz ++ RR) ++ N4) := hGo.app hn4.own
                        refine L_assign rfl rfl ?_
                        refine RL_then ?_
                        refine W_seq ?_
                        refine W_region ?_
                        refine L_move rfl rfl ?_
                        refine L_move rfl rfl ?_
                        refine L_len rfl Try.underlying38 rfl ?_
                        first | refine L_add rfl rfl rfl (wrp_i64 (by omega)) ?_ | refine L_add rfl rfl rfl rfl ?_
                        refine L_assign rfl rfl ?_
                        refine RL_then ?_
                        refine W_seq ?_
                        refine W_set 26 (v' := .int .i64 (cntN W3.es ((numsN A.gz.length).take (k + 1)))) rfl ((by rw [hcs, Int.natCast_add])) ?_
                        refine W_region ?_
                        refine L_move rfl rfl ?_
                        refine L_len rfl Try.underlying38 rfl ?_
                        refine L_move rfl rfl ?_
                        refine RL_then ?_
                        refine W_block ?_
                        refine W_loop2 (fun (q : Nat) (w : World) => [(7, .pointer (some ⟨B, 0, none⟩)), (9, .slice A.an A.gz.length A.cn), (10, .slice A.ak A.gz.length A.ck), (15, .slice aP P'.length cP), (17, .pointer (some ⟨b17, 0, none⟩)), (26, .int .i64 (cntN W3.es ((numsN A.gz.length).take (k + 1)))), (27, .int .i64 k), (28, .int .i64 ((k : Int) + 1)), (29, .slice a4 ni c4), (87, .slice b nl d), (88, .int .i64 nl), (89, .int .i64 i), (197, .slice A.an A.gz.length A.cn), (198, .int .i64 A.gz.length), (199, .int .i64 k), (211, .slice a4 ni c4), (212, .int .i64 ni), (213, .int .i64 q)]) (fun (q : Nat) (w : World) => w) (fun (q : Nat) (w : World) => (q ≤ ni) ∧ (HS w0 w ((gbs B far A.v A.M A.gz.length m W3.es W3.ck A.gz ++ RR) ++ N4))) (fun (q : Nat) (w : World) => ni - q) (0) (w4) (is := [7, 9, 10, 15, 17, 26, 27, 28, 29, 87, 88, 89, 197, 198, 199, 211, 212, 213]) rfl rfl ?_ ?_
                        · exact ⟨Nat.zero_le _, hs⟩
                        · clear hs
                          intro q w hI
                          show W _ _ _ _ [(7, .pointer (some ⟨B, 0, none⟩)), (9, .slice A.an A.gz.length A.cn), (10, .slice A.ak A.gz.length A.ck), (15, .slice aP P'.length cP), (17, .pointer (some ⟨b17, 0, none⟩)), (26, .int .i64 (cntN W3.es ((numsN A.gz.length).take (k + 1)))), (27, .int .i64 k), (28, .int .i64 ((k : Int) + 1)), (29, .slice a4 ni c4), (87, .slice b nl d), (88, .int .i64 nl), (89, .int .i64 i), (197, .slice A.an A.gz.length A.cn), (198, .int .i64 A.gz.length), (199, .int .i64 k), (211, .slice a4 ni c4), (212, .int .i64 ni), (213, .int .i64 q)] w
                          obtain ⟨hq, hs⟩ := hI
                          by_cases hqt : q < ni
                          · refine W_seq ?_
                            refine W_region ?_
                            first | refine L_lss rfl rfl rfl (dtrue (by omega)) ?_ | refine L_lss rfl rfl rfl (dfalse (by omega)) ?_ | refine L_lss rfl rfl rfl rfl ?_
                            refine RL_then ?_
                            refine W_seq ?_
                            refine W_if_true rfl ?_
                            have h4c : SlC w a4 (il ids) := hn4.slm hs (fun p hp => List.mem_append_right _ hp)
                            obtain ⟨id, hidv⟩ : ∃ id, id = ids.getD q 0 := ⟨_, rfl⟩
                            have hidn : nn ((k : Int) + 1, id) = 2 := (hids id).1 (by rw [hidv]; exact getD_mem (by omega))
                            have h4q : (il ids)[q]? = some (.int .i64 id) := by rw [il_get (by omega), hidv]
                            refine W_skip' ?_
                            refine Nx_then ?_
                            refine W_seq ?_
                            refine W_block ?_
                            refine W_seq ?_
                            refine W_region ?_
                            refine L_move rfl rfl ?_
                            refine L_idx1 rfl Try.underlying38 Try.ti3 rfl rfl (by with_reducible first | exact natc_k _ | exact natc_a1 _ | exact natc_0 | exact natc_1 | exact natc_2 | exact natc_s1 _ (by omega) | exact natc_a2 _ | exact natc_add _ _ | exact natc_mul _ _ | exact natc (by omega)) (by omega) (h4c.ao (by rw [il_length]; omega)) ?_
                            refine L_load rfl Try.one3 rfl (by exact h4c.get h4q) ?_
                            refine L_assign rfl rfl ?_
                            refine L_assign rfl rfl ?_
                            refine RL_then ?_
                            refine W_seq ?_
                            refine W_seq ?_
                            refine W_cut1 (fun (w : World) => [(7, .pointer (some ⟨B, 0, none⟩)), (9, .slice A.an A.gz.length A.cn), (10, .slice A.ak A.gz.length A.ck), (15, .slice aP P'.length cP), (17, .pointer (some ⟨b17, 0, none⟩)), (26, .int .i64 (cntN W3.es ((numsN A.gz.length).take (k + 1)))), (27, .int .i64 k), (28, .int .i64 ((k : Int) + 1)), (29, .slice a4 ni c4), (31, .int .i64 id), (87, .slice b nl d), (88, .int .i64 nl), (89, .int .i64 i), (197, .slice A.an A.gz.length A.cn), (198, .int .i64 A.gz.length), (199, .int .i64 k), (211, .slice a4 ni c4), (212, .int .i64 ni), (213, .int .i64 q), (236, .bool false)]) (fun (w : World) => w) (fun (w : World) => (HS w0 w ((gbs B far A.v A.M A.gz.length m W3.es W3.ck A.gz ++ RR) ++ N4))) ?_ ?_
                            · refine W_region ?_
                              refine L_move rfl rfl ?_
                              refine L_move rfl rfl ?_
                              refine L_move rfl rfl ?_
                              refine L_build rfl rfl (Pl.built Try.pl53 rfl) ?_
                              refine L_call rfl Try.fun16 rfl (held_ok aP P'.length cP P' ((k : Int) + 1, id) w (hbP'.slm hs (fun p hp => List.mem_append_left _ (List.mem_append_right _ (hRp p hp)))) rfl (by omega)) ?_
                              rintro _ w5 ⟨j0, rfl, hs', hF⟩
                              have hs2 := hs.nil hs'
                              clear hs hs'
                              have hs := hs2
                              clear hs2
                              obtain ⟨x9, hx9, rfl⟩ : ∃ x9 : Nat, x9 < P'.length ∧ j0 = (x9 : Int) := by
                                rcases hF with ⟨x9, hx9, h1, _⟩ | ⟨_, h⟩
                                · exact ⟨x9, hx9, h1⟩
                                · obtain ⟨x9, hx9, hxe⟩ := List.getElem_of_mem ((hPn ((k : Int) + 1, id)).2 hidn)
                                  exact absurd (by show P'.getD x9 (0, 0) = _; rw [List.getD_eq_getElem?_getD, List.getElem?_eq_getElem hx9]; exact hxe) (h x9 hx9)
                              by_cases hq0 : q = 0
                              · first | refine L_lss rfl rfl rfl (dtrue (by omega)) ?_ | refine L_lss rfl rfl rfl (dfalse (by omega)) ?_ | refine L_lss rfl rfl rfl rfl ?_
                                refine L_move rfl rfl ?_
                                first | (refine RL_want rfl rfl ?_; refine L_move rfl rfl ?_) | refine RL_skip rfl rfl rfl rfl ?_ | refine RL_skipU rfl rfl rfl ?_
                                first | (refine RL_want rfl rfl ?_; (first | refine L_gtr rfl rfl rfl (dtrue (by omega)) ?_ | refine L_gtr rfl rfl rfl (dfalse (by omega)) ?_ | refine L_gtr rfl rfl rfl rfl ?_)) | refine RL_skip rfl rfl rfl rfl ?_ | refine RL_skipU rfl rfl rfl ?_
                                first | (refine RL_want rfl rfl ?_; refine L_move rfl rfl ?_) | refine RL_skip rfl rfl rfl rfl ?_ | refine RL_skipU rfl rfl rfl ?_
                                first | (refine RL_want rfl rfl ?_; refine L_move rfl rfl ?_) | refine RL_skip rfl rfl rfl rfl ?_ | refine RL_skipU rfl rfl rfl ?_
                                first | (refine RL_want rfl rfl ?_; refine L_move rfl rfl ?_) | refine RL_skip rfl rfl rfl rfl ?_ | refine RL_skipU rfl rfl rfl ?_
                                first | (refine RL_want rfl rfl ?_; (first | refine L_sub rfl rfl rfl (wrp_i64 (by omega)) ?_ | refine L_sub rfl rfl rfl rfl ?_)) | refine RL_skip rfl rfl rfl rfl ?_ | refine RL_skipU rfl rfl rfl ?_
                                first | (refine RL_want rfl rfl ?_; refine L_idx1 rfl Try.underlying38 Try.ti3 rfl rfl (by with_reducible first | exact natc_k _ | exact natc_a1 _ | exact natc_0 | exact natc_1 | exact natc_2 | exact natc_s1 _ (by omega) | exact natc_a2 _ | exact natc_add _ _ | exact natc_mul _ _ | exact natc (by omega)) (by omega) rfl ?_) | refine RL_skip rfl rfl rfl rfl ?_ | refine RL_skipU rfl rfl rfl ?_
                                first | (refine RL_want rfl rfl ?_; refine L_load rfl Try.one3 rfl (by first | exact hs.cell (i := 0) rfl rfl) ?_) | refine RL_skip rfl rfl rfl rfl ?_ | refine RL_skipU rfl rfl rfl ?_
                                first | (refine RL_want rfl rfl ?_; refine L_move rfl rfl ?_) | refine RL_skip rfl rfl rfl rfl ?_ | refine RL_skipU rfl rfl rfl ?_
                                first | (refine RL_want rfl rfl ?_; (first | refine L_geq rfl rfl rfl (dtrue (by omega)) ?_ | refine L_geq rfl rfl rfl (dfalse (by omega)) ?_ | refine L_geq rfl rfl rfl rfl ?_)) | refine RL_skip rfl rfl rfl rfl ?_ | refine RL_skipU rfl rfl rfl ?_
                                first | (refine RL_want rfl rfl ?_; (first | refine L_pick_t rfl rfl rfl ?_ | refine L_pick_f rfl rfl rfl ?_)) | refine RL_skip rfl rfl rfl rfl ?_ | refine RL_skipU rfl rfl rfl ?_
                                first | refine L_pick_t rfl rfl rfl ?_ | refine L_pick_f rfl rfl rfl ?_
                                refine RL_nil' ?_
                                refine Nx_cutP (_) (is := [7, 9, 10, 15, 17, 26, 27, 28, 29, 31, 87, 88, 89, 197, 198, 199, 211, 212, 213, 236]) (I' := (fun (w : World) => (HS w0 w ((gbs B far A.v A.M A.gz.length m W3.es W3.ck A.gz ++ RR) ++ N4))) (_)) rfl rfl rfl ?_
                                exact hs
                              · obtain ⟨pv, hpv⟩ : ∃ pv, pv = ids.getD (q - 1) 0 := ⟨_, rfl⟩
                                have hpl : pv < id := by
                                  rw [hpv, hidv, List.getD_eq_getElem?_getD, List.getD_eq_getElem?_getD, List.getElem?_eq_getElem (show q - 1 < ids.length by omega), List.getElem?_eq_getElem (show q < ids.length by omega)]
                                  exact List.pairwise_iff_getElem.1 hilt (q - 1) q (by omega) (by omega) (by omega)
                                have h4p : (il ids)[q - 1]? = some (.int .i64 pv) := by rw [il_get (by omega), hpv]
                                have h4c2 : SlC w5 a4 (il ids) := hn4.slm hs (fun p hp => List.mem_append_right _ hp)
                                first | refine L_lss rfl rfl rfl (dtrue (by omega)) ?_ | refine L_lss rfl rfl rfl (dfalse (by omega)) ?_ | refine L_lss rfl rfl rfl rfl ?_
                                refine L_move rfl rfl ?_
                                first | (refine RL_want rfl rfl ?_; refine L_move rfl rfl ?_) | refine RL_skip rfl rfl rfl rfl ?_ | refine RL_skipU rfl rfl rfl ?_
                                first | (refine RL_want rfl rfl ?_; (first | refine L_gtr rfl rfl rfl (dtrue (by omega)) ?_ | refine L_gtr rfl rfl rfl (dfalse (by omega)) ?_ | refine L_gtr rfl rfl rfl rfl ?_)) | refine RL_skip rfl rfl rfl rfl ?_ | refine RL_skipU rfl rfl rfl ?_
                                first | (refine RL_want rfl rfl ?_; refine L_move rfl rfl ?_) | refine RL_skip rfl rfl rfl rfl ?_ | refine RL_skipU rfl rfl rfl ?_
                                first | (refine RL_want rfl rfl ?_; refine L_move rfl rfl ?_) | refine RL_skip rfl rfl rfl rfl ?_ | refine RL_skipU rfl rfl rfl ?_
                                first | (refine RL_want rfl rfl ?_; refine L_move rfl rfl ?_) | refine RL_skip rfl rfl rfl rfl ?_ | refine RL_skipU rfl rfl rfl ?_
                                first | (refine RL_want rfl rfl ?_; (first | refine L_sub rfl rfl rfl (wrp_i64 (by omega)) ?_ | refine L_sub rfl rfl rfl rfl ?_)) | refine RL_skip rfl rfl rfl rfl ?_ | refine RL_skipU rfl rfl rfl ?_
                                first | (refine RL_want rfl rfl ?_; refine L_idx1 rfl Try.underlying38 Try.ti3 rfl rfl (show ((q : Int) - 1) = ((q - 1 : Nat) : Int) by omega) (by omega) (h4c2.ao (by rw [il_length]; omega)) ?_) | refine RL_skip rfl rfl rfl rfl ?_ | refine RL_skipU rfl rfl rfl ?_
                                first | (refine RL_want rfl rfl ?_; refine L_load rfl Try.one3 rfl (by exact h4c2.get h4p) ?_) | refine RL_skip rfl rfl rfl rfl ?_ | refine RL_skipU rfl rfl rfl ?_
                                first | (refine RL_want rfl rfl ?_; refine L_move rfl rfl ?_) | refine RL_skip rfl rfl rfl rfl ?_ | refine RL_skipU rfl rfl rfl ?_
                                first | (refine RL_want rfl rfl ?_; (first | refine L_geq rfl rfl rfl (dtrue (by omega)) ?_ | refine L_geq rfl rfl rfl (dfalse (by omega)) ?_ | refine L_geq rfl rfl rfl rfl ?_)) | refine RL_skip rfl rfl rfl rfl ?_ | refine RL_skipU rfl rfl rfl ?_
                                first | (refine RL_want rfl rfl ?_; (first | refine L_pick_t rfl rfl rfl ?_ | refine L_pick_f rfl rfl rfl ?_)) | refine RL_skip rfl rfl rfl rfl ?_ | refine RL_skipU rfl rfl rfl ?_
                                first | refine L_pick_t rfl rfl rfl ?_ | refine L_pick_f rfl rfl rfl ?_
                                refine RL_nil' ?_
                                refine Nx_cutP (_) (is := [7, 9, 10, 15, 17, 26, 27, 28, 29, 31, 87, 88, 89, 197, 198, 199, 211, 212, 213, 236]) (I' := (fun (w : World) => (HS w0 w ((gbs B far A.v A.M A.gz.length m W3.es W3.ck A.gz ++ RR) ++ N4))) (_)) rfl rfl rfl ?_
                                exact hs
                            · clear hs
                              intro w hI
                              show W _ _ _ _ [(7, .pointer (some ⟨B, 0, none⟩)), (9, .slice A.an A.gz.length A.cn), (10, .slice A.ak A.gz.length A.ck), (15, .slice aP P'.length cP), (17, .pointer (some ⟨b17, 0, none⟩)), (26, .int .i64 (cntN W3.es ((numsN A.gz.length).take (k + 1)))), (27, .int .i64 k), (28, .int .i64 ((k : Int) + 1)), (29, .slice a4 ni c4), (31, .int .i64 id), (87, .slice b nl d), (88, .int .i64 nl), (89, .int .i64 i), (197, .slice A.an A.gz.length A.cn), (198, .int .i64 A.gz.length), (199, .int .i64 k), (211, .slice a4 ni c4), (212, .int .i64 ni), (213, .int .i64 q), (236, .bool false)] w
                              have hs := hI
                              clear hI
                              have hb17N : (b17, Row 46 l.cells) ∈ (gbs B far A.v A.M A.gz.length m W3.es W3.ck A.gz ++ RR) ++ N4 := List.mem_append_left _ (List.mem_append_right _ hRb)
                              refine W_if_false rfl ?_
                              refine W_skip' ?_
                              refine Nx_then ?_
                              refine W_seq ?_
                              refine W_region ?_
                              refine L_fieldAddr rfl (off := 1) Try.underlying46 rfl rfl Try.ti44 rfl ?_
                              refine L_load rfl Try.one44 rfl (by exact HS.cellM hs hb17N rfl) ?_
                              refine L_len rfl Try.underlying44 rfl ?_
                              refine L_move rfl rfl ?_
                              refine RL_then ?_
                              refine W_block ?_
                              refine W_loop2 (fun (r : Nat) (w : World) => [(7, .pointer (some ⟨B, 0, none⟩)), (9, .slice A.an A.gz.length A.cn), (10, .slice A.ak A.gz.length A.ck), (15, .slice aP P'.length cP), (17, .pointer (some ⟨b17, 0, none⟩)), (26, .int .i64 (cntN W3.es ((numsN A.gz.length).take (k + 1)))), (27, .int .i64 k), (28, .int .i64 ((k : Int) + 1)), (29, .slice a4 ni c4), (31, .int .i64 id), (87, .slice b nl d), (88, .int .i64 nl), (89, .int .i64 i), (197, .slice A.an A.gz.length A.cn), (198, .int .i64 A.gz.length), (199, .int .i64 k), (211, .slice a4 ni c4), (212, .int .i64 ni), (213, .int .i64 q), (238, .slice l.a l.ts.length l.c), (239, .int .i64 l.ts.length), (240, .int .i64 r)]) (fun (r : Nat) (w : World) => w) (fun (r : Nat) (w : World) => (r ≤ l.ts.length) ∧ (∀ r', r' < r → ¬ ((l.ts.getD r' tk0).id = id ∧ (l.ts.getD r' tk0).kind = 1)) ∧ (HS w0 w ((gbs B far A.v A.M A.gz.length m W3.es W3.ck A.gz ++ RR) ++ N4))) (fun (r : Nat) (w : World) => l.ts.length - r) (0) (_) (is := [7, 9, 10, 15, 17, 26, 27, 28, 29, 31, 87, 88, 89, 197, 198, 199, 211, 212, 213, 238, 239, 240]) rfl rfl ?_ ?_
                              · exact ⟨Nat.zero_le _, fun r' h => absurd h (Nat.not_lt_zero _), hs⟩
                              · clear hs
                                intro r w hI
                                show W _ _ _ _ [(7, .pointer (some ⟨B, 0, none⟩)), (9, .slice A.an A.gz.length A.cn), (10, .slice A.ak A.gz.length A.ck), (15, .slice aP P'.length cP), (17, .pointer (some ⟨b17, 0, none⟩)), (26, .int .i64 (cntN W3.es ((numsN A.gz.length).take (k + 1)))), (27, .int .i64 k), (28, .int .i64 ((k : Int) + 1)), (29, .slice a4 ni c4), (31, .int .i64 id), (87, .slice b nl d), (88, .int .i64 nl), (89, .int .i64 i), (197, .slice A.an A.gz.length A.cn), (198, .int .i64 A.gz.length), (199, .int .i64 k), (211, .slice a4 ni c4), (212, .int .i64 ni), (213, .int .i64 q), (238, .slice l.a l.ts.length l.c), (239, .int .i64 l.ts.length), (240, .int .i64 r)] w
                                obtain ⟨hr, hrn, hs⟩ := hI
                                by_cases hrt : r < l.ts.length
                                · refine W_seq ?_
                                  refine W_region ?_
                                  first | refine L_lss rfl rfl rfl (dtrue (by omega)) ?_ | refine L_lss rfl rfl rfl (dfalse (by omega)) ?_ | refine L_lss rfl rfl rfl rfl ?_
                                  refine RL_then ?_
                                  refine W_seq ?_
                                  refine W_if_true rfl ?_
                                  have hlc : SlC w l.a (tcs l.ts) := hla.old hs hoN
                                  obtain ⟨t, htd⟩ : ∃ t, t = l.ts.getD r tk0 := ⟨_, rfl⟩
                                  refine W_skip' ?_
                                  refine Nx_then ?_
                                  refine W_seq ?_
                                  refine W_block ?_
                                  refine W_seq ?_
                                  refine W_region ?_
                                  refine L_idxN rfl Try.underlying44 Try.ti60 rfl rfl (by with_reducible first | exact natc_k _ | exact natc_a1 _ | exact natc_0 | exact natc_1 | exact natc_2 | exact natc_s1 _ (by omega) | exact natc_a2 _ | exact natc_add _ _ | exact natc_mul _ _ | exact natc (by omega)) (by omega) (hlc.ao (by rw [tcs_len]; omega)) ?_
                                  refine L_loadA rfl Try.agg60 Try.ti60 rfl (by exact (by rw [htd]; exact tk_at hlc hrt : CellsAt w ((aD l.a).add (r * 15)) t.cells)) ?_
                                  refine L_alloc rfl hs Try.ti60 ?_; intro b33 w hb33 _ hs; replace hs := HS.push hs
                                  refine L_storeA hs (i := 0) rfl Try.ti60 rfl rfl (by first | rfl | exact add_lit0 _ _ | exact Addr.add_lit .. | (rw [add_add]; exact add_lit0 _ _)) (by simp [Tk.cells]) (by exact Tk.one _) ?_
                                  intro w hs
                                  try dsimp only [List.set_cons_succ, List.set_cons_zero, List.cons_append, List.nil_append] at hs
                                  refine RL_then ?_
                                  refine W_seq ?_
                                  replace hs : HS w0 w ((b33, Row 60 t.cells) :: ((gbs B far A.v A.M A.gz.length m W3.es W3.ck A.gz ++ RR) ++ N4)) := hs
                                  by_cases hm1 : t.id = id
                                  · by_cases hm2 : t.kind = 1
                                    · have hzk : A.gz.getD k zn0 ∈ A.gz := getD_mem hkt
                                      have hnow : isNow far (A.gz.getD k zn0).ps (firmE l.ts).1 id = 2 := by
                                        rw [← nowZ_at (far := far) (fe := (firmE l.ts).1) hnums hzk id, zs_get hZ.nums hkt, ← hnn]; exact hidn
                                      have hfst : mget id (firmE l.ts).1 = some t := by rw [htd]; exact firm_first hrt ⟨by rw [← htd]; exact hm1, by rw [← htd]; exact hm2⟩ hrn
                                      have hins : insF (A.kz.getD k az0).ps t.xx t.yx = true := by
                                        rw [← hZ.same k hkt]
                                        unfold isNow at hnow
                                        rw [hfst] at hnow
                                        have hnow : nowF far (A.gz.getD k zn0).ps t = 2 := hnow
                                        unfold nowF at hnow
                                        split at hnow
                                        · assumption
                                        · split at hnow <;> exact absurd hnow (by decide)
                                      have hkm : ∀ p ∈ A.Mk, p ∈ (b33, Row 60 t.cells) :: ((gbs B far A.v A.M A.gz.length m W3.es W3.ck A.gz ++ RR) ++ N4) := fun p hp => List.mem_cons_of_mem _ (List.mem_append_left _ (List.mem_append_right _ (hRk p hp)))
                                      have hkc : ∀ w1, HS w0 w1 ((b33, Row 60 t.cells) :: ((gbs B far A.v A.M A.gz.length m W3.es W3.ck A.gz ++ RR) ++ N4)) → CellsAt w1 ((aD A.ak).add (k * 2)) (A.kz.getD k az0).cells := fun w1 h => azs_at (hbk.slm h hkm) (by rw [hZ.len]; exact hkt)
                                      have hkd : ∀ w1, HS w0 w1 ((b33, Row 60 t.cells) :: ((gbs B far A.v A.M A.gz.length m W3.es W3.ck A.gz ++ RR) ++ N4)) → SlC w1 (A.kz.getD k az0).a (pcs (A.kz.getD k az0).ps) := fun w1 h => (hZ.at' k hkt).old h (Own.cons hb33 hoN)
                                      refine W_region ?_
                                      refine L_fieldAddr rfl (off := 0) Try.underlying60 rfl rfl Try.ti3 rfl ?_
                                      refine L_load rfl Try.one3 rfl (by exact hs.cell (i := 0) rfl rfl) ?_
                                      refine L_move rfl rfl ?_
                                      first | refine L_eql rfl rfl rfl (dtrue (by omega)) ?_ | refine L_eql rfl rfl rfl (dfalse (by omega)) ?_ | refine L_eql rfl rfl rfl rfl ?_
                                      refine L_move rfl rfl ?_
                                      first | (refine RL_want rfl rfl ?_; refine L_fieldAddr rfl (off := 1) Try.underlying60 rfl rfl Try.ti49 rfl ?_) | refine RL_skip rfl rfl rfl rfl ?_ | refine RL_skipU rfl rfl rfl ?_
                                      first | (refine RL_want rfl rfl ?_; refine L_load rfl Try.one49 rfl (by exact hs.cell (i := 0) rfl rfl) ?_) | refine RL_skip rfl rfl rfl rfl ?_ | refine RL_skipU rfl rfl rfl ?_
                                      first | (refine RL_want rfl rfl ?_; (first | refine L_eql rfl rfl rfl (dtrue (by omega)) ?_ | refine L_eql rfl rfl rfl (dfalse (by omega)) ?_ | refine L_eql rfl rfl rfl rfl ?_)) | refine RL_skip rfl rfl rfl rfl ?_ | refine RL_skipU rfl rfl rfl ?_
                                      first | refine L_pick_t rfl rfl rfl ?_ | refine L_pick_f rfl rfl rfl ?_
                                      refine RL_then ?_
                                      refine W_if_true rfl ?_
                                      refine W_seq ?_
                                      refine W_seq ?_
                                      refine W_pht [0, 1, 2, 3, 5, 6, 8, 9] [4, 7, 10, 11] [12, 13] (fun _ _ _ => False) Try.mixed (by kernel_rfl) (fun _ _ _ _ _ h => h) hs ?_
                                      refine PL_val rfl (fun w => R_move rfl) ?_
                                      refine PL_val rfl (fun w => R_move rfl) ?_
                                      refine PL_val rfl (fun w => R_idxN Try.underlying31 Try.ti40 rfl rfl (by with_reducible first | exact natc_k _ | exact natc_a1 _ | exact natc_0 | exact natc_1 | exact natc_2 | exact natc_s1 _ (by omega) | exact natc_a2 _ | exact natc_add _ _ | exact natc_mul _ _ | exact natc (by omega)) (by omega) ((hbk.slm hs hkm).ao (by rw [azs_len, hZ.len]; omega))) ?_
                                      refine PL_val rfl (fun w => R_fieldAddr (off := 1) Try.underlying40 rfl rfl Try.ti22 rfl) ?_
                                      refine PL_val rfl (fun w => R_fieldAddr (off := 2) Try.underlying60 rfl rfl Try.ti57 rfl) ?_
                                      refine PL_val rfl (fun w => R_fieldAddr (off := 0) Try.underlying57 rfl rfl Try.ti23 rfl) ?_
                                      refine PL_val rfl (fun w => R_fieldAddr (off := 7) Try.underlying60 rfl rfl Try.ti57 rfl) ?_
                                      refine PL_val rfl (fun w => R_fieldAddr (off := 0) Try.underlying57 rfl rfl Try.ti23 rfl) ?_
                                      refine PL_end ?_
                                      refine HL_val rfl (fun w hs => R_load Try.one22 rfl (by exact hkc _ hs 1 _ rfl)) ?_
                                      refine HL_val rfl (fun w hs => R_load Try.one23 rfl (by exact hs.cell (i := 0) (j := 2) rfl rfl)) ?_
                                      refine HL_val rfl (fun w hs => R_load Try.one23 rfl (by exact hs.cell (i := 0) (j := 7) rfl rfl)) ?_
                                      refine HL_val rfl (fun w hs => R_build rfl (Pl.built Try.pl25 rfl)) ?_
                                      refine HL_tail ?_
                                      intro w hs
                                      refine L_call rfl Try.fun18 rfl (within_ok (A.kz.getD k az0).a (A.kz.getD k az0).ps.length (A.kz.getD k az0).c (A.kz.getD k az0).ps t.xx t.yx _ (hkd _ hs) rfl) ?_
                                      rintro _ w6 ⟨rfl, hs'⟩
                                      rw [hins]
                                      have hs2 := hs.nil hs'
                                      clear hs hs'
                                      have hs := hs2
                                      clear hs2
                                      refine L_not rfl rfl ?_
                                      refine RL_then ?_
                                      refine W_if_false rfl ?_
                                      refine W_skip' ?_
                                      refine Nx_then ?_
                                      refine W_exit' ?_
                                      refine Ex_block_miss rfl ?_
                                      refine Ex_then_exit ?_
                                      refine Ex_loop_exit ?_
                                      refine Ex_block_hit ?_
                                      refine Nx_block ?_
                                      refine Nx_then ?_
                                      refine W_region ?_
                                      first | refine L_add rfl rfl rfl (wrp_i64 (by omega)) ?_ | refine L_add rfl rfl rfl rfl ?_
                                      refine L_move rfl rfl ?_
                                      refine RL_nil' ?_
                                      refine Nx_loopP (q + 1, _) (is := [7, 9, 10, 15, 17, 26, 27, 28, 29, 87, 88, 89, 197, 198, 199, 211, 212, 213]) (I' := (fun (q : Nat) (w : World) => (q ≤ ni) ∧ (HS w0 w ((gbs B far A.v A.M A.gz.length m W3.es W3.ck A.gz ++ RR) ++ N4))) (q + 1) (_)) rfl rfl rfl ?_ ?_
                                      · exact ⟨by omega, HS.pop hs hb33⟩
                                      · omega
                                    · refine W_region ?_
                                      refine L_fieldAddr rfl (off := 0) Try.underlying60 rfl rfl Try.ti3 rfl ?_
                                      refine L_load rfl Try.one3 rfl (by exact hs.cell (i := 0) rfl rfl) ?_
                                      refine L_move rfl rfl ?_
                                      first | refine L_eql rfl rfl rfl (dtrue (by omega)) ?_ | refine L_eql rfl rfl rfl (dfalse (by omega)) ?_ | refine L_eql rfl rfl rfl rfl ?_
                                      refine L_move rfl rfl ?_
                                      first | (refine RL_want rfl rfl ?_; refine L_fieldAddr rfl (off := 1) Try.underlying60 rfl rfl Try.ti49 rfl ?_) | refine RL_skip rfl rfl rfl rfl ?_ | refine RL_skipU rfl rfl rfl ?_
                                      first | (refine RL_want rfl rfl ?_; refine L_load rfl Try.one49 rfl (by exact hs.cell (i := 0) rfl rfl) ?_) | refine RL_skip rfl rfl rfl rfl ?_ | refine RL_skipU rfl rfl rfl ?_
                                      first | (refine RL_want rfl rfl ?_; (first | refine L_eql rfl rfl rfl (dtrue (by omega)) ?_ | refine L_eql rfl rfl rfl (dfalse (by omega)) ?_ | refine L_eql rfl rfl rfl rfl ?_)) | refine RL_skip rfl rfl rfl rfl ?_ | refine RL_skipU rfl rfl rfl ?_
                                      first | refine L_pick_t rfl rfl rfl ?_ | refine L_pick_f rfl rfl rfl ?_
                                      refine RL_then ?_
                                      refine W_if_false rfl ?_
                                      refine W_skip' ?_
                                      refine Nx_block ?_
                                      refine Nx_then ?_
                                      refine W_region ?_
                                      first | refine L_add rfl rfl rfl (wrp_i64 (by omega)) ?_ | refine L_add rfl rfl rfl rfl ?_
                                      refine L_move rfl rfl ?_
                                      refine RL_nil' ?_
                                      refine Nx_loopP (r + 1, _) (is := [7, 9, 10, 15, 17, 26, 27, 28, 29, 31, 87, 88, 89, 197, 198, 199, 211, 212, 213, 238, 239, 240]) (I' := (fun (r : Nat) (w : World) => (r ≤ l.ts.length) ∧ (∀ r', r' < r → ¬ ((l.ts.getD r' tk0).id = id ∧ (l.ts.getD r' tk0).kind = 1)) ∧ (HS w0 w ((gbs B far A.v A.M A.gz.length m W3.es W3.ck A.gz ++ RR) ++ N4))) (r + 1) (_)) rfl rfl rfl ?_ ?_
                                      · refine ⟨by omega, fun r' h9 => ?_, HS.pop hs hb33⟩
                                        by_cases hrr : r' = r
                                        · rw [hrr, ← htd]; exact fun h => hm2 h.2
                                        · exact hrn r' (by omega)
                                      · omega
                                  · refine W_region ?_
                                    refine L_fieldAddr rfl (off := 0) Try.underlying60 rfl rfl Try.ti3 rfl ?_
                                    refine L_load rfl Try.one3 rfl (by exact hs.cell (i := 0) rfl rfl) ?_
                                    refine L_move rfl rfl ?_
                                    first | refine L_eql rfl rfl rfl (dtrue (by omega)) ?_ | refine L_eql rfl rfl rfl (dfalse (by omega)) ?_ | refine L_eql rfl rfl rfl rfl ?_
                                    refine L_move rfl rfl ?_
                                    first | (refine RL_want rfl rfl ?_; refine L_fieldAddr rfl (off := 1) Try.underlying60 rfl rfl Try.ti49 rfl ?_) | refine RL_skip rfl rfl rfl rfl ?_ | refine RL_skipU rfl rfl rfl ?_
                                    first | (refine RL_want rfl rfl ?_; refine L_load rfl Try.one49 rfl (by exact hs.cell (i := 0) rfl rfl) ?_) | refine RL_skip rfl rfl rfl rfl ?_ | refine RL_skipU rfl rfl rfl ?_
                                    first | (refine RL_want rfl rfl ?_; (first | refine L_eql rfl rfl rfl (dtrue (by omega)) ?_ | refine L_eql rfl rfl rfl (dfalse (by omega)) ?_ | refine L_eql rfl rfl rfl rfl ?_)) | refine RL_skip rfl rfl rfl rfl ?_ | refine RL_skipU rfl rfl rfl ?_
                                    first | refine L_pick_t rfl rfl rfl ?_ | refine L_pick_f rfl rfl rfl ?_
                                    refine RL_then ?_
                                    refine W_if_false rfl ?_
                                    refine W_skip' ?_
                                    refine Nx_block ?_
                                    refine Nx_then ?_
                                    refine W_region ?_
                                    first | refine L_add rfl rfl rfl (wrp_i64 (by omega)) ?_ | refine L_add rfl rfl rfl rfl ?_
                                    refine L_move rfl rfl ?_
                                    refine RL_nil' ?_
                                    refine Nx_loopP (r + 1, _) (is := [7, 9, 10, 15, 17, 26, 27, 28, 29, 31, 87, 88, 89, 197, 198, 199, 211, 212, 213, 238, 239, 240]) (I' := (fun (r : Nat) (w : World) => (r ≤ l.ts.length) ∧ (∀ r', r' < r → ¬ ((l.ts.getD r' tk0).id = id ∧ (l.ts.getD r' tk0).kind = 1)) ∧ (HS w0 w ((gbs B far A.v A.M A.gz.length m W3.es W3.ck A.gz ++ RR) ++ N4))) (r + 1) (_)) rfl rfl rfl ?_ ?_
                                    · refine ⟨by omega, fun r' h9 => ?_, HS.pop hs hb33⟩
                                      by_cases hrr : r' = r
                                      · rw [hrr, ← htd]; exact fun h => hm1 h.1
                                      · exact hrn r' (by omega)
                                    · omega
                                · refine W_seq ?_
                                  refine W_region ?_
                                  first | refine L_lss rfl rfl rfl (dtrue (by omega)) ?_ | refine L_lss rfl rfl rfl (dfalse (by omega)) ?_ | refine L_lss rfl rfl rfl rfl ?_
                                  refine RL_then ?_
                                  refine W_seq ?_
                                  refine W_if_false rfl ?_
                                  refine W_exit' ?_
                                  refine Ex_then_exit ?_
                                  refine Ex_loop_exit ?_
                                  refine Ex_block_hit ?_
                                  refine Nx_block ?_
                                  refine Nx_then ?_
                                  refine W_region ?_
                                  first | refine L_add rfl rfl rfl (wrp_i64 (by omega)) ?_ | refine L_add rfl rfl rfl rfl ?_
                                  refine L_move rfl rfl ?_
                                  refine RL_nil' ?_
                                  refine Nx_loopP (q + 1, _) (is := [7, 9, 10, 15, 17, 26, 27, 28, 29, 87, 88, 89, 197, 198, 199, 211, 212, 213]) (I' := (fun (q : Nat) (w : World) => (q ≤ ni) ∧ (HS w0 w ((gbs B far A.v A.M A.gz.length m W3.es W3.ck A.gz ++ RR) ++ N4))) (q + 1) (_)) rfl rfl rfl ?_ ?_
                                  · exact ⟨by omega, hs⟩
                                  · omega
                          · refine W_seq ?_
                            refine W_region ?_
                            first | refine L_lss rfl rfl rfl (dtrue (by omega)) ?_ | refine L_lss rfl rfl rfl (dfalse (by omega)) ?_ | refine L_lss rfl rfl rfl rfl ?_
                            refine RL_then ?_
                            refine W_seq ?_
                            refine W_if_false rfl ?_
                            refine W_exit' ?_
                            refine Ex_then_exit ?_
                            refine Ex_loop_exit ?_
                            refine Ex_block_hit ?_
                            refine Nx_block ?_
                            refine Nx_then ?_
                            refine W_region ?_
                            first | refine L_add rfl rfl rfl (wrp_i64 (by omega)) ?_ | refine L_add rfl rfl rfl rfl ?_
                            refine L_move rfl rfl ?_
                            refine RL_nil' ?_
                            have hfin := HS.dropR hs hn4.own
                            refine Nx_loopP (k + 1, _) (is := [7, 9, 10, 15, 17, 26, 87, 88, 89, 197, 198, 199]) (I' := (fun (k : Nat) (w : World) => (k ≤ A.gz.length) ∧ (HS w0 w (gbs B far A.v A.M A.gz.length m W3.es W3.ck A.gz ++ RR))) (k + 1) (_)) rfl rfl rfl ?_ ?_
                            · exact ⟨by omega, hfin⟩
                            · omega
                      · obtain hkn : k = A.gz.length := by omega
                        have hall : cntN W3.es ((numsN A.gz.length).take k) = P'.length := by
                          rw [List.take_of_length_le (by rw [numsN_len]; omega)]
                          refine cntN_all hN3.map.keys (numsN_nodup _) hP' (fun p => by rw [hvn]; exact hPn p) fun p hp => ?_
                          obtain ⟨x, hx, hxp, _⟩ := val_ex (es := W3.es) (p := p) (by rw [hp]; decide)
                          obtain ⟨z, hz9, hzn⟩ := hZ3 x hx
                          rw [← hZ.nums, ← hxp, ← hzn]
                          exact List.mem_map.2 ⟨z, hz9, rfl⟩
                        rw [hall]
                        refine W_seq ?_
                        refine W_region ?_
                        first | refine L_lss rfl rfl rfl (dtrue (by omega)) ?_ | refine L_lss rfl rfl rfl (dfalse (by omega)) ?_ | refine L_lss rfl rfl rfl rfl ?_
                        refine RL_then ?_
                        refine W_seq ?_
                        refine W_if_false rfl ?_
                        refine W_exit' ?_
                        refine Ex_then_exit ?_
                        refine Ex_loop_exit ?_
                        refine Ex_block_hit ?_
                        refine Nx_then ?_
                        refine W_seq ?_
                        refine W_region ?_
                        refine L_move rfl rfl ?_
                        refine L_move rfl rfl ?_
                        refine L_len rfl Try.underlying43 rfl ?_
                        first | refine L_neq rfl rfl rfl (dtrue (by omega)) ?_ | refine L_neq rfl rfl rfl (dfalse (by omega)) ?_ | refine L_neq rfl rfl rfl rfl ?_
                        refine RL_then ?_
                        refine W_if_false rfl ?_
                        refine W_skip' ?_
                        refine Nx_block ?_
                        refine Nx_then ?_
                        refine W_region ?_
                        first | refine L_add rfl rfl rfl (wrp_i64 (by omega)) ?_ | refine L_add rfl rfl rfl rfl ?_
                        refine L_move rfl rfl ?_
                        refine RL_nil' ?_
                        have hfin : HS w0 w (gbs B far A.v A.M A.gz.length m W3.es W3.ck A.gz ++ ((A.Mn ++ A.Mk) ++ Mp')) := by
                          rw [hRR] at hs
                          refine HS.dropR (M := ((b17, Row 46 l.cells) :: (N1 ++ N2)) ++ (ML2 ++ N3)) ?_ ((Own.cons hb17 (hn1.own.app hn2.own)).app (hbL2.own.app hn3.own))
                          exact HS.re hs (fun c => by simp only [List.map_append, List.map_cons, List.map_nil, List.sum_append, List.sum_cons, List.sum_nil]; omega)
                        refine Nx_loopP (i + 1, W3.es, W3.ck, P', .slice aP P'.length cP, Mp', _) (is := [7, 9, 10, 15, 87, 88, 89]) (I' := (fun (i : Nat) (es : List KE) (ck : Nat) (P : List PP) (vP : Value) (Mp : Bks) (w : World) => (i ≤ nl) ∧ (VOk es) ∧ (∀ x ∈ es, ∃ z ∈ A.gz, z.num = x.1.1) ∧ (es.length ≤ 192 * tkS ls i) ∧ (P.Nodup) ∧ (∀ p, p ∈ P ↔ val es p = 2) ∧ (P.length ≤ i * 100000000) ∧ (Bl w0 53 2 vP P.length (prs P) Mp) ∧ (GOk w0 B A.v A.M m es ck A.gz) ∧ (HS w0 w (gbs B far A.v A.M A.gz.length m es ck A.gz ++ ((A.Mn ++ A.Mk) ++ Mp)))) (i + 1) (W3.es) (W3.ck) (P') (.slice aP P'.length cP) (Mp') (_)) rfl rfl rfl ?_ ?_
                        · exact ⟨by omega, hV3, hZ3, he3, hP', fun p => by rw [hvn]; exact hPn p, by omega, hbP', hN3, hfin⟩
                        · omega
          · refine W_seq ?_
            refine W_region ?_
            first | refine L_lss rfl rfl rfl (dtrue (by omega)) ?_ | refine L_lss rfl rfl rfl (dfalse (by omega)) ?_ | refine L_lss rfl rfl rfl rfl ?_
            refine RL_then ?_
            refine W_seq ?_
            refine W_if_false rfl ?_
            refine W_exit' ?_
            refine Ex_then_exit ?_
            refine Ex_loop_exit ?_
            refine Ex_block_hit ?_
            refine Nx_then ?_
            refine W_seq ?_
            refine W_region ?_
            refine L_assign rfl rfl ?_
            refine RL_then ?_
            refine W_ret' ?_
            refine Ex_done1 rfl rfl ?_
            exact ⟨_, rfl, rfl, hs.forget (hN.owns.app (hKo.app hbP.own))⟩
  · first | refine L_pick_t rfl rfl rfl ?_ | refine L_pick_f rfl rfl rfl ?_
    refine RL_then ?_
    refine W_if_true rfl ?_
    refine W_seq ?_
    refine W_region ?_
    refine L_call rfl Try.fun8 rfl (works_ok w2) ?_
    rintro _ w3 ⟨rfl, hs'⟩
    have hs2 := hs.nil hs'
    refine L_assign rfl rfl ?_
    refine RL_then ?_
    refine W_ret' ?_
    refine Ex_then_ret ?_
    refine Ex_done1 rfl rfl ?_
    exact ⟨_, rfl, rfl, hs2⟩
end Go.Proofs.Ytoiobncojfeoiaa
