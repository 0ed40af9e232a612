/-
  A part of the proof: what functions that the statement reaches do, or a plain law on what they do. Each theorem holds under its own premises alone.
-/
import Derived.Test.YtcfdmenmlemahaaTRE
namespace Go.Proofs.Ytcfdmenmlemahaa
open Go Go.Lk Go.Pr
theorem tight_ok (y : Ly) (n i j : Nat) (C : Nat → Nat → Int) (U V M R : List Int) (N : List (Nat × Obj)) (wb w0 : World) (hN : Own wb N) (hrd : RdS wb y n C) (hs0 : HS wb w0 (y.L U V M R ++ N)) (hi : i < n) (hj : j < n) (hUl : U.length = n) (hVl : V.length = n)
    (hbU : ∀ r, r < n → 0 ≤ gi U r ∧ gi U r ≤ BB) (hbV : ∀ j, j < n → -BB ≤ gi V j ∧ gi V j ≤ 0) :
    Ret Try.prog 33 [.pointer (some ⟨y.B, 0, none⟩), .int .i64 i, .int .i64 j] w0 fun v w' => v = .bool (decide (C i j = gi U i + gi V j)) ∧ HS wb w' (y.L U V M R ++ N) := by
  have hs := hs0
  obtain ⟨g1, cp1, hr1, hr2, hr3⟩ := hrd.row i hi
  have b2 : 0 ≤ U.getD i 0 ∧ U.getD i 0 ≤ 4503599627370496 := hbU i hi
  have b3 : -4503599627370496 ≤ V.getD j 0 ∧ V.getD j 0 ≤ 0 := hbV j hj
  refine calls_of_W Try.func33 rfl rfl rfl ?_
  by_cases hc : C i j = U.getD i 0 + V.getD j 0
  · refine W_seq ?_
    refine W_region ?_
    refine L_assign rfl rfl ?_
    refine RL_then ?_
    refine W_seq ?_
    refine W_pht [0, 1, 2, 4, 7, 10, 11, 12, 14, 17, 18, 19, 21] [3, 5, 6, 8, 9, 13, 15, 16, 20, 22, 23, 24, 25, 26] [] (fun _ _ _ => False) Try.mixed (chkAll_of (by kernel_rfl)) (fun _ _ _ _ _ h => h) hs ?_
    refine PL_val rfl (fun w => R_move rfl) ?_
    refine PL_val rfl (fun w => R_nilCheck rfl) ?_
    refine PL_val rfl (fun w => R_fieldAddr (off := 1) Try.underlying56 rfl rfl Try.ti22 rfl) ?_
    refine PL_val rfl (fun w => R_move rfl) ?_
    refine PL_val rfl (fun w => R_move rfl) ?_
    refine PL_val rfl (fun w => R_move rfl) ?_
    refine PL_val rfl (fun w => R_nilCheck rfl) ?_
    refine PL_val rfl (fun w => R_fieldAddr (off := 2) Try.underlying56 rfl rfl Try.ti38 rfl) ?_
    refine PL_val rfl (fun w => R_move rfl) ?_
    refine PL_val rfl (fun w => R_move rfl) ?_
    refine PL_val rfl (fun w => R_nilCheck rfl) ?_
    refine PL_val rfl (fun w => R_fieldAddr (off := 3) Try.underlying56 rfl rfl Try.ti38 rfl) ?_
    refine PL_val rfl (fun w => R_move rfl) ?_
    refine PL_end ?_
    refine HL_val rfl (fun w hs => R_load Try.one22 rfl (by first | exact RdS.at hs hN (hrd.bx rfl) hrd.nb | exact RdS.at hs hN hr1 hrd.nc | exact RdS.at hs hN (hr3 _ (by omega)) hr2 | exact hs.cellA (i := 0) rfl (il_get' (by omega)) | exact hs.cellA (i := 1) rfl (il_get' (by omega)))) ?_
    refine HL_val rfl (fun w hs => R_idx1 Try.underlying22 Try.ti38 rfl rfl (by with_reducible first | exact natc_k _ | exact natc_a1 _ | exact natc_0 | exact natc_1 | exact natc_2 | exact natc_s1 _ (by omega) | exact natc_a2 _ | exact natc_add _ _ | exact natc_mul _ _ | exact natc (by omega)) (by omega) rfl) ?_
    refine HL_val rfl (fun w hs => R_load Try.one38 rfl (by first | exact RdS.at hs hN (hrd.bx rfl) hrd.nb | exact RdS.at hs hN hr1 hrd.nc | exact RdS.at hs hN (hr3 _ (by omega)) hr2 | exact hs.cellA (i := 0) rfl (il_get' (by omega)) | exact hs.cellA (i := 1) rfl (il_get' (by omega)))) ?_
    refine HL_val rfl (fun w hs => R_idx1 Try.underlying38 Try.ti2 rfl rfl (by with_reducible first | exact natc_k _ | exact natc_a1 _ | exact natc_0 | exact natc_1 | exact natc_2 | exact natc_s1 _ (by omega) | exact natc_a2 _ | exact natc_add _ _ | exact natc_mul _ _ | exact natc (by omega)) (by omega) rfl) ?_
    refine HL_val rfl (fun w hs => R_load Try.one2 rfl (by first | exact RdS.at hs hN (hrd.bx rfl) hrd.nb | exact RdS.at hs hN hr1 hrd.nc | exact RdS.at hs hN (hr3 _ (by omega)) hr2 | exact hs.cellA (i := 0) rfl (il_get' (by omega)) | exact hs.cellA (i := 1) rfl (il_get' (by omega)))) ?_
    refine HL_val rfl (fun w hs => R_load Try.one38 rfl (by first | exact RdS.at hs hN (hrd.bx rfl) hrd.nb | exact RdS.at hs hN hr1 hrd.nc | exact RdS.at hs hN (hr3 _ (by omega)) hr2 | exact hs.cellA (i := 0) rfl (il_get' (by omega)) | exact hs.cellA (i := 1) rfl (il_get' (by omega)))) ?_
    refine HL_val rfl (fun w hs => R_idx1 Try.underlying38 Try.ti2 rfl rfl (by with_reducible first | exact natc_k _ | exact natc_a1 _ | exact natc_0 | exact natc_1 | exact natc_2 | exact natc_s1 _ (by omega) | exact natc_a2 _ | exact natc_add _ _ | exact natc_mul _ _ | exact natc (by omega)) (by omega) rfl) ?_
    refine HL_val rfl (fun w hs => R_load Try.one2 rfl (by first | exact RdS.at hs hN (hrd.bx rfl) hrd.nb | exact RdS.at hs hN hr1 hrd.nc | exact RdS.at hs hN (hr3 _ (by omega)) hr2 | exact hs.cellA (i := 0) rfl (il_get' (by omega)) | exact hs.cellA (i := 1) rfl (il_get' (by omega)))) ?_
    refine HL_val rfl (fun w hs => R_load Try.one38 rfl (by first | exact RdS.at hs hN (hrd.bx rfl) hrd.nb | exact RdS.at hs hN hr1 hrd.nc | exact RdS.at hs hN (hr3 _ (by omega)) hr2 | exact hs.cellA (i := 0) rfl (il_get' (by omega)) | exact hs.cellA (i := 1) rfl (il_get' (by omega)))) ?_
    refine HL_val rfl (fun w hs => R_idx1 Try.underlying38 Try.ti2 rfl rfl (by with_reducible first | exact natc_k _ | exact natc_a1 _ | exact natc_0 | exact natc_1 | exact natc_2 | exact natc_s1 _ (by omega) | exact natc_a2 _ | exact natc_add _ _ | exact natc_mul _ _ | exact natc (by omega)) (by omega) rfl) ?_
    refine HL_val rfl (fun w hs => R_load Try.one2 rfl (by first | exact RdS.at hs hN (hrd.bx rfl) hrd.nb | exact RdS.at hs hN hr1 hrd.nc | exact RdS.at hs hN (hr3 _ (by omega)) hr2 | exact hs.cellA (i := 0) rfl (il_get' (by omega)) | exact hs.cellA (i := 1) rfl (il_get' (by omega)))) ?_
    first | refine HL_val rfl (fun w hs => R_add rfl rfl (wrp_i64 (by omega))) ?_ | refine HL_val rfl (fun w hs => R_add rfl rfl rfl) ?_
    first | refine HL_val rfl (fun w hs => R_eql rfl rfl (dtrue (by omega))) ?_ | refine HL_val rfl (fun w hs => R_eql rfl rfl (dfalse (by omega))) ?_ | refine HL_val rfl (fun w hs => R_eql rfl rfl rfl) ?_
    refine HL_val rfl (fun w hs => R_assign rfl) ?_
    refine HL_tail ?_
    intro w hs
    refine RL_then ?_
    refine W_ret' ?_
    refine Ex_done1 rfl rfl ?_
    exact ⟨_, rfl, by rw [decide_eq_true hc], hs⟩
  · refine W_seq ?_
    refine W_region ?_
    refine L_assign rfl rfl ?_
    refine RL_then ?_
    refine W_seq ?_
    refine W_pht [0, 1, 2, 4, 7, 10, 11, 12, 14, 17, 18, 19, 21] [3, 5, 6, 8, 9, 13, 15, 16, 20, 22, 23, 24, 25, 26] [] (fun _ _ _ => False) Try.mixed (chkAll_of (by kernel_rfl)) (fun _ _ _ _ _ h => h) hs ?_
    refine PL_val rfl (fun w => R_move rfl) ?_
    refine PL_val rfl (fun w => R_nilCheck rfl) ?_
    refine PL_val rfl (fun w => R_fieldAddr (off := 1) Try.underlying56 rfl rfl Try.ti22 rfl) ?_
    refine PL_val rfl (fun w => R_move rfl) ?_
    refine PL_val rfl (fun w => R_move rfl) ?_
    refine PL_val rfl (fun w => R_move rfl) ?_
    refine PL_val rfl (fun w => R_nilCheck rfl) ?_
    refine PL_val rfl (fun w => R_fieldAddr (off := 2) Try.underlying56 rfl rfl Try.ti38 rfl) ?_
    refine PL_val rfl (fun w => R_move rfl) ?_
    refine PL_val rfl (fun w => R_move rfl) ?_
    refine PL_val rfl (fun w => R_nilCheck rfl) ?_
    refine PL_val rfl (fun w => R_fieldAddr (off := 3) Try.underlying56 rfl rfl Try.ti38 rfl) ?_
    refine PL_val rfl (fun w => R_move rfl) ?_
    refine PL_end ?_
    refine HL_val rfl (fun w hs => R_load Try.one22 rfl (by first | exact RdS.at hs hN (hrd.bx rfl) hrd.nb | exact RdS.at hs hN hr1 hrd.nc | exact RdS.at hs hN (hr3 _ (by omega)) hr2 | exact hs.cellA (i := 0) rfl (il_get' (by omega)) | exact hs.cellA (i := 1) rfl (il_get' (by omega)))) ?_
    refine HL_val rfl (fun w hs => R_idx1 Try.underlying22 Try.ti38 rfl rfl (by with_reducible first | exact natc_k _ | exact natc_a1 _ | exact natc_0 | exact natc_1 | exact natc_2 | exact natc_s1 _ (by omega) | exact natc_a2 _ | exact natc_add _ _ | exact natc_mul _ _ | exact natc (by omega)) (by omega) rfl) ?_
    refine HL_val rfl (fun w hs => R_load Try.one38 rfl (by first | exact RdS.at hs hN (hrd.bx rfl) hrd.nb | exact RdS.at hs hN hr1 hrd.nc | exact RdS.at hs hN (hr3 _ (by omega)) hr2 | exact hs.cellA (i := 0) rfl (il_get' (by omega)) | exact hs.cellA (i := 1) rfl (il_get' (by omega)))) ?_
    refine HL_val rfl (fun w hs => R_idx1 Try.underlying38 Try.ti2 rfl rfl (by with_reducible first | exact natc_k _ | exact natc_a1 _ | exact natc_0 | exact natc_1 | exact natc_2 | exact natc_s1 _ (by omega) | exact natc_a2 _ | exact natc_add _ _ | exact natc_mul _ _ | exact natc (by omega)) (by omega) rfl) ?_
    refine HL_val rfl (fun w hs => R_load Try.one2 rfl (by first | exact RdS.at hs hN (hrd.bx rfl) hrd.nb | exact RdS.at hs hN hr1 hrd.nc | exact RdS.at hs hN (hr3 _ (by omega)) hr2 | exact hs.cellA (i := 0) rfl (il_get' (by omega)) | exact hs.cellA (i := 1) rfl (il_get' (by omega)))) ?_
    refine HL_val rfl (fun w hs => R_load Try.one38 rfl (by first | exact RdS.at hs hN (hrd.bx rfl) hrd.nb | exact RdS.at hs hN hr1 hrd.nc | exact RdS.at hs hN (hr3 _ (by omega)) hr2 | exact hs.cellA (i := 0) rfl (il_get' (by omega)) | exact hs.cellA (i := 1) rfl (il_get' (by omega)))) ?_
    refine HL_val rfl (fun w hs => R_idx1 Try.underlying38 Try.ti2 rfl rfl (by with_reducible first | exact natc_k _ | exact natc_a1 _ | exact natc_0 | exact natc_1 | exact natc_2 | exact natc_s1 _ (by omega) | exact natc_a2 _ | exact natc_add _ _ | exact natc_mul _ _ | exact natc (by omega)) (by omega) rfl) ?_
    refine HL_val rfl (fun w hs => R_load Try.one2 rfl (by first | exact RdS.at hs hN (hrd.bx rfl) hrd.nb | exact RdS.at hs hN hr1 hrd.nc | exact RdS.at hs hN (hr3 _ (by omega)) hr2 | exact hs.cellA (i := 0) rfl (il_get' (by omega)) | exact hs.cellA (i := 1) rfl (il_get' (by omega)))) ?_
    refine HL_val rfl (fun w hs => R_load Try.one38 rfl (by first | exact RdS.at hs hN (hrd.bx rfl) hrd.nb | exact RdS.at hs hN hr1 hrd.nc | exact RdS.at hs hN (hr3 _ (by omega)) hr2 | exact hs.cellA (i := 0) rfl (il_get' (by omega)) | exact hs.cellA (i := 1) rfl (il_get' (by omega)))) ?_
    refine HL_val rfl (fun w hs => R_idx1 Try.underlying38 Try.ti2 rfl rfl (by with_reducible first | exact natc_k _ | exact natc_a1 _ | exact natc_0 | exact natc_1 | exact natc_2 | exact natc_s1 _ (by omega) | exact natc_a2 _ | exact natc_add _ _ | exact natc_mul _ _ | exact natc (by omega)) (by omega) rfl) ?_
    refine HL_val rfl (fun w hs => R_load Try.one2 rfl (by first | exact RdS.at hs hN (hrd.bx rfl) hrd.nb | exact RdS.at hs hN hr1 hrd.nc | exact RdS.at hs hN (hr3 _ (by omega)) hr2 | exact hs.cellA (i := 0) rfl (il_get' (by omega)) | exact hs.cellA (i := 1) rfl (il_get' (by omega)))) ?_
    first | refine HL_val rfl (fun w hs => R_add rfl rfl (wrp_i64 (by omega))) ?_ | refine HL_val rfl (fun w hs => R_add rfl rfl rfl) ?_
    first | refine HL_val rfl (fun w hs => R_eql rfl rfl (dtrue (by omega))) ?_ | refine HL_val rfl (fun w hs => R_eql rfl rfl (dfalse (by omega))) ?_ | refine HL_val rfl (fun w hs => R_eql rfl rfl rfl) ?_
    refine HL_val rfl (fun w hs => R_assign rfl) ?_
    refine HL_tail ?_
    intro w hs
    refine RL_then ?_
    refine W_ret' ?_
    refine Ex_done1 rfl rfl ?_
    exact ⟨_, rfl, by rw [decide_eq_false hc], hs⟩
def Cl (n : Nat) (C : Nat → Nat → Int) (U V : Nat → Int) (of has : Nat → Nat) (i goal : Nat) (S S' : List Bool) : Prop :=
  ∀ q, q < n → gbo S' q = true → gbo S q = false → ∀ m, m < n → C q m = U q + V m → m ≠ has q → m ≠ goal ∧ (gbo S' (of m) = true ∨ of m ≤ i)
structure Sub (n i : Nat) (S S' : List Bool) : Prop where
  len : S'.length = n
  sub : ∀ q, gbo S q = true → gbo S' q = true
  low : ∀ q, gbo S' q = true → i < q
  cnt : S'.count false ≤ S.count false
theorem Sub.trans {n i : Nat} {S S' S'' : List Bool} (h : Sub n i S S') (h' : Sub n i S' S'') : Sub n i S S'' := ⟨h'.len, fun q hq => h'.sub q (h.sub q hq), h'.low, Nat.le_trans h'.cnt h.cnt⟩
theorem Cl.trans {n : Nat} {C : Nat → Nat → Int} {U V : Nat → Int} {of has : Nat → Nat} {i goal : Nat} {S S' S'' : List Bool} (h : Cl n C U V of has i goal S S') (h' : Cl n C U V of has i goal S' S'') (hs : Sub n i S' S'') : Cl n C U V of has i goal S S'' := fun q hq h1 h2 m hm ht hne => by
  cases h3 : gbo S' q with
  | true =>
    obtain ⟨h4, h5⟩ := h q hq h3 h2 m hm ht hne
    exact ⟨h4, h5.imp (hs.sub _) id⟩
  | false => exact h' q hq h1 h3 m hm ht hne
theorem Rot.re {n : Nat} {C : Nat → Nat → Int} {U V : Nat → Int} {i : Nat} {of0 has0 of has : Nat → Nat} {R R' : Nat → Prop} {pos pos' : Nat → Nat} {m : Nat} (h : Rot n C U V i of0 has0 R pos of has m) (hk : ∀ k, k < n → R' k → pos' k < pos' m → of k = of0 k) : Rot n C U V i of0 has0 R' pos' of has m :=
  ⟨h.oh, h.ho, h.tight, hk, h.low⟩
/-- Row r moves from its column to a free one. -/
theorem Rot.move {n : Nat} {C : Nat → Nat → Int} {U V : Nat → Int} {i : Nat} {of0 has0 of has of' has' : Nat → Nat} {R : Nat → Prop} {pos : Nat → Nat} {m r : Nat} (hP : Pf n C U V of0 has0) (h : Rot n C U V i of0 has0 R pos of has m) (hm : m < n) (hr : r < n) (hir : i < r) (hne : m ≠ has0 r) (hkeep : of (has0 r) = r) (ht : C r m = U r + V m)
    (h1 : of' m = r) (h2 : ∀ c, c ≠ m → of' c = of c) (h3 : has' r = m) (h4 : ∀ q, q ≠ r → has' q = has q) : Rot n C U V i of0 has0 (fun _ => False) (fun _ => 0) of' has' (has0 r) := by
  have e0 := (hP.ho r hr).2
  have hR : Rot n C U V i of0 has0 (fun c => c = has0 r) (fun c => if c = has0 r then 0 else 1) of has m := Rot.re h fun k _ hk _ => by rw [hk, hkeep, e0]
  have := hR.step (k := has0 r) (of' := of') (has' := has') hm (hP.ho r hr).1 rfl (by simp [hne]) (by rw [e0]; exact hir) (by rw [e0]; exact ht) (by rw [hkeep]; exact h1) h2 (by rw [hkeep]; exact h3) (by rw [hkeep]; exact h4)
  exact Rot.re this fun _ _ hk => absurd hk (fun h => h)
def AwayR (y : Ly) (n : Nat) (C : Nat → Nat → Int) (U V M R : List Int) (gs i : Nat) (S : List Bool) (r : Nat) (wb : World) (v : Value) (w' : World) : Prop :=
  (v = .bool false ∧ ∃ S', HS wb w' (y.L U V M R ++ [(gs, Row 4 (bls S'))]) ∧ Sub n i S S' ∧ (gbo S' r = true ∨ r ≤ i) ∧ Cl n C (gi U) (gi V) (toN R) (toN M) i (toN M i) S S') ∨
  (v = .bool true ∧ ∃ S' M' R', HS wb w' (y.L U V M' R' ++ [(gs, Row 4 (bls S'))]) ∧ InR n M' ∧ InR n R' ∧ gbo S r = false ∧ Rot n C (gi U) (gi V) i (toN R) (toN M) (fun _ => False) (fun _ => 0) (toN R') (toN M') (toN M r) ∧ ∀ c, c < n → gbo S (toN R c) = true → toN R' c = toN R c)
theorem count_set_true {S : List Bool} {r : Nat} (hr : r < S.length) (h : S.getD r false = false) : (S.set r true).count false + 1 = S.count false := by
  have h1 : S[r] = false := by simpa [List.getD, hr] using h
  rw [List.count_set hr, h1]
  have h2 : 0 < S.count false := List.count_pos_iff.2 (h1 ▸ List.getElem_mem hr)
  simp; omega
section
variable {y : Ly} {n i gs : Nat} {C : Nat → Nat → Int} {U V M R : List Int} {wb : World}
set_option maxHeartbeats 8000000 in
theorem away_ok (hgs : wb.heap.size ≤ gs) (hrd : RdS wb y n C) (hn2 : n ≤ 512) (hi : i < n) (hUl : U.length = n) (hVl : V.length = n) (hM : InR n M) (hR : InR n R)
    (hbU : ∀ r, r < n → 0 ≤ gi U r ∧ gi U r ≤ BB) (hbV : ∀ j, j < n → -BB ≤ gi V j ∧ gi V j ≤ 0) (hPf : Pf n C (gi U) (gi V) (toN R) (toN M)) (goal : Nat) (hgoal : goal = toN M i) :
    ∀ (f : Nat) (S : List Bool) (r : Nat) (w0 : World), S.count false ≤ f → S.length = n → (∀ q, gbo S q = true → i < q) → r < n → HS wb w0 (y.L U V M R ++ [(gs, Row 4 (bls S))]) →
    Ret Try.prog 34 [.pointer (some ⟨y.B, 0, none⟩), .int .i64 r, .int .i64 goal, .int .i64 i, .slice (some ⟨gs, 0, none⟩) n n] w0 (AwayR y n C U V M R gs i S r wb) := by
  have hO : ∀ {S : List Bool}, Own wb [(gs, Row 4 (bls S))] := Own.cons hgs Own.nil
  have hMl := hM.len
  have hRl := hR.len
  intro f
  induction f with
  | zero =>
    intro S r w0 hcnt hSl hlow hr hs
    have hSr : S.getD r false = true := by
      cases h : S.getD r false with
      | true => rfl
      | false => have := count_set_true (by omega) h; omega
    have hxr : (bls S)[r]? = some (.bool true) := by rw [← hSr]; exact bls_get (by omega)
    refine calls_of_W Try.func34 rfl rfl rfl ?_
    refine W_seq ?_
    refine W_region ?_
    refine L_assign rfl rfl ?_
    refine RL_then ?_
    refine W_seq ?_
    refine W_seq ?_
    refine W_region ?_
    refine L_move rfl rfl ?_
    refine L_move rfl rfl ?_
    refine L_idx1 rfl Try.underlying31 Try.ti4 rfl rfl (by with_reducible first | exact natc_k _ | exact natc_a1 _ | exact natc_0 | exact natc_1 | exact natc_2 | exact natc_s1 _ (by omega) | exact natc_a2 _ | exact natc_add _ _ | exact natc_mul _ _ | exact natc (by omega)) (by omega) rfl ?_
    refine L_load rfl Try.one4 rfl (by exact hs.cellA (i := 4) rfl hxr) ?_
    refine L_move rfl rfl ?_
    first | (refine RL_want rfl rfl ?_; refine L_move rfl rfl ?_) | refine RL_skip rfl rfl rfl rfl ?_ | refine RL_skipU rfl rfl rfl ?_
    first | (refine RL_want rfl rfl ?_; refine L_move rfl rfl ?_) | refine RL_skip rfl rfl rfl rfl ?_ | refine RL_skipU rfl rfl rfl ?_
    first | (refine RL_want rfl rfl ?_; (first | refine L_leq rfl rfl rfl (dtrue (by omega)) ?_ | refine L_leq rfl rfl rfl (dfalse (by omega)) ?_ | refine L_leq rfl rfl rfl rfl ?_)) | refine RL_skip rfl rfl rfl rfl ?_ | refine RL_skipU rfl rfl rfl ?_
    first | refine L_pick_t rfl rfl rfl ?_ | refine L_pick_f rfl rfl rfl ?_
    refine RL_then ?_
    refine W_if_true rfl ?_
    refine W_seq ?_
    refine W_region ?_
    refine L_assign rfl rfl ?_
    refine RL_then ?_
    refine W_ret' ?_
    refine Ex_then_ret ?_
    refine Ex_done1 rfl rfl ?_
    exact ⟨_, rfl, .inl ⟨rfl, S, hs, ⟨hSl, fun _ h => h, hlow, Nat.le_refl _⟩, .inl hSr, fun q _ h1 h2 => by rw [h1] at h2; cases h2⟩⟩
  | succ f IH =>
    intro S r w0 hcnt hSl hlow hr hs
    refine calls_of_W Try.func34 rfl rfl rfl ?_
    cases hSr : S.getD r false
    · have hxr : (bls S)[r]? = some (.bool false) := by rw [← hSr]; exact bls_get (by omega)
      by_cases hri : r ≤ i
      · refine W_seq ?_
        refine W_region ?_
        refine L_assign rfl rfl ?_
        refine RL_then ?_
        refine W_seq ?_
        refine W_seq ?_
        refine W_region ?_
        refine L_move rfl rfl ?_
        refine L_move rfl rfl ?_
        refine L_idx1 rfl Try.underlying31 Try.ti4 rfl rfl (by with_reducible first | exact natc_k _ | exact natc_a1 _ | exact natc_0 | exact natc_1 | exact natc_2 | exact natc_s1 _ (by omega) | exact natc_a2 _ | exact natc_add _ _ | exact natc_mul _ _ | exact natc (by omega)) (by omega) rfl ?_
        refine L_load rfl Try.one4 rfl (by exact hs.cellA (i := 4) rfl hxr) ?_
        refine L_move rfl rfl ?_
        first | (refine RL_want rfl rfl ?_; refine L_move rfl rfl ?_) | refine RL_skip rfl rfl rfl rfl ?_ | refine RL_skipU rfl rfl rfl ?_
        first | (refine RL_want rfl rfl ?_; refine L_move rfl rfl ?_) | refine RL_skip rfl rfl rfl rfl ?_ | refine RL_skipU rfl rfl rfl ?_
        first | (refine RL_want rfl rfl ?_; (first | refine L_leq rfl rfl rfl (dtrue (by omega)) ?_ | refine L_leq rfl rfl rfl (dfalse (by omega)) ?_ | refine L_leq rfl rfl rfl rfl ?_)) | refine RL_skip rfl rfl rfl rfl ?_ | refine RL_skipU rfl rfl rfl ?_
        first | refine L_pick_t rfl rfl rfl ?_ | refine L_pick_f rfl rfl rfl ?_
        refine RL_then ?_
        refine W_if_true rfl ?_
        refine W_seq ?_
        refine W_region ?_
        refine L_assign rfl rfl ?_
        refine RL_then ?_
        refine W_ret' ?_
        refine Ex_then_ret ?_
        refine Ex_done1 rfl rfl ?_
        exact ⟨_, rfl, .inl ⟨rfl, S, hs, ⟨hSl, fun _ h => h, hlow, Nat.le_refl _⟩, .inr hri, fun q _ h1 h2 => by rw [h1] at h2; cases h2⟩⟩
      · skip
        refine W_seq ?_
        refine W_region ?_
        refine L_assign rfl rfl ?_
        refine RL_then ?_
        refine W_seq ?_
        refine W_seq ?_
        refine W_region ?_
        refine L_move rfl rfl ?_
        refine L_move rfl rfl ?_
        refine L_idx1 rfl Try.underlying31 Try.ti4 rfl rfl (by with_reducible first | exact natc_k _ | exact natc_a1 _ | exact natc_0 | exact natc_1 | exact natc_2 | exact natc_s1 _ (by omega) | exact natc_a2 _ | exact natc_add _ _ | exact natc_mul _ _ | exact natc (by omega)) (by omega) rfl ?_
        refine L_load rfl Try.one4 rfl (by exact hs.cellA (i := 4) rfl hxr) ?_
        refine L_move rfl rfl ?_
        first | (refine RL_want rfl rfl ?_; refine L_move rfl rfl ?_) | refine RL_skip rfl rfl rfl rfl ?_ | refine RL_skipU rfl rfl rfl ?_
        first | (refine RL_want rfl rfl ?_; refine L_move rfl rfl ?_) | refine RL_skip rfl rfl rfl rfl ?_ | refine RL_skipU rfl rfl rfl ?_
        first | (refine RL_want rfl rfl ?_; (first | refine L_leq rfl rfl rfl (dtrue (by omega)) ?_ | refine L_leq rfl rfl rfl (dfalse (by omega)) ?_ | refine L_leq rfl rfl rfl rfl ?_)) | refine RL_skip rfl rfl rfl rfl ?_ | refine RL_skipU rfl rfl rfl ?_
        first | refine L_pick_t rfl rfl rfl ?_ | refine L_pick_f rfl rfl rfl ?_
        refine RL_then ?_
        refine W_if_false rfl ?_
        refine W_skip' ?_
        refine Nx_then ?_
        refine W_seq ?_
        refine W_region ?_
        refine L_move rfl rfl ?_
        refine L_move rfl rfl ?_
        refine L_idx1 rfl Try.underlying31 Try.ti4 rfl rfl (by with_reducible first | exact natc_k _ | exact natc_a1 _ | exact natc_0 | exact natc_1 | exact natc_2 | exact natc_s1 _ (by omega) | exact natc_a2 _ | exact natc_add _ _ | exact natc_mul _ _ | exact natc (by omega)) (by omega) rfl ?_
        refine L_store hs (i := 4) rfl Try.ti4 rfl rfl (by first | rfl | exact add_lit0 _ _ | exact Addr.add_lit ..) (by first | omega | (simp; done) | (simp; omega)) rfl ?_
        intro w hs
        try dsimp only [List.set_cons_succ, List.set_cons_zero, List.cons_append, List.nil_append] at hs
        refine RL_then ?_
        refine W_seq ?_
        refine W_seq ?_
        refine W_region ?_
        refine L_assign rfl rfl ?_
        refine RL_then ?_
        refine W_block ?_
        rw [bls_set] at hs
        have hc1 := count_set_true (S := S) (by omega) hSr
        have hg1 : ∀ q, gbo (S.set r true) q = if q = r then true else gbo S q := fun q => gset (by omega) q
        have hS1 : Sub n i S (S.set r true) := ⟨by simp [hSl], fun q hq => by rw [hg1]; split; rfl; exact hq, fun q hq => by rw [hg1] at hq; split at hq; omega; exact hlow q hq, by omega⟩
        obtain ⟨S1, hS1e⟩ : ∃ S1, S1 = S.set r true := ⟨_, rfl⟩
        rw [← hS1e] at hs hc1 hg1 hS1
        obtain ⟨hme, hmn⟩ := hM.nat hr
        refine W_loop3 (fun (j : Nat) (S2 : List Bool) (w : World) => [(0, .pointer (some ⟨y.B, 0, none⟩)), (1, .int .i64 r), (2, .int .i64 goal), (3, .int .i64 i), (4, .slice (some ⟨gs, 0, none⟩) n n), (11, .int .i64 j)]) (fun (j : Nat) (S2 : List Bool) (w : World) => w) (fun (j : Nat) (S2 : List Bool) (w : World) => (j ≤ n) ∧ (Sub n i S1 S2) ∧ (Cl n C (gi U) (gi V) (toN R) (toN M) i (toN M i) S1 S2) ∧ (∀ m, m < j → C r m = gi U r + gi V m → m ≠ toN M r → m ≠ toN M i ∧ (gbo S2 (toN R m) = true ∨ toN R m ≤ i)) ∧ (HS wb w (y.L U V M R ++ [(gs, Row 4 (bls S2))]))) (fun (j : Nat) (S2 : List Bool) (w : World) => n - j) (0) (S1) (w) (is := [0, 1, 2, 3, 4, 11]) rfl rfl ?_ ?_
        · exact ⟨Nat.zero_le _, ⟨hS1.len, fun _ h => h, hS1.low, Nat.le_refl _⟩, fun q _ h1 h2 => (by rw [h1] at h2; cases h2), fun _ h => absurd h (Nat.not_lt_zero _), hs⟩
        · clear hs
          intro j S2 w hI
          show W _ _ _ _ [(0, .pointer (some ⟨y.B, 0, none⟩)), (1, .int .i64 r), (2, .int .i64 goal), (3, .int .i64 i), (4, .slice (some ⟨gs, 0, none⟩) n n), (11, .int .i64 j)] w
          obtain ⟨hj, hS2, hCl, hrow, hs⟩ := hI
          by_cases hlt : j < n
          · obtain ⟨hRe, hRn⟩ := hR.nat hlt
            refine W_seq ?_
            refine W_seq ?_
            refine W_region ?_
            refine L_move rfl rfl ?_
            refine L_move rfl rfl ?_
            refine L_nilCheck rfl rfl ?_
            refine L_fieldAddr rfl (off := 0) Try.underlying56 rfl rfl Try.ti3 rfl ?_
            refine L_load rfl Try.one3 rfl (by first | exact RdS.at hs hO (hrd.bx rfl) hrd.nb | exact hs.cellA (i := 2) rfl (il_get' (by omega)) | exact hs.cellA (i := 3) rfl (il_get' (by omega))) ?_
            first | refine L_lss rfl rfl rfl (dtrue (by omega)) ?_ | refine L_lss rfl rfl rfl (dfalse (by omega)) ?_ | refine L_lss rfl rfl rfl rfl ?_
            refine RL_then ?_
            refine W_if_true rfl ?_
            refine W_skip' ?_
            refine Nx_then ?_
            refine W_seq ?_
            refine W_block ?_
            refine W_seq ?_
            refine W_seq ?_
            refine W_region ?_
            refine L_move rfl rfl ?_
            refine L_move rfl rfl ?_
            refine L_move rfl rfl ?_
            refine L_call rfl Try.fun33 rfl (tight_ok y n r j C U V M R _ wb w hO hrd hs hr hlt hUl hVl hbU hbV) ?_
            rintro _ w1 ⟨rfl, hs⟩
            by_cases htt : C r j = gi U r + gi V j
            · rw [decide_eq_true htt]
              by_cases hjm : j = toN M r
              · refine L_not rfl rfl ?_
                refine L_move rfl rfl ?_
                first | (refine RL_want rfl rfl ?_; refine L_move rfl rfl ?_) | refine RL_skip rfl rfl rfl rfl ?_ | refine RL_skipU rfl rfl rfl ?_
                first | (refine RL_want rfl rfl ?_; refine L_move rfl rfl ?_) | refine RL_skip rfl rfl rfl rfl ?_ | refine RL_skipU rfl rfl rfl ?_
                first | (refine RL_want rfl rfl ?_; refine L_nilCheck rfl rfl ?_) | refine RL_skip rfl rfl rfl rfl ?_ | refine RL_skipU rfl rfl rfl ?_
                first | (refine RL_want rfl rfl ?_; refine L_fieldAddr rfl (off := 4) Try.underlying56 rfl rfl Try.ti25 rfl ?_) | refine RL_skip rfl rfl rfl rfl ?_ | refine RL_skipU rfl rfl rfl ?_
                first | (refine RL_want rfl rfl ?_; refine L_load rfl Try.one25 rfl (by first | exact RdS.at hs hO (hrd.bx rfl) hrd.nb | exact hs.cellA (i := 2) rfl (il_get' (by omega)) | exact hs.cellA (i := 3) rfl (il_get' (by omega))) ?_) | refine RL_skip rfl rfl rfl rfl ?_ | refine RL_skipU rfl rfl rfl ?_
                first | (refine RL_want rfl rfl ?_; refine L_move rfl rfl ?_) | refine RL_skip rfl rfl rfl rfl ?_ | refine RL_skipU rfl rfl rfl ?_
                first | (refine RL_want rfl rfl ?_; refine L_idx1 rfl Try.underlying25 Try.ti3 rfl rfl (by with_reducible first | exact natc_k _ | exact natc_a1 _ | exact natc_0 | exact natc_1 | exact natc_2 | exact natc_s1 _ (by omega) | exact natc_a2 _ | exact natc_add _ _ | exact natc_mul _ _ | exact natc (by omega)) (by omega) rfl ?_) | refine RL_skip rfl rfl rfl rfl ?_ | refine RL_skipU rfl rfl rfl ?_
                first | (refine RL_want rfl rfl ?_; refine L_load rfl Try.one3 rfl (by first | exact RdS.at hs hO (hrd.bx rfl) hrd.nb | exact hs.cellA (i := 2) rfl (il_get' (by omega)) | exact hs.cellA (i := 3) rfl (il_get' (by omega))) ?_) | refine RL_skip rfl rfl rfl rfl ?_ | refine RL_skipU rfl rfl rfl ?_
                rw [hme]
                first | (refine RL_want rfl rfl ?_; (first | refine L_eql rfl rfl rfl (dtrue (by omega)) ?_ | refine L_eql rfl rfl rfl (dfalse (by omega)) ?_ | refine L_eql rfl rfl rfl rfl ?_)) | refine RL_skip rfl rfl rfl rfl ?_ | refine RL_skipU rfl rfl rfl ?_
                first | refine L_pick_t rfl rfl rfl ?_ | refine L_pick_f rfl rfl rfl ?_
                refine RL_then ?_
                refine W_if_true rfl ?_
                refine W_exit' ?_
                refine Ex_then_exit ?_
                refine Ex_block_hit ?_
                refine Nx_then ?_
                refine W_region ?_
                refine L_move rfl rfl ?_
                first | refine L_add rfl rfl rfl (wrp_i64 (by omega)) ?_ | refine L_add rfl rfl rfl rfl ?_
                refine L_assign rfl rfl ?_
                refine RL_nil' ?_
                refine Nx_loopP (j + 1, S2, w1) (is := [0, 1, 2, 3, 4, 11]) (I' := (fun (j : Nat) (S2 : List Bool) (w : World) => (j ≤ n) ∧ (Sub n i S1 S2) ∧ (Cl n C (gi U) (gi V) (toN R) (toN M) i (toN M i) S1 S2) ∧ (∀ m, m < j → C r m = gi U r + gi V m → m ≠ toN M r → m ≠ toN M i ∧ (gbo S2 (toN R m) = true ∨ toN R m ≤ i)) ∧ (HS wb w (y.L U V M R ++ [(gs, Row 4 (bls S2))]))) (j + 1) (S2) (w1)) rfl rfl rfl ?_ ?_
                · refine ⟨by omega, hS2, hCl, fun m hm ht hne => ?_, hs⟩
                  exact hrow m (by omega) ht hne
                · omega
              · refine L_not rfl rfl ?_
                refine L_move rfl rfl ?_
                first | (refine RL_want rfl rfl ?_; refine L_move rfl rfl ?_) | refine RL_skip rfl rfl rfl rfl ?_ | refine RL_skipU rfl rfl rfl ?_
                first | (refine RL_want rfl rfl ?_; refine L_move rfl rfl ?_) | refine RL_skip rfl rfl rfl rfl ?_ | refine RL_skipU rfl rfl rfl ?_
                first | (refine RL_want rfl rfl ?_; refine L_nilCheck rfl rfl ?_) | refine RL_skip rfl rfl rfl rfl ?_ | refine RL_skipU rfl rfl rfl ?_
                first | (refine RL_want rfl rfl ?_; refine L_fieldAddr rfl (off := 4) Try.underlying56 rfl rfl Try.ti25 rfl ?_) | refine RL_skip rfl rfl rfl rfl ?_ | refine RL_skipU rfl rfl rfl ?_
                first | (refine RL_want rfl rfl ?_; refine L_load rfl Try.one25 rfl (by first | exact RdS.at hs hO (hrd.bx rfl) hrd.nb | exact hs.cellA (i := 2) rfl (il_get' (by omega)) | exact hs.cellA (i := 3) rfl (il_get' (by omega))) ?_) | refine RL_skip rfl rfl rfl rfl ?_ | refine RL_skipU rfl rfl rfl ?_
                first | (refine RL_want rfl rfl ?_; refine L_move rfl rfl ?_) | refine RL_skip rfl rfl rfl rfl ?_ | refine RL_skipU rfl rfl rfl ?_
                first | (refine RL_want rfl rfl ?_; refine L_idx1 rfl Try.underlying25 Try.ti3 rfl rfl (by with_reducible first | exact natc_k _ | exact natc_a1 _ | exact natc_0 | exact natc_1 | exact natc_2 | exact natc_s1 _ (by omega) | exact natc_a2 _ | exact natc_add _ _ | exact natc_mul _ _ | exact natc (by omega)) (by omega) rfl ?_) | refine RL_skip rfl rfl rfl rfl ?_ | refine RL_skipU rfl rfl rfl ?_
                first | (refine RL_want rfl rfl ?_; refine L_load rfl Try.one3 rfl (by first | exact RdS.at hs hO (hrd.bx rfl) hrd.nb | exact hs.cellA (i := 2) rfl (il_get' (by omega)) | exact hs.cellA (i := 3) rfl (il_get' (by omega))) ?_) | refine RL_skip rfl rfl rfl rfl ?_ | refine RL_skipU rfl rfl rfl ?_
                rw [hme]
                first | (refine RL_want rfl rfl ?_; (first | refine L_eql rfl rfl rfl (dtrue (by omega)) ?_ | refine L_eql rfl rfl rfl (dfalse (by omega)) ?_ | refine L_eql rfl rfl rfl rfl ?_)) | refine RL_skip rfl rfl rfl rfl ?_ | refine RL_skipU rfl rfl rfl ?_
                first | refine L_pick_t rfl rfl rfl ?_ | refine L_pick_f rfl rfl rfl ?_
                refine RL_then ?_
                refine W_if_false rfl ?_
                by_cases hjg : j = goal
                · have hRot := hPf.rot hi (R := fun _ => False) (pos := fun _ => 0)
                  rw [← hgoal, ← hjg] at hRot
                  obtain ⟨q1, q2, q3⟩ := hM.set hr hlt
                  obtain ⟨o1, o2, o3⟩ := hR.set hlt hr
                  have hmv := Rot.move hPf hRot hlt hr (by omega) hjm (hPf.ho r hr).2 htt o2 o3 q2 q3
                  refine W_skip' ?_
                  refine Nx_then ?_
                  refine W_seq ?_
                  refine W_region ?_
                  refine L_move rfl rfl ?_
                  refine L_move rfl rfl ?_
                  first | refine L_eql rfl rfl rfl (dtrue (by omega)) ?_ | refine L_eql rfl rfl rfl (dfalse (by omega)) ?_ | refine L_eql rfl rfl rfl rfl ?_
                  refine L_assign rfl rfl ?_
                  refine RL_then ?_
                  refine W_seq ?_
                  refine W_seq ?_
                  refine W_region ?_
                  refine L_move rfl rfl ?_
                  refine L_not rfl rfl ?_
                  refine RL_then ?_
                  refine W_if_false rfl ?_
                  refine W_skip' ?_
                  refine Nx_then ?_
                  refine W_seq ?_
                  refine W_region ?_
                  refine L_move rfl rfl ?_
                  refine RL_then ?_
                  refine W_if_true rfl ?_
                  refine W_seq ?_
                  refine W_region ?_
                  refine L_move rfl rfl ?_
                  refine L_nilCheck rfl rfl ?_
                  refine L_fieldAddr rfl (off := 4) Try.underlying56 rfl rfl Try.ti25 rfl ?_
                  refine L_load rfl Try.one25 rfl (by first | exact RdS.at hs hO (hrd.bx rfl) hrd.nb | exact hs.cellA (i := 2) rfl (il_get' (by omega)) | exact hs.cellA (i := 3) rfl (il_get' (by omega))) ?_
                  refine L_move rfl rfl ?_
                  refine L_move rfl rfl ?_
                  refine L_idx1 rfl Try.underlying25 Try.ti3 rfl rfl (by with_reducible first | exact natc_k _ | exact natc_a1 _ | exact natc_0 | exact natc_1 | exact natc_2 | exact natc_s1 _ (by omega) | exact natc_a2 _ | exact natc_add _ _ | exact natc_mul _ _ | exact natc (by omega)) (by omega) rfl ?_
                  refine L_store hs (i := 2) rfl Try.ti3 rfl rfl (by first | rfl | exact add_lit0 _ _ | exact Addr.add_lit ..) (by simp; omega) rfl ?_
                  intro w hs
                  try dsimp only [List.set_cons_succ, List.set_cons_zero, List.cons_append, List.nil_append] at hs
                  refine RL_then ?_
                  refine W_seq ?_
                  refine W_region ?_
                  rw [il_set' _ _ _ _ (by omega)] at hs
                  refine L_move rfl rfl ?_
                  refine L_nilCheck rfl rfl ?_
                  refine L_fieldAddr rfl (off := 5) Try.underlying56 rfl rfl Try.ti25 rfl ?_
                  refine L_load rfl Try.one25 rfl (by first | exact RdS.at hs hO (hrd.bx rfl) hrd.nb | exact hs.cellA (i := 2) rfl (il_get' (by omega)) | exact hs.cellA (i := 3) rfl (il_get' (by omega))) ?_
                  refine L_move rfl rfl ?_
                  refine L_move rfl rfl ?_
                  refine L_idx1 rfl Try.underlying25 Try.ti3 rfl rfl (by with_reducible first | exact natc_k _ | exact natc_a1 _ | exact natc_0 | exact natc_1 | exact natc_2 | exact natc_s1 _ (by omega) | exact natc_a2 _ | exact natc_add _ _ | exact natc_mul _ _ | exact natc (by omega)) (by omega) rfl ?_
                  refine L_store hs (i := 3) rfl Try.ti3 rfl rfl (by first | rfl | exact add_lit0 _ _ | exact Addr.add_lit ..) (by simp; omega) rfl ?_
                  intro w hs
                  try dsimp only [List.set_cons_succ, List.set_cons_zero, List.cons_append, List.nil_append] at hs
                  refine RL_then ?_
                  refine W_seq ?_
                  refine W_region ?_
                  refine L_assign rfl rfl ?_
                  refine RL_then ?_
                  refine W_ret' ?_
                  refine Ex_block_ret ?_
                  refine Ex_then_ret ?_
                  refine Ex_loop_ret ?_
                  refine Ex_block_ret ?_
                  refine Ex_then_ret ?_
                  refine Ex_done1 rfl rfl ?_
                  rw [il_set' _ _ _ _ (by omega)] at hs
                  refine ⟨_, rfl, .inr ⟨rfl, S2, M.set r (j : Int), R.set j (r : Int), hs, q1, o1, hSr, hmv, fun c hc hSc => ?_⟩⟩
                  refine o3 c fun hcj => ?_
                  have h5 : toN R c = i := by rw [hcj, hjg, hgoal]; exact (hPf.ho i hi).2
                  rw [h5] at hSc
                  exact absurd (hlow i hSc) (Nat.lt_irrefl i)
                · refine W_skip' ?_
                  refine Nx_then ?_
                  refine W_seq ?_
                  refine W_region ?_
                  refine L_move rfl rfl ?_
                  refine L_move rfl rfl ?_
                  first | refine L_eql rfl rfl rfl (dtrue (by omega)) ?_ | refine L_eql rfl rfl rfl (dfalse (by omega)) ?_ | refine L_eql rfl rfl rfl rfl ?_
                  refine L_assign rfl rfl ?_
                  refine RL_then ?_
                  refine W_seq ?_
                  refine W_seq ?_
                  refine W_region ?_
                  refine L_move rfl rfl ?_
                  refine L_not rfl rfl ?_
                  refine RL_then ?_
                  refine W_if_true rfl ?_
                  refine W_region ?_
                  refine L_move rfl rfl ?_
                  refine L_move rfl rfl ?_
                  refine L_nilCheck rfl rfl ?_
                  refine L_fieldAddr rfl (off := 5) Try.underlying56 rfl rfl Try.ti25 rfl ?_
                  refine L_load rfl Try.one25 rfl (by first | exact RdS.at hs hO (hrd.bx rfl) hrd.nb | exact hs.cellA (i := 2) rfl (il_get' (by omega)) | exact hs.cellA (i := 3) rfl (il_get' (by omega))) ?_
                  refine L_move rfl rfl ?_
                  refine L_idx1 rfl Try.underlying25 Try.ti3 rfl rfl (by with_reducible first | exact natc_k _ | exact natc_a1 _ | exact natc_0 | exact natc_1 | exact natc_2 | exact natc_s1 _ (by omega) | exact natc_a2 _ | exact natc_add _ _ | exact natc_mul _ _ | exact natc (by omega)) (by omega) rfl ?_
                  refine L_load rfl Try.one3 rfl (by first | exact RdS.at hs hO (hrd.bx rfl) hrd.nb | exact hs.cellA (i := 2) rfl (il_get' (by omega)) | exact hs.cellA (i := 3) rfl (il_get' (by omega))) ?_
                  refine L_move rfl rfl ?_
                  refine L_move rfl rfl ?_
                  refine L_move rfl rfl ?_
                  rw [hRe]
                  refine L_call rfl Try.fun34 rfl (IH S2 (toN R j) w1 (by have := hS2.cnt; omega) hS2.len hS2.low hRn hs) ?_
                  rintro _ w2 (⟨rfl, S3, hs, hS3, hS3r, hCl3⟩ | ⟨rfl, S3, M3, R3, hs, hM3, hR3, hn3, hRot3, hk3⟩)
                  · refine L_assign rfl rfl ?_
                    refine RL_then ?_
                    refine W_seq ?_
                    refine W_region ?_
                    refine L_move rfl rfl ?_
                    refine RL_then ?_
                    refine W_if_false rfl ?_
                    refine W_skip' ?_
                    refine Nx_block ?_
                    refine Nx_then ?_
                    refine W_region ?_
                    refine L_move rfl rfl ?_
                    first | refine L_add rfl rfl rfl (wrp_i64 (by omega)) ?_ | refine L_add rfl rfl rfl rfl ?_
                    refine L_assign rfl rfl ?_
                    refine RL_nil' ?_
                    refine Nx_loopP (j + 1, S3, w2) (is := [0, 1, 2, 3, 4, 11]) (I' := (fun (j : Nat) (S2 : List Bool) (w : World) => (j ≤ n) ∧ (Sub n i S1 S2) ∧ (Cl n C (gi U) (gi V) (toN R) (toN M) i (toN M i) S1 S2) ∧ (∀ m, m < j → C r m = gi U r + gi V m → m ≠ toN M r → m ≠ toN M i ∧ (gbo S2 (toN R m) = true ∨ toN R m ≤ i)) ∧ (HS wb w (y.L U V M R ++ [(gs, Row 4 (bls S2))]))) (j + 1) (S3) (w2)) rfl rfl rfl ?_ ?_
                    · refine ⟨by omega, hS2.trans hS3, hCl.trans hCl3 hS3, fun m hm ht hne => ?_, hs⟩
                      by_cases hmj : m = j
                      · rw [hmj]; exact ⟨by rw [← hgoal]; exact hjg, hS3r⟩
                      · obtain ⟨h5, h6⟩ := hrow m (by omega) ht hne
                        exact ⟨h5, h6.imp (hS3.sub _) id⟩
                    · omega
                  · have hM3l := hM3.len
                    have hR3l := hR3.len
                    obtain ⟨q1, q2, q3⟩ := hM3.set hr hlt
                    obtain ⟨o1, o2, o3⟩ := hR3.set hlt hr
                    have e1 : toN M (toN R j) = j := (hPf.oh j hlt).2
                    rw [e1] at hRot3
                    have hS2r : gbo S2 r = true := hS2.sub r (by rw [hg1, if_pos rfl])
                    have e2 : toN R (toN M r) = r := (hPf.ho r hr).2
                    have hmv := Rot.move hPf hRot3 hlt hr (by omega) hjm (by rw [hk3 _ hmn (by rw [e2]; exact hS2r), e2]) htt o2 o3 q2 q3
                    refine L_assign rfl rfl ?_
                    refine RL_then ?_
                    refine W_seq ?_
                    refine W_region ?_
                    refine L_move rfl rfl ?_
                    refine RL_then ?_
                    refine W_if_true rfl ?_
                    refine W_seq ?_
                    refine W_region ?_
                    refine L_move rfl rfl ?_
                    refine L_nilCheck rfl rfl ?_
                    refine L_fieldAddr rfl (off := 4) Try.underlying56 rfl rfl Try.ti25 rfl ?_
                    refine L_load rfl Try.one25 rfl (by first | exact RdS.at hs hO (hrd.bx rfl) hrd.nb | exact hs.cellA (i := 2) rfl (il_get' (by omega)) | exact hs.cellA (i := 3) rfl (il_get' (by omega))) ?_
                    refine L_move rfl rfl ?_
                    refine L_move rfl rfl ?_
                    refine L_idx1 rfl Try.underlying25 Try.ti3 rfl rfl (by with_reducible first | exact natc_k _ | exact natc_a1 _ | exact natc_0 | exact natc_1 | exact natc_2 | exact natc_s1 _ (by omega) | exact natc_a2 _ | exact natc_add _ _ | exact natc_mul _ _ | exact natc (by omega)) (by omega) rfl ?_
                    refine L_store hs (i := 2) rfl Try.ti3 rfl rfl (by first | rfl | exact add_lit0 _ _ | exact Addr.add_lit ..) (by simp; omega) rfl ?_
                    intro w hs
                    try dsimp only [List.set_cons_succ, List.set_cons_zero, List.cons_append, List.nil_append] at hs
                    refine RL_then ?_
                    refine W_seq ?_
                    refine W_region ?_
                    rw [il_set' _ _ _ _ (by omega)] at hs
                    refine L_move rfl rfl ?_
                    refine L_nilCheck rfl rfl ?_
                    refine L_fieldAddr rfl (off := 5) Try.underlying56 rfl rfl Try.ti25 rfl ?_
                    refine L_load rfl Try.one25 rfl (by first | exact RdS.at hs hO (hrd.bx rfl) hrd.nb | exact hs.cellA (i := 2) rfl (il_get' (by omega)) | exact hs.cellA (i := 3) rfl (il_get' (by omega))) ?_
                    refine L_move rfl rfl ?_
                    refine L_move rfl rfl ?_
                    refine L_idx1 rfl Try.underlying25 Try.ti3 rfl rfl (by with_reducible first | exact natc_k _ | exact natc_a1 _ | exact natc_0 | exact natc_1 | exact natc_2 | exact natc_s1 _ (by omega) | exact natc_a2 _ | exact natc_add _ _ | exact natc_mul _ _ | exact natc (by omega)) (by omega) rfl ?_
                    refine L_store hs (i := 3) rfl Try.ti3 rfl rfl (by first | rfl | exact add_lit0 _ _ | exact Addr.add_lit ..) (by simp; omega) rfl ?_
                    intro w hs
                    try dsimp only [List.set_cons_succ, List.set_cons_zero, List.cons_append, List.nil_append] at hs
                    refine RL_then ?_
                    refine W_seq ?_
                    refine W_region ?_
                    refine L_assign rfl rfl ?_
                    refine RL_then ?_
                    refine W_ret' ?_
                    refine Ex_block_ret ?_
                    refine Ex_then_ret ?_
                    refine Ex_loop_ret ?_
                    refine Ex_block_ret ?_
                    refine Ex_then_ret ?_
                    refine Ex_done1 rfl rfl ?_
                    rw [il_set' _ _ _ _ (by omega)] at hs
                    refine ⟨_, rfl, .inr ⟨rfl, S3, M3.set r (j : Int), R3.set j (r : Int), hs, q1, o1, hSr, hmv, fun c hc hSc => ?_⟩⟩
                    have hSc2 : gbo S2 (toN R c) = true := hS2.sub _ (by rw [hg1]; split; rfl; exact hSc)
                    have hcj : c ≠ j := fun hcj => by rw [hcj, hn3] at hSc2; cases hSc2
                    rw [o3 c hcj]
                    exact hk3 c hc hSc2
            · rw [decide_eq_false htt]
              refine L_not rfl rfl ?_
              refine L_move rfl rfl ?_
              first | (refine RL_want rfl rfl ?_; refine L_move rfl rfl ?_) | refine RL_skip rfl rfl rfl rfl ?_ | refine RL_skipU rfl rfl rfl ?_
              first | (refine RL_want rfl rfl ?_; refine L_move rfl rfl ?_) | refine RL_skip rfl rfl rfl rfl ?_ | refine RL_skipU rfl rfl rfl ?_
              first | (refine RL_want rfl rfl ?_; refine L_nilCheck rfl rfl ?_) | refine RL_skip rfl rfl rfl rfl ?_ | refine RL_skipU rfl rfl rfl ?_
              first | (refine RL_want rfl rfl ?_; refine L_fieldAddr rfl (off := 4) Try.underlying56 rfl rfl Try.ti25 rfl ?_) | refine RL_skip rfl rfl rfl rfl ?_ | refine RL_skipU rfl rfl rfl ?_
              first | (refine RL_want rfl rfl ?_; refine L_load rfl Try.one25 rfl (by first | exact RdS.at hs hO (hrd.bx rfl) hrd.nb | exact hs.cellA (i := 2) rfl (il_get' (by omega)) | exact hs.cellA (i := 3) rfl (il_get' (by omega))) ?_) | refine RL_skip rfl rfl rfl rfl ?_ | refine RL_skipU rfl rfl rfl ?_
              first | (refine RL_want rfl rfl ?_; refine L_move rfl rfl ?_) | refine RL_skip rfl rfl rfl rfl ?_ | refine RL_skipU rfl rfl rfl ?_
              first | (refine RL_want rfl rfl ?_; refine L_idx1 rfl Try.underlying25 Try.ti3 rfl rfl (by with_reducible first | exact natc_k _ | exact natc_a1 _ | exact natc_0 | exact natc_1 | exact natc_2 | exact natc_s1 _ (by omega) | exact natc_a2 _ | exact natc_add _ _ | exact natc_mul _ _ | exact natc (by omega)) (by omega) rfl ?_) | refine RL_skip rfl rfl rfl rfl ?_ | refine RL_skipU rfl rfl rfl ?_
              first | (refine RL_want rfl rfl ?_; refine L_load rfl Try.one3 rfl (by first | exact RdS.at hs hO (hrd.bx rfl) hrd.nb | exact hs.cellA (i := 2) rfl (il_get' (by omega)) | exact hs.cellA (i := 3) rfl (il_get' (by omega))) ?_) | refine RL_skip rfl rfl rfl rfl ?_ | refine RL_skipU rfl rfl rfl ?_
              first | (refine RL_want rfl rfl ?_; (first | refine L_eql rfl rfl rfl (dtrue (by omega)) ?_ | refine L_eql rfl rfl rfl (dfalse (by omega)) ?_ | refine L_eql rfl rfl rfl rfl ?_)) | refine RL_skip rfl rfl rfl rfl ?_ | refine RL_skipU rfl rfl rfl ?_
              first | refine L_pick_t rfl rfl rfl ?_ | refine L_pick_f rfl rfl rfl ?_
              refine RL_then ?_
              refine W_if_true rfl ?_
              refine W_exit' ?_
              refine Ex_then_exit ?_
              refine Ex_block_hit ?_
              refine Nx_then ?_
              refine W_region ?_
              refine L_move rfl rfl ?_
              first | refine L_add rfl rfl rfl (wrp_i64 (by omega)) ?_ | refine L_add rfl rfl rfl rfl ?_
              refine L_assign rfl rfl ?_
              refine RL_nil' ?_
              refine Nx_loopP (j + 1, S2, w1) (is := [0, 1, 2, 3, 4, 11]) (I' := (fun (j : Nat) (S2 : List Bool) (w : World) => (j ≤ n) ∧ (Sub n i S1 S2) ∧ (Cl n C (gi U) (gi V) (toN R) (toN M) i (toN M i) S1 S2) ∧ (∀ m, m < j → C r m = gi U r + gi V m → m ≠ toN M r → m ≠ toN M i ∧ (gbo S2 (toN R m) = true ∨ toN R m ≤ i)) ∧ (HS wb w (y.L U V M R ++ [(gs, Row 4 (bls S2))]))) (j + 1) (S2) (w1)) rfl rfl rfl ?_ ?_
              · refine ⟨by omega, hS2, hCl, fun m hm ht hne => ?_, hs⟩
                have hmj : m ≠ j := fun he => htt (he ▸ ht)
                exact hrow m (by omega) ht hne
              · omega
          · obtain rfl : n = j := by omega
            refine W_seq ?_
            refine W_seq ?_
            refine W_region ?_
            refine L_move rfl rfl ?_
            refine L_move rfl rfl ?_
            refine L_nilCheck rfl rfl ?_
            refine L_fieldAddr rfl (off := 0) Try.underlying56 rfl rfl Try.ti3 rfl ?_
            refine L_load rfl Try.one3 rfl (by first | exact RdS.at hs hO (hrd.bx rfl) hrd.nb | exact hs.cellA (i := 2) rfl (il_get' (by omega)) | exact hs.cellA (i := 3) rfl (il_get' (by omega))) ?_
            first | refine L_lss rfl rfl rfl (dtrue (by omega)) ?_ | refine L_lss rfl rfl rfl (dfalse (by omega)) ?_ | refine L_lss rfl rfl rfl rfl ?_
            refine RL_then ?_
            refine W_if_false rfl ?_
            refine W_exit' ?_
            refine Ex_then_exit ?_
            refine Ex_loop_exit ?_
            refine Ex_block_hit ?_
            refine Nx_then ?_
            refine W_seq ?_
            refine W_region ?_
            refine L_assign rfl rfl ?_
            refine RL_then ?_
            refine W_ret' ?_
            refine Ex_done1 rfl rfl ?_
            refine ⟨_, rfl, .inl ⟨rfl, S2, hs, hS1.trans hS2, .inl (hS2.sub r (by rw [hg1, if_pos rfl])), fun q hq h1 h2 m hm ht hne => ?_⟩⟩
            by_cases hqr : q = r
            · rw [hqr] at ht hne; exact hrow m hm ht hne
            · exact hCl q hq h1 (by rw [hg1, if_neg hqr]; exact h2) m hm ht hne
    · have hxr : (bls S)[r]? = some (.bool true) := by rw [← hSr]; exact bls_get (by omega)
      refine W_seq ?_
      refine W_region ?_
      refine L_assign rfl rfl ?_
      refine RL_then ?_
      refine W_seq ?_
      refine W_seq ?_
      refine W_region ?_
      refine L_move rfl rfl ?_
      refine L_move rfl rfl ?_
      refine L_idx1 rfl Try.underlying31 Try.ti4 rfl rfl (by with_reducible first | exact natc_k _ | exact natc_a1 _ | exact natc_0 | exact natc_1 | exact natc_2 | exact natc_s1 _ (by omega) | exact natc_a2 _ | exact natc_add _ _ | exact natc_mul _ _ | exact natc (by omega)) (by omega) rfl ?_
      refine L_load rfl Try.one4 rfl (by exact hs.cellA (i := 4) rfl hxr) ?_
      refine L_move rfl rfl ?_
      first | (refine RL_want rfl rfl ?_; refine L_move rfl rfl ?_) | refine RL_skip rfl rfl rfl rfl ?_ | refine RL_skipU rfl rfl rfl ?_
      first | (refine RL_want rfl rfl ?_; refine L_move rfl rfl ?_) | refine RL_skip rfl rfl rfl rfl ?_ | refine RL_skipU rfl rfl rfl ?_
      first | (refine RL_want rfl rfl ?_; (first | refine L_leq rfl rfl rfl (dtrue (by omega)) ?_ | refine L_leq rfl rfl rfl (dfalse (by omega)) ?_ | refine L_leq rfl rfl rfl rfl ?_)) | refine RL_skip rfl rfl rfl rfl ?_ | refine RL_skipU rfl rfl rfl ?_
      first | refine L_pick_t rfl rfl rfl ?_ | refine L_pick_f rfl rfl rfl ?_
      refine RL_then ?_
      refine W_if_true rfl ?_
      refine W_seq ?_
      refine W_region ?_
      refine L_assign rfl rfl ?_
      refine RL_then ?_
      refine W_ret' ?_
      refine Ex_then_ret ?_
      refine Ex_done1 rfl rfl ?_
      exact ⟨_, rfl, .inl ⟨rfl, S, hs, ⟨hSl, fun _ h => h, hlow, Nat.le_refl _⟩, .inl hSr, fun q _ h1 h2 => by rw [h1] at h2; cases h2⟩⟩
end
end Go.Proofs.Ytcfdmenmlemahaa
