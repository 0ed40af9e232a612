/-
 A part of the proof: laws for walks, and plain laws, over any program of the model. Each theorem holds under its own premises alone.
-/
import Derived.Test.YtknpoemkmcdgcaaTN28E
namespace Go.Proofs.Ytknpoemkmcdgcaa
open Go Go.Lk Go.Pr
theorem tight_ok (y : Ly) (n i j : Nat) (C : Nat → Nat → Int) (U V M R : List Int) (N : List (Nat × Obj)) (wb w0 : World) (hN : Own wb N) (hrd : RdS wb y n C) (hs0 : HS wb w0 (y.L U V M R ++ N)) (hi : i < n) (hj : j < n) (hUl : U.length = n) (hVl : V.length = n)
  (hbU : ∀ r, r < n → 0 ≤ gi U r ∧ gi U r ≤ BB) (hbV : ∀ j, j < n → -BB ≤ gi V j ∧ gi V j ≤ 0) :
  Ret Try.prog 90 [.pointer (some ⟨y.B, 0, none⟩), .int .i64 i, .int .i64 j] w0 fun v w' => v = .bool (decide (C i j = gi U i + gi V j)) ∧ HS wb w' (y.L U V M R ++ N) := by
 have hs := hs0
 obtain ⟨g1, cp1, hr1, hr2, hr3⟩ := hrd.row i hi
 have b2 : 0 ≤ U.getD i 0 ∧ U.getD i 0 ≤ 4503599627370496 := hbU i hi
 have b3 : -4503599627370496 ≤ V.getD j 0 ∧ V.getD j 0 ≤ 0 := hbV j hj
 refine calls_of_W Try.func90 rfl rfl rfl ?_
 by_cases hc : C i j = U.getD i 0 + V.getD j 0
 ·
  refine W_seq (W_region (L_assign rfl rfl (RL_then (W_seq (W_pht [0, 1, 2, 4, 7, 10, 11, 12, 14, 17, 18, 19, 21] [3, 5, 6, 8, 9, 13, 15, 16, 20, 22, 23, 24, 25, 26] [] (fun _ _ _ => False) Try.mixed (chkAll_of (by kernel_rfl)) (fun _ _ _ _ _ h => h) hs ?_)))))
  refine PL_val rfl (fun w => R_move rfl) ?_
  refine PL_val rfl (fun w => R_nilCheck rfl) ?_
  refine PL_val rfl (fun w => R_fieldAddr (off := 1) Try.underlying131 rfl rfl Try.ti89 rfl) ?_
  refine PL_val rfl (fun w => R_move rfl) ?_
  refine PL_val rfl (fun w => R_move rfl) ?_
  refine PL_val rfl (fun w => R_move rfl) ?_
  refine PL_val rfl (fun w => R_nilCheck rfl) ?_
  refine PL_val rfl (fun w => R_fieldAddr (off := 2) Try.underlying131 rfl rfl Try.ti93 rfl) ?_
  refine PL_val rfl (fun w => R_move rfl) ?_
  refine PL_val rfl (fun w => R_move rfl) ?_
  refine PL_val rfl (fun w => R_nilCheck rfl) ?_
  refine PL_val rfl (fun w => R_fieldAddr (off := 3) Try.underlying131 rfl rfl Try.ti93 rfl) ?_
  refine PL_val rfl (fun w => R_move rfl) ?_
  refine PL_end (HL_val rfl (fun w hs => R_load Try.one89 rfl (by exact RdS.at hs hN (hrd.bx rfl) hrd.nb)) ?_)
  refine HL_val rfl (fun w hs => R_idx1 Try.underlying89 Try.ti93 rfl rfl (natc_k _) (by omega) rfl) ?_
  refine HL_val rfl (fun w hs => R_load Try.one93 rfl (by exact RdS.at hs hN hr1 hrd.nc)) ?_
  refine HL_val rfl (fun w hs => R_idx1 Try.underlying93 Try.ti2 rfl rfl (natc_k _) (by omega) rfl) ?_
  refine HL_val rfl (fun w hs => R_load Try.one2 rfl (by exact RdS.at hs hN (hr3 _ (by omega)) hr2)) ?_
  refine HL_val rfl (fun w hs => R_load Try.one93 rfl (by exact RdS.at hs hN (hrd.bx rfl) hrd.nb)) ?_
  refine HL_val rfl (fun w hs => R_idx1 Try.underlying93 Try.ti2 rfl rfl (natc_k _) (by omega) rfl) ?_
  refine HL_val rfl (fun w hs => R_load Try.one2 rfl (by exact hs.cellA (i := 0) rfl (il_get' (by omega)))) ?_
  refine HL_val rfl (fun w hs => R_load Try.one93 rfl (by exact RdS.at hs hN (hrd.bx rfl) hrd.nb)) ?_
  refine HL_val rfl (fun w hs => R_idx1 Try.underlying93 Try.ti2 rfl rfl (natc_k _) (by omega) rfl) ?_
  refine HL_val rfl (fun w hs => R_load Try.one2 rfl (by exact hs.cellA (i := 1) rfl (il_get' (by omega)))) ?_
  refine HL_val rfl (fun w hs => R_add rfl rfl (wrp_i64 (by omega))) ?_
  refine HL_val rfl (fun w hs => R_eql rfl rfl (dtrue (by omega))) ?_
  refine HL_val rfl (fun w hs => R_assign rfl) ?_
  refine HL_tail ?_
  intro w hs
  refine RL_then (W_ret' (Ex_done1 rfl rfl ?_))
  exact ⟨_, rfl, by rw [decide_eq_true hc], hs⟩
 ·
  refine W_seq (W_region (L_assign rfl rfl (RL_then (W_seq (W_pht [0, 1, 2, 4, 7, 10, 11, 12, 14, 17, 18, 19, 21] [3, 5, 6, 8, 9, 13, 15, 16, 20, 22, 23, 24, 25, 26] [] (fun _ _ _ => False) Try.mixed (chkAll_of (by kernel_rfl)) (fun _ _ _ _ _ h => h) hs ?_)))))
  refine PL_val rfl (fun w => R_move rfl) ?_
  refine PL_val rfl (fun w => R_nilCheck rfl) ?_
  refine PL_val rfl (fun w => R_fieldAddr (off := 1) Try.underlying131 rfl rfl Try.ti89 rfl) ?_
  refine PL_val rfl (fun w => R_move rfl) ?_
  refine PL_val rfl (fun w => R_move rfl) ?_
  refine PL_val rfl (fun w => R_move rfl) ?_
  refine PL_val rfl (fun w => R_nilCheck rfl) ?_
  refine PL_val rfl (fun w => R_fieldAddr (off := 2) Try.underlying131 rfl rfl Try.ti93 rfl) ?_
  refine PL_val rfl (fun w => R_move rfl) ?_
  refine PL_val rfl (fun w => R_move rfl) ?_
  refine PL_val rfl (fun w => R_nilCheck rfl) ?_
  refine PL_val rfl (fun w => R_fieldAddr (off := 3) Try.underlying131 rfl rfl Try.ti93 rfl) ?_
  refine PL_val rfl (fun w => R_move rfl) ?_
  refine PL_end (HL_val rfl (fun w hs => R_load Try.one89 rfl (by exact RdS.at hs hN (hrd.bx rfl) hrd.nb)) ?_)
  refine HL_val rfl (fun w hs => R_idx1 Try.underlying89 Try.ti93 rfl rfl (natc_k _) (by omega) rfl) ?_
  refine HL_val rfl (fun w hs => R_load Try.one93 rfl (by exact RdS.at hs hN hr1 hrd.nc)) ?_
  refine HL_val rfl (fun w hs => R_idx1 Try.underlying93 Try.ti2 rfl rfl (natc_k _) (by omega) rfl) ?_
  refine HL_val rfl (fun w hs => R_load Try.one2 rfl (by exact RdS.at hs hN (hr3 _ (by omega)) hr2)) ?_
  refine HL_val rfl (fun w hs => R_load Try.one93 rfl (by exact RdS.at hs hN (hrd.bx rfl) hrd.nb)) ?_
  refine HL_val rfl (fun w hs => R_idx1 Try.underlying93 Try.ti2 rfl rfl (natc_k _) (by omega) rfl) ?_
  refine HL_val rfl (fun w hs => R_load Try.one2 rfl (by exact hs.cellA (i := 0) rfl (il_get' (by omega)))) ?_
  refine HL_val rfl (fun w hs => R_load Try.one93 rfl (by exact RdS.at hs hN (hrd.bx rfl) hrd.nb)) ?_
  refine HL_val rfl (fun w hs => R_idx1 Try.underlying93 Try.ti2 rfl rfl (natc_k _) (by omega) rfl) ?_
  refine HL_val rfl (fun w hs => R_load Try.one2 rfl (by exact hs.cellA (i := 1) rfl (il_get' (by omega)))) ?_
  refine HL_val rfl (fun w hs => R_add rfl rfl (wrp_i64 (by omega))) ?_
  refine HL_val rfl (fun w hs => R_eql rfl rfl (dfalse (by omega))) ?_
  refine HL_val rfl (fun w hs => R_assign rfl) ?_
  refine HL_tail ?_
  intro w hs
  refine RL_then (W_ret' (Ex_done1 rfl rfl ?_))
  exact ⟨_, rfl, by rw [decide_eq_false hc], hs⟩
def Cl (n : Nat) (C : Nat → Nat → Int) (U V : Nat → Int) (of has : Nat → Nat) (i goal : Nat) (S S' : List Bool) : Prop :=
 ∀ q, q < n → gbo S' q = true → gbo S q = false → ∀ m, m < n → C q m = U q + V m → m ≠ has q → m ≠ goal ∧ (gbo S' (of m) = true ∨ of m ≤ i)
structure Sub (n i : Nat) (S S' : List Bool) : Prop where
 len : S'.length = n
 sub : ∀ q, gbo S q = true → gbo S' q = true
 low : ∀ q, gbo S' q = true → i < q
 cnt : S'.count false ≤ S.count false
theorem Sub.trans {n i : Nat} {S S' S'' : List Bool} (h : Sub n i S S') (h' : Sub n i S' S'') : Sub n i S S'' := ⟨h'.len, fun q hq => h'.sub q (h.sub q hq), h'.low, Nat.le_trans h'.cnt h.cnt⟩
theorem Cl.trans {n : Nat} {C : Nat → Nat → Int} {U V : Nat → Int} {of has : Nat → Nat} {i goal : Nat} {S S' S'' : List Bool} (h : Cl n C U V of has i goal S S') (h' : Cl n C U V of has i goal S' S'') (hs : Sub n i S' S'') : Cl n C U V of has i goal S S'' := fun q hq h1 h2 m hm ht hne => by
 cases h3 : gbo S' q with
 | true =>
  obtain ⟨h4, h5⟩ := h q hq h3 h2 m hm ht hne
  exact ⟨h4, h5.imp (hs.sub _) id⟩
 | false => exact h' q hq h1 h3 m hm ht hne
theorem Rot.re {n : Nat} {C : Nat → Nat → Int} {U V : Nat → Int} {i : Nat} {of0 has0 of has : Nat → Nat} {R R' : Nat → Prop} {pos pos' : Nat → Nat} {m : Nat} (h : Rot n C U V i of0 has0 R pos of has m) (hk : ∀ k, k < n → R' k → pos' k < pos' m → of k = of0 k) : Rot n C U V i of0 has0 R' pos' of has m :=
 ⟨h.oh, h.ho, h.tight, hk, h.low⟩
/-- Row r moves from its column to a free one. -/
theorem Rot.move {n : Nat} {C : Nat → Nat → Int} {U V : Nat → Int} {i : Nat} {of0 has0 of has of' has' : Nat → Nat} {R : Nat → Prop} {pos : Nat → Nat} {m r : Nat} (hP : Pf n C U V of0 has0) (h : Rot n C U V i of0 has0 R pos of has m) (hm : m < n) (hr : r < n) (hir : i < r) (hne : m ≠ has0 r) (hkeep : of (has0 r) = r) (ht : C r m = U r + V m)
  (h1 : of' m = r) (h2 : ∀ c, c ≠ m → of' c = of c) (h3 : has' r = m) (h4 : ∀ q, q ≠ r → has' q = has q) : Rot n C U V i of0 has0 (fun _ => False) (fun _ => 0) of' has' (has0 r) := by
 have e0 := (hP.ho r hr).2
 have hR : Rot n C U V i of0 has0 (fun c => c = has0 r) (fun c => if c = has0 r then 0 else 1) of has m := Rot.re h fun k _ hk _ => by rw [hk, hkeep, e0]
 have := hR.step (k := has0 r) (of' := of') (has' := has') hm (hP.ho r hr).1 rfl (by simp [hne]) (by rw [e0]; exact hir) (by rw [e0]; exact ht) (by rw [hkeep]; exact h1) h2 (by rw [hkeep]; exact h3) (by rw [hkeep]; exact h4)
 exact Rot.re this fun _ _ hk => absurd hk (fun h => h)
def AwayR (y : Ly) (n : Nat) (C : Nat → Nat → Int) (U V M R : List Int) (gs i : Nat) (S : List Bool) (r : Nat) (wb : World) (v : Value) (w' : World) : Prop :=
 (v = .bool false ∧ ∃ S', HS wb w' (y.L U V M R ++ [(gs, Row 4 (bls S'))]) ∧ Sub n i S S' ∧ (gbo S' r = true ∨ r ≤ i) ∧ Cl n C (gi U) (gi V) (toN R) (toN M) i (toN M i) S S') ∨
 (v = .bool true ∧ ∃ S' M' R', HS wb w' (y.L U V M' R' ++ [(gs, Row 4 (bls S'))]) ∧ InR n M' ∧ InR n R' ∧ gbo S r = false ∧ Rot n C (gi U) (gi V) i (toN R) (toN M) (fun _ => False) (fun _ => 0) (toN R') (toN M') (toN M r) ∧ ∀ c, c < n → gbo S (toN R c) = true → toN R' c = toN R c)
theorem count_set_true {S : List Bool} {r : Nat} (hr : r < S.length) (h : S.getD r false = false) : (S.set r true).count false + 1 = S.count false := by
 have h1 : S[r] = false := by simpa [List.getD, hr] using h
 rw [List.count_set hr, h1]
 have h2 : 0 < S.count false := List.count_pos_iff.2 (h1 ▸ List.getElem_mem hr)
 simp; omega
section
variable {y : Ly} {n i gs : Nat} {C : Nat → Nat → Int} {U V M R : List Int} {wb : World}
set_option maxHeartbeats 8000000 in
theorem away_ok (hgs : wb.heap.size ≤ gs) (hrd : RdS wb y n C) (hn2 : n ≤ 512) (hi : i < n) (hUl : U.length = n) (hVl : V.length = n) (hM : InR n M) (hR : InR n R)
  (hbU : ∀ r, r < n → 0 ≤ gi U r ∧ gi U r ≤ BB) (hbV : ∀ j, j < n → -BB ≤ gi V j ∧ gi V j ≤ 0) (hPf : Pf n C (gi U) (gi V) (toN R) (toN M)) (goal : Nat) (hgoal : goal = toN M i) :
  ∀ (f : Nat) (S : List Bool) (r : Nat) (w0 : World), S.count false ≤ f → S.length = n → (∀ q, gbo S q = true → i < q) → r < n → HS wb w0 (y.L U V M R ++ [(gs, Row 4 (bls S))]) →
  Ret Try.prog 91 [.pointer (some ⟨y.B, 0, none⟩), .int .i64 r, .int .i64 goal, .int .i64 i, .slice (some ⟨gs, 0, none⟩) n n] w0 (AwayR y n C U V M R gs i S r wb) := by
 have hO : ∀ {S : List Bool}, Own wb [(gs, Row 4 (bls S))] := Own.cons hgs Own.nil
 have hMl := hM.len
 have hRl := hR.len
 intro f
 induction f with
 | zero =>
  intro S r w0 hcnt hSl hlow hr hs
  have hSr : S.getD r false = true := by
   cases h : S.getD r false with
   | true => rfl
   | false => have := count_set_true (by omega) h; omega
  have hxr : (bls S)[r]? = some (.bool true) := by rw [← hSr]; exact bls_get (by omega)
  refine calls_of_W Try.func91 rfl rfl rfl (W_seq (W_region (L_assign rfl rfl (RL_then (W_seq (W_seq (W_region (L_move rfl rfl (L_move rfl rfl (L_idx1 rfl Try.underlying132 Try.ti4 rfl rfl (natc_k _) (by omega) rfl ?_))))))))))
  refine L_load rfl Try.one4 rfl (by exact hs.cellA (i := 4) rfl hxr) ?_
  refine L_move rfl rfl (RL_skip rfl rfl rfl rfl (RL_skip rfl rfl rfl rfl (RL_skip rfl rfl rfl rfl (L_pick_t rfl rfl rfl (RL_then (W_if_true rfl (W_seq (W_region (L_assign rfl rfl (RL_then (W_ret' (Ex_then_ret ?_))))))))))))
  refine Ex_done1 rfl rfl ?_
  exact ⟨_, rfl, .inl ⟨rfl, S, hs, ⟨hSl, fun _ h => h, hlow, Nat.le_refl _⟩, .inl hSr, fun q _ h1 h2 => by rw [h1] at h2; cases h2⟩⟩
 | succ f IH =>
  intro S r w0 hcnt hSl hlow hr hs
  refine calls_of_W Try.func91 rfl rfl rfl ?_
  cases hSr : S.getD r false
  ·
   have hxr : (bls S)[r]? = some (.bool false) := by rw [← hSr]; exact bls_get (by omega)
   by_cases hri : r ≤ i
   ·
    refine W_seq (W_region (L_assign rfl rfl (RL_then (W_seq (W_seq (W_region (L_move rfl rfl (L_move rfl rfl (L_idx1 rfl Try.underlying132 Try.ti4 rfl rfl (natc_k _) (by omega) rfl ?_)))))))))
    refine L_load rfl Try.one4 rfl (by exact hs.cellA (i := 4) rfl hxr) ?_
    refine L_move rfl rfl (RL_want rfl rfl (L_move rfl rfl (RL_want rfl rfl (L_move rfl rfl (RL_want rfl rfl (L_leq rfl rfl rfl (dtrue (by omega)) ?_))))))
    refine L_pick_f rfl rfl rfl (RL_then (W_if_true rfl (W_seq (W_region (L_assign rfl rfl (RL_then (W_ret' (Ex_then_ret (Ex_done1 rfl rfl ?_)))))))))
    exact ⟨_, rfl, .inl ⟨rfl, S, hs, ⟨hSl, fun _ h => h, hlow, Nat.le_refl _⟩, .inr hri, fun q _ h1 h2 => by rw [h1] at h2; cases h2⟩⟩
   ·
    skip
    refine W_seq (W_region (L_assign rfl rfl (RL_then (W_seq (W_seq (W_region (L_move rfl rfl (L_move rfl rfl (L_idx1 rfl Try.underlying132 Try.ti4 rfl rfl (natc_k _) (by omega) rfl ?_)))))))))
    refine L_load rfl Try.one4 rfl (by exact hs.cellA (i := 4) rfl hxr) ?_
    refine L_move rfl rfl (RL_want rfl rfl (L_move rfl rfl (RL_want rfl rfl (L_move rfl rfl (RL_want rfl rfl (L_leq rfl rfl rfl (dfalse (by omega)) ?_))))))
    refine L_pick_f rfl rfl rfl (RL_then (W_if_false rfl (W_skip' (Nx_then (W_seq (W_region (L_move rfl rfl (L_move rfl rfl (L_idx1 rfl Try.underlying132 Try.ti4 rfl rfl (natc_k _) (by omega) rfl ?_)))))))))
    refine L_store hs (i := 4) rfl Try.ti4 rfl rfl (by exact add_lit0 _ _) (by simp; omega) rfl ?_
    intro w hs
    dsimp only [List.set_cons_succ, List.set_cons_zero, List.cons_append, List.nil_append] at hs
    refine RL_then (W_seq (W_seq (W_region (L_assign rfl rfl (RL_then (W_block ?_))))))
    rw [bls_set] at hs
    have hc1 := count_set_true (S := S) (by omega) hSr
    have hg1 : ∀ q, gbo (S.set r true) q = if q = r then true else gbo S q := fun q => gset (by omega) q
    have hS1 : Sub n i S (S.set r true) := ⟨by simp [hSl], fun q hq => by rw [hg1]; split; rfl; exact hq, fun q hq => by rw [hg1] at hq; split at hq; omega; exact hlow q hq, by omega⟩
    obtain ⟨S1, hS1e⟩ : ∃ S1, S1 = S.set r true := ⟨_, rfl⟩
    rw [← hS1e] at hs hc1 hg1 hS1
    obtain ⟨hme, hmn⟩ := hM.nat hr
    refine W_loop3 (fun (j : Nat) (S2 : List Bool) (w : World) => [(0, .pointer (some ⟨y.B, 0, none⟩)), (1, .int .i64 r), (2, .int .i64 goal), (3, .int .i64 i), (4, .slice (some ⟨gs, 0, none⟩) n n), (11, .int .i64 j)]) (fun (j : Nat) (S2 : List Bool) (w : World) => w) (fun (j : Nat) (S2 : List Bool) (w : World) => (j ≤ n) ∧ (Sub n i S1 S2) ∧ (Cl n C (gi U) (gi V) (toN R) (toN M) i (toN M i) S1 S2) ∧ (∀ m, m < j → C r m = gi U r + gi V m → m ≠ toN M r → m ≠ toN M i ∧ (gbo S2 (toN R m) = true ∨ toN R m ≤ i)) ∧ (HS wb w (y.L U V M R ++ [(gs, Row 4 (bls S2))]))) (fun (j : Nat) (S2 : List Bool) (w : World) => n - j) (0) (S1) (w) (is := [0, 1, 2, 3, 4, 11]) rfl rfl ?_ ?_
    ·
     exact ⟨Nat.zero_le _, ⟨hS1.len, fun _ h => h, hS1.low, Nat.le_refl _⟩, fun q _ h1 h2 => (by rw [h1] at h2; cases h2), fun _ h => absurd h (Nat.not_lt_zero _), hs⟩
    ·
     clear hs
     intro j S2 w hI
     show W _ _ _ _ [(0, .pointer (some ⟨y.B, 0, none⟩)), (1, .int .i64 r), (2, .int .i64 goal), (3, .int .i64 i), (4, .slice (some ⟨gs, 0, none⟩) n n), (11, .int .i64 j)] w
     obtain ⟨hj, hS2, hCl, hrow, hs⟩ := hI
     by_cases hlt : j < n
     ·
      obtain ⟨hRe, hRn⟩ := hR.nat hlt
      refine W_seq (W_seq (W_region (L_move rfl rfl (L_move rfl rfl (L_nilCheck rfl rfl (L_fieldAddr rfl (off := 0) Try.underlying131 rfl rfl Try.ti3 rfl (L_load rfl Try.one3 rfl (by exact RdS.at hs hO (hrd.bx rfl) hrd.nb) ?_)))))))
      refine L_lss rfl rfl rfl (dtrue (by omega)) ?_
      refine RL_then (W_if_true rfl (W_skip' (Nx_then (W_seq (W_block (W_seq (W_seq (W_region (L_move rfl rfl (L_move rfl rfl (L_move rfl rfl (L_call rfl Try.fun90 rfl (tight_ok y n r j C U V M R _ wb w hO hrd hs hr hlt hUl hVl hbU hbV) ?_))))))))))))
      rintro _ w1 ⟨rfl, hs⟩
      by_cases htt : C r j = gi U r + gi V j
      ·
       rw [decide_eq_true htt]
       by_cases hjm : j = toN M r
       ·
        refine L_not rfl rfl (L_move rfl rfl (RL_want rfl rfl (L_move rfl rfl (RL_want rfl rfl (L_move rfl rfl (RL_want rfl rfl (L_nilCheck rfl rfl (RL_want rfl rfl (L_fieldAddr rfl (off := 4) Try.underlying131 rfl rfl Try.ti60 rfl (RL_want rfl rfl (L_load rfl Try.one60 rfl (by exact RdS.at hs hO (hrd.bx rfl) hrd.nb) ?_)))))))))))
        refine RL_want rfl rfl (L_move rfl rfl (RL_want rfl rfl (L_idx1 rfl Try.underlying60 Try.ti3 rfl rfl (natc_k _) (by omega) rfl ?_)))
        refine RL_want rfl rfl (L_load rfl Try.one3 rfl (by exact hs.cellA (i := 2) rfl (il_get' (by omega))) ?_)
        rw [hme]
        refine RL_want rfl rfl (L_eql rfl rfl rfl (dtrue (by omega)) ?_)
        refine L_pick_f rfl rfl rfl (RL_then (W_if_true rfl (W_exit' (Ex_then_exit (Ex_block_hit (Nx_then (W_region (L_move rfl rfl (L_add rfl rfl rfl (wrp_i64 (by omega)) ?_)))))))))
        refine L_assign rfl rfl (RL_nil' ?_)
        refine Nx_loopP (j + 1, S2, w1) (is := [0, 1, 2, 3, 4, 11]) (I' := (fun (j : Nat) (S2 : List Bool) (w : World) => (j ≤ n) ∧ (Sub n i S1 S2) ∧ (Cl n C (gi U) (gi V) (toN R) (toN M) i (toN M i) S1 S2) ∧ (∀ m, m < j → C r m = gi U r + gi V m → m ≠ toN M r → m ≠ toN M i ∧ (gbo S2 (toN R m) = true ∨ toN R m ≤ i)) ∧ (HS wb w (y.L U V M R ++ [(gs, Row 4 (bls S2))]))) (j + 1) (S2) (w1)) rfl rfl rfl ?_ ?_
        ·
         refine ⟨by omega, hS2, hCl, fun m hm ht hne => ?_, hs⟩
         exact hrow m (by omega) ht hne
        ·
         omega
       ·
        refine L_not rfl rfl (L_move rfl rfl (RL_want rfl rfl (L_move rfl rfl (RL_want rfl rfl (L_move rfl rfl (RL_want rfl rfl (L_nilCheck rfl rfl (RL_want rfl rfl (L_fieldAddr rfl (off := 4) Try.underlying131 rfl rfl Try.ti60 rfl (RL_want rfl rfl (L_load rfl Try.one60 rfl (by exact RdS.at hs hO (hrd.bx rfl) hrd.nb) ?_)))))))))))
        refine RL_want rfl rfl (L_move rfl rfl (RL_want rfl rfl (L_idx1 rfl Try.underlying60 Try.ti3 rfl rfl (natc_k _) (by omega) rfl ?_)))
        refine RL_want rfl rfl (L_load rfl Try.one3 rfl (by exact hs.cellA (i := 2) rfl (il_get' (by omega))) ?_)
        rw [hme]
        refine RL_want rfl rfl (L_eql rfl rfl rfl (dfalse (by omega)) ?_)
        refine L_pick_f rfl rfl rfl (RL_then (W_if_false rfl ?_))
        by_cases hjg : j = goal
        ·
         have hRot := hPf.rot hi (R := fun _ => False) (pos := fun _ => 0)
         rw [← hgoal, ← hjg] at hRot
         obtain ⟨q1, q2, q3⟩ := hM.set hr hlt
         obtain ⟨o1, o2, o3⟩ := hR.set hlt hr
         have hmv := Rot.move hPf hRot hlt hr (by omega) hjm (hPf.ho r hr).2 htt o2 o3 q2 q3
         refine W_skip' (Nx_then (W_seq (W_region (L_move rfl rfl (L_move rfl rfl (L_eql rfl rfl rfl (dtrue (by omega)) ?_))))))
         refine L_assign rfl rfl (RL_then (W_seq (W_seq (W_region (L_move rfl rfl (L_not rfl rfl (RL_then (W_if_false rfl (W_skip' (Nx_then (W_seq (W_region ?_))))))))))))
         refine L_move rfl rfl (RL_then (W_if_true rfl (W_seq (W_region (L_move rfl rfl (L_nilCheck rfl rfl (L_fieldAddr rfl (off := 4) Try.underlying131 rfl rfl Try.ti60 rfl (L_load rfl Try.one60 rfl (by exact RdS.at hs hO (hrd.bx rfl) hrd.nb) ?_))))))))
         refine L_move rfl rfl (L_move rfl rfl (L_idx1 rfl Try.underlying60 Try.ti3 rfl rfl (natc_k _) (by omega) rfl ?_))
         refine L_store hs (i := 2) rfl Try.ti3 rfl rfl (by exact add_lit0 _ _) (by simp; omega) rfl ?_
         intro w hs
         dsimp only [List.set_cons_succ, List.set_cons_zero, List.cons_append, List.nil_append] at hs
         refine RL_then (W_seq (W_region ?_))
         rw [il_set' _ _ _ _ (by omega)] at hs
         refine L_move rfl rfl (L_nilCheck rfl rfl (L_fieldAddr rfl (off := 5) Try.underlying131 rfl rfl Try.ti60 rfl (L_load rfl Try.one60 rfl (by exact RdS.at hs hO (hrd.bx rfl) hrd.nb) ?_)))
         refine L_move rfl rfl (L_move rfl rfl (L_idx1 rfl Try.underlying60 Try.ti3 rfl rfl (natc_k _) (by omega) rfl ?_))
         refine L_store hs (i := 3) rfl Try.ti3 rfl rfl (by exact add_lit0 _ _) (by simp; omega) rfl ?_
         intro w hs
         dsimp only [List.set_cons_succ, List.set_cons_zero, List.cons_append, List.nil_append] at hs
         refine RL_then (W_seq (W_region (L_assign rfl rfl (RL_then (W_ret' (Ex_block_ret (Ex_then_ret (Ex_loop_ret (Ex_block_ret (Ex_then_ret (Ex_done1 rfl rfl ?_)))))))))))
         rw [il_set' _ _ _ _ (by omega)] at hs
         refine ⟨_, rfl, .inr ⟨rfl, S2, M.set r (j : Int), R.set j (r : Int), hs, q1, o1, hSr, hmv, fun c hc hSc => ?_⟩⟩
         refine o3 c fun hcj => ?_
         have h5 : toN R c = i := by rw [hcj, hjg, hgoal]; exact (hPf.ho i hi).2
         rw [h5] at hSc
         exact absurd (hlow i hSc) (Nat.lt_irrefl i)
        ·
         refine W_skip' (Nx_then (W_seq (W_region (L_move rfl rfl (L_move rfl rfl (L_eql rfl rfl rfl (dfalse (by omega)) ?_))))))
         refine L_assign rfl rfl (RL_then (W_seq (W_seq (W_region (L_move rfl rfl (L_not rfl rfl (RL_then (W_if_true rfl (W_region (L_move rfl rfl (L_move rfl rfl (L_nilCheck rfl rfl ?_))))))))))))
         refine L_fieldAddr rfl (off := 5) Try.underlying131 rfl rfl Try.ti60 rfl (L_load rfl Try.one60 rfl (by exact RdS.at hs hO (hrd.bx rfl) hrd.nb) ?_)
         refine L_move rfl rfl (L_idx1 rfl Try.underlying60 Try.ti3 rfl rfl (natc_k _) (by omega) rfl ?_)
         refine L_load rfl Try.one3 rfl (by exact hs.cellA (i := 3) rfl (il_get' (by omega))) ?_
         refine L_move rfl rfl (L_move rfl rfl (L_move rfl rfl ?_))
         rw [hRe]
         refine L_call rfl Try.fun91 rfl (IH S2 (toN R j) w1 (by have := hS2.cnt; omega) hS2.len hS2.low hRn hs) ?_
         rintro _ w2 (⟨rfl, S3, hs, hS3, hS3r, hCl3⟩ | ⟨rfl, S3, M3, R3, hs, hM3, hR3, hn3, hRot3, hk3⟩)
         ·
          refine L_assign rfl rfl (RL_then (W_seq (W_region (L_move rfl rfl (RL_then (W_if_false rfl (W_skip' (Nx_block (Nx_then (W_region (L_move rfl rfl (L_add rfl rfl rfl (wrp_i64 (by omega)) ?_))))))))))))
          refine L_assign rfl rfl (RL_nil' ?_)
          refine Nx_loopP (j + 1, S3, w2) (is := [0, 1, 2, 3, 4, 11]) (I' := (fun (j : Nat) (S2 : List Bool) (w : World) => (j ≤ n) ∧ (Sub n i S1 S2) ∧ (Cl n C (gi U) (gi V) (toN R) (toN M) i (toN M i) S1 S2) ∧ (∀ m, m < j → C r m = gi U r + gi V m → m ≠ toN M r → m ≠ toN M i ∧ (gbo S2 (toN R m) = true ∨ toN R m ≤ i)) ∧ (HS wb w (y.L U V M R ++ [(gs, Row 4 (bls S2))]))) (j + 1) (S3) (w2)) rfl rfl rfl ?_ ?_
          ·
           refine ⟨by omega, hS2.trans hS3, hCl.trans hCl3 hS3, fun m hm ht hne => ?_, hs⟩
           by_cases hmj : m = j
           ·
            rw [hmj]; exact ⟨by rw [← hgoal]; exact hjg, hS3r⟩
           ·
            obtain ⟨h5, h6⟩ := hrow m (by omega) ht hne
            exact ⟨h5, h6.imp (hS3.sub _) id⟩
          ·
           omega
         ·
          have hM3l := hM3.len
          have hR3l := hR3.len
          obtain ⟨q1, q2, q3⟩ := hM3.set hr hlt
          obtain ⟨o1, o2, o3⟩ := hR3.set hlt hr
          have e1 : toN M (toN R j) = j := (hPf.oh j hlt).2
          rw [e1] at hRot3
          have hS2r : gbo S2 r = true := hS2.sub r (by rw [hg1, if_pos rfl])
          have e2 : toN R (toN M r) = r := (hPf.ho r hr).2
          have hmv := Rot.move hPf hRot3 hlt hr (by omega) hjm (by rw [hk3 _ hmn (by rw [e2]; exact hS2r), e2]) htt o2 o3 q2 q3
          refine L_assign rfl rfl (RL_then (W_seq (W_region (L_move rfl rfl (RL_then (W_if_true rfl (W_seq (W_region (L_move rfl rfl (L_nilCheck rfl rfl (L_fieldAddr rfl (off := 4) Try.underlying131 rfl rfl Try.ti60 rfl (L_load rfl Try.one60 rfl (by exact RdS.at hs hO (hrd.bx rfl) hrd.nb) ?_))))))))))))
          refine L_move rfl rfl (L_move rfl rfl (L_idx1 rfl Try.underlying60 Try.ti3 rfl rfl (natc_k _) (by omega) rfl ?_))
          refine L_store hs (i := 2) rfl Try.ti3 rfl rfl (by exact add_lit0 _ _) (by simp; omega) rfl ?_
          intro w hs
          dsimp only [List.set_cons_succ, List.set_cons_zero, List.cons_append, List.nil_append] at hs
          refine RL_then (W_seq (W_region ?_))
          rw [il_set' _ _ _ _ (by omega)] at hs
          refine L_move rfl rfl (L_nilCheck rfl rfl (L_fieldAddr rfl (off := 5) Try.underlying131 rfl rfl Try.ti60 rfl (L_load rfl Try.one60 rfl (by exact RdS.at hs hO (hrd.bx rfl) hrd.nb) ?_)))
          refine L_move rfl rfl (L_move rfl rfl (L_idx1 rfl Try.underlying60 Try.ti3 rfl rfl (natc_k _) (by omega) rfl ?_))
          refine L_store hs (i := 3) rfl Try.ti3 rfl rfl (by exact add_lit0 _ _) (by simp; omega) rfl ?_
          intro w hs
          dsimp only [List.set_cons_succ, List.set_cons_zero, List.cons_append, List.nil_append] at hs
          refine RL_then (W_seq (W_region (L_assign rfl rfl (RL_then (W_ret' (Ex_block_ret (Ex_then_ret (Ex_loop_ret (Ex_block_ret (Ex_then_ret (Ex_done1 rfl rfl ?_)))))))))))
          rw [il_set' _ _ _ _ (by omega)] at hs
          refine ⟨_, rfl, .inr ⟨rfl, S3, M3.set r (j : Int), R3.set j (r : Int), hs, q1, o1, hSr, hmv, fun c hc hSc => ?_⟩⟩
          have hSc2 : gbo S2 (toN R c) = true := hS2.sub _ (by rw [hg1]; split; rfl; exact hSc)
          have hcj : c ≠ j := fun hcj => by rw [hcj, hn3] at hSc2; cases hSc2
          rw [o3 c hcj]
          exact hk3 c hc hSc2
      ·
       rw [decide_eq_false htt]
       refine L_not rfl rfl (L_move rfl rfl (RL_skip rfl rfl rfl rfl (RL_skip rfl rfl rfl rfl (RL_skip rfl rfl rfl rfl (RL_skip rfl rfl rfl rfl (RL_skip rfl rfl rfl rfl (RL_skip rfl rfl rfl rfl (RL_skip rfl rfl rfl rfl (RL_skip rfl rfl rfl rfl (RL_skip rfl rfl rfl rfl (L_pick_t rfl rfl rfl (RL_then ?_))))))))))))
       refine W_if_true rfl (W_exit' (Ex_then_exit (Ex_block_hit (Nx_then (W_region (L_move rfl rfl (L_add rfl rfl rfl (wrp_i64 (by omega)) ?_)))))))
       refine L_assign rfl rfl (RL_nil' ?_)
       refine Nx_loopP (j + 1, S2, w1) (is := [0, 1, 2, 3, 4, 11]) (I' := (fun (j : Nat) (S2 : List Bool) (w : World) => (j ≤ n) ∧ (Sub n i S1 S2) ∧ (Cl n C (gi U) (gi V) (toN R) (toN M) i (toN M i) S1 S2) ∧ (∀ m, m < j → C r m = gi U r + gi V m → m ≠ toN M r → m ≠ toN M i ∧ (gbo S2 (toN R m) = true ∨ toN R m ≤ i)) ∧ (HS wb w (y.L U V M R ++ [(gs, Row 4 (bls S2))]))) (j + 1) (S2) (w1)) rfl rfl rfl ?_ ?_
       ·
        refine ⟨by omega, hS2, hCl, fun m hm ht hne => ?_, hs⟩
        have hmj : m ≠ j := fun he => htt (he ▸ ht)
        exact hrow m (by omega) ht hne
       ·
        omega
     ·
      obtain rfl : n = j := by omega
      refine W_seq (W_seq (W_region (L_move rfl rfl (L_move rfl rfl (L_nilCheck rfl rfl (L_fieldAddr rfl (off := 0) Try.underlying131 rfl rfl Try.ti3 rfl (L_load rfl Try.one3 rfl (by exact RdS.at hs hO (hrd.bx rfl) hrd.nb) ?_)))))))
      refine L_lss rfl rfl rfl (dfalse (by omega)) ?_
      refine RL_then (W_if_false rfl (W_exit' (Ex_then_exit (Ex_loop_exit (Ex_block_hit (Nx_then (W_seq (W_region (L_assign rfl rfl (RL_then (W_ret' (Ex_done1 rfl rfl ?_))))))))))))
      refine ⟨_, rfl, .inl ⟨rfl, S2, hs, hS1.trans hS2, .inl (hS2.sub r (by rw [hg1, if_pos rfl])), fun q hq h1 h2 m hm ht hne => ?_⟩⟩
      by_cases hqr : q = r
      ·
       rw [hqr] at ht hne; exact hrow m hm ht hne
      ·
       exact hCl q hq h1 (by rw [hg1, if_neg hqr]; exact h2) m hm ht hne
  ·
   have hxr : (bls S)[r]? = some (.bool true) := by rw [← hSr]; exact bls_get (by omega)
   refine W_seq (W_region (L_assign rfl rfl (RL_then (W_seq (W_seq (W_region (L_move rfl rfl (L_move rfl rfl (L_idx1 rfl Try.underlying132 Try.ti4 rfl rfl (natc_k _) (by omega) rfl ?_)))))))))
   refine L_load rfl Try.one4 rfl (by exact hs.cellA (i := 4) rfl hxr) ?_
   refine L_move rfl rfl (RL_skip rfl rfl rfl rfl (RL_skip rfl rfl rfl rfl (RL_skip rfl rfl rfl rfl (L_pick_t rfl rfl rfl (RL_then (W_if_true rfl (W_seq (W_region (L_assign rfl rfl (RL_then (W_ret' (Ex_then_ret ?_))))))))))))
   refine Ex_done1 rfl rfl ?_
   exact ⟨_, rfl, .inl ⟨rfl, S, hs, ⟨hSl, fun _ h => h, hlow, Nat.le_refl _⟩, .inl hSr, fun q _ h1 h2 => by rw [h1] at h2; cases h2⟩⟩
end
end Go.Proofs.Ytknpoemkmcdgcaa

namespace Go.Proofs.Ytknpoemkmcdgcaa
open Go Go.Lk Go.Pr
set_option maxHeartbeats 8000000 in
theorem rfirst_ok (y : Ly) (n rows : Nat) (C : Nat → Nat → Int) (U V M R : List Int) (w0 : World) (hn2 : n ≤ 512) (hr : rows ≤ n) (hrd : RdS w0 y n C) (hG : HS w0 w0 (y.L U V M R)) (hUl : U.length = n) (hVl : V.length = n) (hM : InR n M) (hR : InR n R)
  (hbU : ∀ r, r < n → 0 ≤ gi U r ∧ gi U r ≤ BB) (hbV : ∀ j, j < n → -BB ≤ gi V j ∧ gi V j ≤ 0) (hPf : Pf n C (gi U) (gi V) (toN R) (toN M)) :
  Ret Try.prog 76 [.pointer (some ⟨y.B, 0, none⟩), .int .i64 rows] w0 fun _ w' => ∃ M' R', HS w0 w' (y.L U V M' R') ∧ InR n M' ∧ InR n R' ∧ Pf n C (gi U) (gi V) (toN R') (toN M') ∧ LM n C (gi U) (gi V) rows (toN M') := by
 have hs : HS w0 w0 (y.L U V M R ++ []) := by rw [List.append_nil]; exact hG
 clear hG
 refine calls_of_W Try.func76 rfl rfl rfl (W_seq (W_region (L_assign rfl rfl (RL_then (W_block ?_)))))
 refine W_loop4 (fun (i : Nat) (M : List Int) (R : List Int) (w : World) => [(0, .pointer (some ⟨y.B, 0, none⟩)), (1, .int .i64 rows), (4, .int .i64 i)]) (fun (i : Nat) (M : List Int) (R : List Int) (w : World) => w) (fun (i : Nat) (M : List Int) (R : List Int) (w : World) => (i ≤ rows) ∧ (InR n M) ∧ (InR n R) ∧ (Pf n C (gi U) (gi V) (toN R) (toN M)) ∧ (LM n C (gi U) (gi V) i (toN M)) ∧ (HS w0 w (y.L U V M R ++ []))) (fun (i : Nat) (M : List Int) (R : List Int) (w : World) => rows - i) (0) (M) (R) (_) (is := [0, 1, 4]) rfl rfl ?_ ?_
 ·
  exact ⟨Nat.zero_le _, hM, hR, hPf, LM.zero, hs⟩
 ·
  clear hs hM hR hPf
  intro i M R w hI
  show W _ _ _ _ [(0, .pointer (some ⟨y.B, 0, none⟩)), (1, .int .i64 rows), (4, .int .i64 i)] w
  obtain ⟨hi, hM, hR, hPf, hLM, hs⟩ := hI
  by_cases hlt : i < rows
  ·
   have hin : i < n := by omega
   refine W_seq (W_seq (W_region (L_move rfl rfl (L_move rfl rfl (L_lss rfl rfl rfl (dtrue (by omega)) ?_)))))
   refine RL_then (W_if_true rfl (W_skip' (Nx_then (W_seq ?_))))
   refine W_cut3 (fun (M : List Int) (R : List Int) (w : World) => [(0, .pointer (some ⟨y.B, 0, none⟩)), (1, .int .i64 rows), (4, .int .i64 i)]) (fun (M : List Int) (R : List Int) (w : World) => w) (fun (M : List Int) (R : List Int) (w : World) => (InR n M) ∧ (InR n R) ∧ (Pf n C (gi U) (gi V) (toN R) (toN M)) ∧ (LM n C (gi U) (gi V) (i + 1) (toN M)) ∧ (HS w0 w (y.L U V M R ++ []))) ?_ ?_
   ·
    refine W_block (W_seq (W_region (L_assign rfl rfl (RL_then (W_block ?_)))))
    refine W_loop4 (fun (j : Nat) (M : List Int) (R : List Int) (w : World) => [(0, .pointer (some ⟨y.B, 0, none⟩)), (1, .int .i64 rows), (4, .int .i64 i), (5, .int .i64 j)]) (fun (j : Nat) (M : List Int) (R : List Int) (w : World) => w) (fun (j : Nat) (M : List Int) (R : List Int) (w : World) => (InR n M) ∧ (InR n R) ∧ (Pf n C (gi U) (gi V) (toN R) (toN M)) ∧ (LM n C (gi U) (gi V) i (toN M)) ∧ ((j ≤ toN M i ∧ Nb n C (gi U) (gi V) i j (toN M)) ∨ (j = toN M i + 1 ∧ Nb n C (gi U) (gi V) i (toN M i) (toN M))) ∧ (HS w0 w (y.L U V M R ++ []))) (fun (j : Nat) (M : List Int) (R : List Int) (w : World) => n + 1 - j) (0) (M) (R) (w) (is := [0, 1, 4, 5]) rfl rfl ?_ ?_
    ·
     exact ⟨hM, hR, hPf, hLM, .inl ⟨Nat.zero_le _, Nb.zero⟩, hs⟩
    ·
     clear hs hM hR hPf hLM
     intro j M R w hI
     show W _ _ _ _ [(0, .pointer (some ⟨y.B, 0, none⟩)), (1, .int .i64 rows), (4, .int .i64 i), (5, .int .i64 j)] w
     obtain ⟨hM, hR, hPf, hLM, hNb, hs⟩ := hI
     have hMl := hM.len
     have hRl := hR.len
     obtain ⟨hMe, hMn⟩ := hM.nat hin
     by_cases hlt2 : j < toN M i
     ·
      obtain ⟨hj0, hNb⟩ : j ≤ toN M i ∧ Nb n C (gi U) (gi V) i j (toN M) := hNb.resolve_right (by omega)
      have hjn : j < n := by omega
      obtain ⟨hRe, hRn⟩ := hR.nat hjn
      refine W_seq (W_seq (W_region (L_move rfl rfl (L_move rfl rfl (L_nilCheck rfl rfl (L_fieldAddr rfl (off := 4) Try.underlying131 rfl rfl Try.ti60 rfl (L_load rfl Try.one60 rfl (by exact RdS.at hs Own.nil (hrd.bx rfl) hrd.nb) ?_)))))))
      refine L_move rfl rfl (L_idx1 rfl Try.underlying60 Try.ti3 rfl rfl (natc_k _) (by omega) rfl ?_)
      refine L_load rfl Try.one3 rfl (by exact hs.cellA (i := 2) rfl (il_get' (by omega))) ?_
      rw [hMe]
      refine L_lss rfl rfl rfl (dtrue (by omega)) ?_
      refine RL_then (W_if_true rfl (W_skip' (Nx_then (W_seq (W_block (W_seq (W_seq (W_region (L_move rfl rfl (L_move rfl rfl (L_move rfl rfl (L_call rfl Try.fun90 rfl (tight_ok y n i j C U V M R [] w0 w Own.nil hrd hs hin hjn hUl hVl hbU hbV) ?_))))))))))))
      rintro _ w1 ⟨rfl, hs⟩
      by_cases htt : C i j = gi U i + gi V j
      ·
       rw [decide_eq_true htt]
       refine L_not rfl rfl (RL_then (W_if_false rfl (W_skip' (Nx_then (W_seq (W_region (L_move rfl rfl (L_nilCheck rfl rfl (L_fieldAddr rfl (off := 0) Try.underlying131 rfl rfl Try.ti3 rfl (L_load rfl Try.one3 rfl (by exact RdS.at hs Own.nil (hrd.bx rfl) hrd.nb) ?_))))))))))
       refine L_make1 (c := n) rfl hs Try.underlying132 Try.ti4 rfl rfl rfl rfl (Nat.le_refl _) (by omega) (by omega) rfl ?_
       intro gs w hgs _ hs
       rw [List.append_nil, bls_rep] at hs
       have hO : ∀ {S : List Bool}, Own w0 [(gs, Row 4 (bls S))] := Own.cons hgs Own.nil
       refine L_assign rfl rfl (RL_then (W_seq (W_pht [0, 1, 2, 3, 5, 8, 9, 10, 12, 15, 16] [4, 6, 7, 11, 13, 14] [17, 18] (fun _ _ _ => False) Try.mixed (chkAll_of (by kernel_rfl)) (fun _ _ _ _ _ h => h) hs ?_)))
       refine PL_val rfl (fun w => R_move rfl) ?_
       refine PL_val rfl (fun w => R_move rfl) ?_
       refine PL_val rfl (fun w => R_nilCheck rfl) ?_
       refine PL_val rfl (fun w => R_fieldAddr (off := 5) Try.underlying131 rfl rfl Try.ti60 rfl) ?_
       refine PL_val rfl (fun w => R_move rfl) ?_
       refine PL_val rfl (fun w => R_move rfl) ?_
       refine PL_val rfl (fun w => R_nilCheck rfl) ?_
       refine PL_val rfl (fun w => R_fieldAddr (off := 4) Try.underlying131 rfl rfl Try.ti60 rfl) ?_
       refine PL_val rfl (fun w => R_move rfl) ?_
       refine PL_val rfl (fun w => R_move rfl) ?_
       refine PL_val rfl (fun w => R_move rfl) ?_
       refine PL_end (HL_val rfl (fun w hs => R_load Try.one60 rfl (by exact RdS.at hs hO (hrd.bx rfl) hrd.nb)) ?_)
       refine HL_val rfl (fun w hs => R_idx1 Try.underlying60 Try.ti3 rfl rfl (natc_k _) (by omega) rfl) ?_
       refine HL_val rfl (fun w hs => R_load Try.one3 rfl (by exact hs.cellA (i := 3) rfl (il_get' (by omega)))) ?_
       refine HL_val rfl (fun w hs => R_load Try.one60 rfl (by exact RdS.at hs hO (hrd.bx rfl) hrd.nb)) ?_
       refine HL_val rfl (fun w hs => R_idx1 Try.underlying60 Try.ti3 rfl rfl (natc_k _) (by omega) rfl) ?_
       refine HL_val rfl (fun w hs => R_load Try.one3 rfl (by exact hs.cellA (i := 2) rfl (il_get' (by omega)))) ?_
       refine HL_tail ?_
       intro w hs
       rw [hRe, hMe]
       refine L_call rfl Try.fun91 rfl (away_ok hgs hrd hn2 hin hUl hVl hM hR hbU hbV hPf (toN M i) rfl n (List.replicate n false) (toN R j) w (Nat.le_trans List.count_le_length (by simp)) (by simp) (fun q hq => by simp only [gbo, List.getD, List.getElem?_replicate] at hq; split at hq <;> simp at hq) hRn hs) ?_
       rintro _ w2 (⟨rfl, S', hs, hS', hS'r, hCl⟩ | ⟨rfl, S', M', R', hs, hM', hR', hn', hRot, hk'⟩)
       ·
        have hno : ∀ K, TB n C (gi U) (gi V) K → (∀ q, q < i → K q = toN M q) → K i ≠ j := fun K hK hlow => by
         refine hPf.no_turn hin hjn (fun k => gbo S' (toN R k) = true ∨ toN R k < i) ?_ ?_ ?_ hK hlow
         ·
          rcases hS'r with h5 | h5
          ·
           exact .inl h5
          ·
           right
           rcases Nat.lt_or_ge (toN R j) i with h6 | h6
           ·
            exact h6
           ·
            have h7 : toN R j = i := by omega
            have := (hPf.oh j hjn).2
            rw [h7] at this; omega
         ·
          rw [(hPf.ho i hin).2]
          rintro (h5 | h5)
          ·
           exact absurd (hS'.low i h5) (Nat.lt_irrefl i)
          ·
           omega
         ·
          intro k hk hRk hik m hm ht
          have h5 : gbo S' (toN R k) = true := hRk.resolve_right (by omega)
          by_cases hmk : m = toN M (toN R k)
          ·
           rw [hmk, (hPf.oh k hk).2]; exact .inl h5
          ·
           obtain ⟨h6, h7⟩ := hCl (toN R k) (hPf.oh k hk).1 h5 (by
            show (List.replicate n false).getD _ false = false
            simp only [List.getD, List.getElem?_replicate]; split <;> rfl) m hm ht hmk
           rcases h7 with h7 | h7
           ·
            exact .inl h7
           ·
            right
            rcases Nat.lt_or_ge (toN R m) i with h8 | h8
            ·
             exact h8
            ·
             have h9 : toN R m = i := by omega
             exact absurd (by rw [← h9, (hPf.oh m hm).2]) h6
        refine L_assign rfl rfl (RL_then (W_seq (W_region (L_move rfl rfl (RL_then (W_if_false rfl (W_skip' (Nx_block (Nx_then (W_region (L_move rfl rfl (L_add rfl rfl rfl (wrp_i64 (by omega)) ?_))))))))))))
        refine L_assign rfl rfl (RL_nil' ?_)
        refine Nx_loopP (j + 1, M, R, w2) (is := [0, 1, 4, 5]) (I' := (fun (j : Nat) (M : List Int) (R : List Int) (w : World) => (InR n M) ∧ (InR n R) ∧ (Pf n C (gi U) (gi V) (toN R) (toN M)) ∧ (LM n C (gi U) (gi V) i (toN M)) ∧ ((j ≤ toN M i ∧ Nb n C (gi U) (gi V) i j (toN M)) ∨ (j = toN M i + 1 ∧ Nb n C (gi U) (gi V) i (toN M i) (toN M))) ∧ (HS w0 w (y.L U V M R ++ []))) (j + 1) (M) (R) (w2)) rfl rfl rfl ?_ ?_
        ·
         exact ⟨hM, hR, hPf, hLM, .inl ⟨by omega, hNb.next hno⟩, by rw [List.append_nil]; exact hs.dropR hO⟩
        ·
         omega
       ·
        have hMl' := hM'.len
        have hRl' := hR'.len
        rw [(hPf.oh j hjn).2] at hRot
        obtain ⟨q1, q2, q3⟩ := hM'.set hin hjn
        obtain ⟨o1, o2, o3⟩ := hR'.set hjn hin
        have hfin := hRot.fin hPf.feas hin hjn htt o2 o3 q2 q3
        have hlow : ∀ q, q < i → toN (M'.set i (j : Int)) q = toN M q := fun q hq => by rw [q3 q (by omega)]; exact hRot.low q hq
        refine L_assign rfl rfl (RL_then (W_seq (W_region (L_move rfl rfl (RL_then (W_if_true rfl (W_seq (W_region (L_move rfl rfl (L_nilCheck rfl rfl (L_fieldAddr rfl (off := 4) Try.underlying131 rfl rfl Try.ti60 rfl (L_load rfl Try.one60 rfl (by exact RdS.at hs hO (hrd.bx rfl) hrd.nb) ?_))))))))))))
        refine L_move rfl rfl (L_move rfl rfl (L_idx1 rfl Try.underlying60 Try.ti3 rfl rfl (natc_k _) (by omega) rfl ?_))
        refine L_store hs (i := 2) rfl Try.ti3 rfl rfl (by exact add_lit0 _ _) (by simp; omega) rfl ?_
        intro w hs
        dsimp only [List.set_cons_succ, List.set_cons_zero, List.cons_append, List.nil_append] at hs
        refine RL_then (W_region ?_)
        rw [il_set' _ _ _ _ (by omega)] at hs
        refine L_move rfl rfl (L_nilCheck rfl rfl (L_fieldAddr rfl (off := 5) Try.underlying131 rfl rfl Try.ti60 rfl (L_load rfl Try.one60 rfl (by exact RdS.at hs hO (hrd.bx rfl) hrd.nb) ?_)))
        refine L_move rfl rfl (L_move rfl rfl (L_idx1 rfl Try.underlying60 Try.ti3 rfl rfl (natc_k _) (by omega) rfl ?_))
        refine L_store hs (i := 3) rfl Try.ti3 rfl rfl (by exact add_lit0 _ _) (by simp; omega) rfl ?_
        intro w hs
        dsimp only [List.set_cons_succ, List.set_cons_zero, List.cons_append, List.nil_append] at hs
        refine RL_nil' (Nx_block (Nx_then (W_region (L_move rfl rfl (L_add rfl rfl rfl (wrp_i64 (by omega)) ?_)))))
        refine L_assign rfl rfl (RL_nil' ?_)
        rw [il_set' _ _ _ _ (by omega)] at hs
        refine Nx_loopP (j + 1, M'.set i (j : Int), R'.set j (i : Int), w) (is := [0, 1, 4, 5]) (I' := (fun (j : Nat) (M : List Int) (R : List Int) (w : World) => (InR n M) ∧ (InR n R) ∧ (Pf n C (gi U) (gi V) (toN R) (toN M)) ∧ (LM n C (gi U) (gi V) i (toN M)) ∧ ((j ≤ toN M i ∧ Nb n C (gi U) (gi V) i j (toN M)) ∨ (j = toN M i + 1 ∧ Nb n C (gi U) (gi V) i (toN M i) (toN M))) ∧ (HS w0 w (y.L U V M R ++ []))) (j + 1) (M'.set i (j : Int)) (R'.set j (i : Int)) (w)) rfl rfl rfl ?_ ?_
        ·
         exact ⟨q1, o1, hfin, hLM.congr hlow, .inr ⟨by rw [q2], by rw [q2]; exact hNb.congr hlow⟩, by rw [List.append_nil]; exact hs.dropR hO⟩
        ·
         omega
      ·
       rw [decide_eq_false htt]
       refine L_not rfl rfl (RL_then (W_if_true rfl (W_exit' (Ex_then_exit (Ex_block_hit (Nx_then (W_region (L_move rfl rfl (L_add rfl rfl rfl (wrp_i64 (by omega)) ?_)))))))))
       refine L_assign rfl rfl (RL_nil' ?_)
       refine Nx_loopP (j + 1, M, R, w1) (is := [0, 1, 4, 5]) (I' := (fun (j : Nat) (M : List Int) (R : List Int) (w : World) => (InR n M) ∧ (InR n R) ∧ (Pf n C (gi U) (gi V) (toN R) (toN M)) ∧ (LM n C (gi U) (gi V) i (toN M)) ∧ ((j ≤ toN M i ∧ Nb n C (gi U) (gi V) i j (toN M)) ∨ (j = toN M i + 1 ∧ Nb n C (gi U) (gi V) i (toN M i) (toN M))) ∧ (HS w0 w (y.L U V M R ++ []))) (j + 1) (M) (R) (w1)) rfl rfl rfl ?_ ?_
       ·
        exact ⟨hM, hR, hPf, hLM, .inl ⟨by omega, hNb.next (fun K hK _ he => htt (by have := hK.2 i hin; rw [he] at this; exact this))⟩, hs⟩
       ·
        omega
     ·
      have hNb' : Nb n C (gi U) (gi V) i (toN M i) (toN M) := by
       rcases hNb with ⟨h5, h6⟩ | ⟨_, h6⟩
       ·
        rw [show j = toN M i by omega] at h6; exact h6
       ·
        exact h6
      refine W_seq (W_seq (W_region (L_move rfl rfl (L_move rfl rfl (L_nilCheck rfl rfl (L_fieldAddr rfl (off := 4) Try.underlying131 rfl rfl Try.ti60 rfl (L_load rfl Try.one60 rfl (by exact RdS.at hs Own.nil (hrd.bx rfl) hrd.nb) ?_)))))))
      refine L_move rfl rfl (L_idx1 rfl Try.underlying60 Try.ti3 rfl rfl (natc_k _) (by omega) rfl ?_)
      refine L_load rfl Try.one3 rfl (by exact hs.cellA (i := 2) rfl (il_get' (by omega))) ?_
      rw [hMe]
      refine L_lss rfl rfl rfl (dfalse (by omega)) ?_
      refine RL_then (W_if_false rfl (W_exit' (Ex_then_exit (Ex_loop_exit (Ex_block_hit (Nx_block (Nx_cutP (M, R, w) (is := [0, 1, 4]) (I' := (fun (M : List Int) (R : List Int) (w : World) => (InR n M) ∧ (InR n R) ∧ (Pf n C (gi U) (gi V) (toN R) (toN M)) ∧ (LM n C (gi U) (gi V) (i + 1) (toN M)) ∧ (HS w0 w (y.L U V M R ++ []))) (M) (R) (w)) rfl rfl rfl ?_)))))))
      exact ⟨hM, hR, hPf, hLM.next hNb', hs⟩
   ·
    clear hs hM hR hPf hLM
    intro M R w hI
    show W _ _ _ _ [(0, .pointer (some ⟨y.B, 0, none⟩)), (1, .int .i64 rows), (4, .int .i64 i)] w
    obtain ⟨hM, hR, hPf, hLM, hs⟩ := hI
    refine W_region (L_move rfl rfl (L_add rfl rfl rfl (wrp_i64 (by omega)) ?_))
    refine L_assign rfl rfl (RL_nil' ?_)
    refine Nx_loopP (i + 1, M, R, w) (is := [0, 1, 4]) (I' := (fun (i : Nat) (M : List Int) (R : List Int) (w : World) => (i ≤ rows) ∧ (InR n M) ∧ (InR n R) ∧ (Pf n C (gi U) (gi V) (toN R) (toN M)) ∧ (LM n C (gi U) (gi V) i (toN M)) ∧ (HS w0 w (y.L U V M R ++ []))) (i + 1) (M) (R) (w)) rfl rfl rfl ?_ ?_
    ·
     exact ⟨by omega, hM, hR, hPf, hLM, hs⟩
    ·
     omega
  ·
   obtain rfl : rows = i := by omega
   refine W_seq (W_seq (W_region (L_move rfl rfl (L_move rfl rfl (L_lss rfl rfl rfl (dfalse (by omega)) ?_)))))
   refine RL_then (W_if_false rfl (W_exit' (Ex_then_exit (Ex_loop_exit (Ex_block_hit (Nx_done0 rfl ?_))))))
   exact ⟨_, rfl, M, R, by rw [List.append_nil] at hs; exact hs, hM, hR, hPf, hLM⟩
end Go.Proofs.Ytknpoemkmcdgcaa
