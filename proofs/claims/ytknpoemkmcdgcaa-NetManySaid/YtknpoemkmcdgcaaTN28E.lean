/-
 A part of the proof: what functions that the statement reaches do, or a plain law on what they do. Each theorem holds under its own premises alone.
-/
import Derived.Test.YtknpoemkmcdgcaaKitP
import Derived.Test.YtknpoemkmcdgcaaTN28A
import Derived.Test.YtknpoemkmcdgcaaKitY
namespace Go.Proofs.Ytknpoemkmcdgcaa
open Go Go.Lk Go.Pr
/-- Where a square of the document lies. -/
structure Ly where
 B : Nat
 gC : Nat
 cC : Nat
 u : Nat
 cu : Nat
 v : Nat
 cv : Nat
 m : Nat
 cm : Nat
 o : Nat
 co : Nat
 su : List Value
 sv : List Value
 sm : List Value
 so : List Value
abbrev Ly.row (y : Ly) (n : Nat) : List Value := [.int .i64 n, .slice (some ⟨y.gC, 0, none⟩) n y.cC, .slice (some ⟨y.u, 0, none⟩) n y.cu, .slice (some ⟨y.v, 0, none⟩) n y.cv, .slice (some ⟨y.m, 0, none⟩) n y.cm, .slice (some ⟨y.o, 0, none⟩) n y.co]
abbrev Ly.ks (y : Ly) : List Nat := [y.u, y.v, y.m, y.o]
abbrev Ly.L (y : Ly) (U V M R : List Int) : List (Nat × Obj) := [(y.u, Row 2 (il U ++ y.su)), (y.v, Row 2 (il V ++ y.sv)), (y.m, Row 3 (il M ++ y.sm)), (y.o, Row 3 (il R ++ y.so))]
structure RdS (w0 : World) (y : Ly) (n : Nat) (C : Nat → Nat → Int) : Prop where
 box : w0.heap[y.B]? = some (Row 131 (y.row n))
 nb : y.B ∉ y.ks
 nc : y.gC ∉ y.ks
 row : ∀ r, r < n → ∃ g cap, w0.cell? ((Addr.mk y.gC 0 none).add r) = some (.slice (some ⟨g, 0, none⟩) n cap) ∧ g ∉ y.ks ∧ ∀ j, j < n → w0.cell? ((Addr.mk g 0 none).add j) = some (.int .i64 (C r j))
theorem RdS.at {w0 w : World} {y : Ly} {U V M R : List Int} {N : List (Nat × Obj)} (hs : HS w0 w (y.L U V M R ++ N)) (ho : Own w0 N) {b j : Nat} {x : Value} (hc : w0.cell? ((Addr.mk b 0 none).add j) = some x) (hb : b ∉ y.ks) : w.cell? ((Addr.mk b 0 none).add j) = some x := by
 refine hs.oldcell hc ?_
 rw [Lk.block_add, List.map_append, List.mem_append, not_or]
 refine ⟨hb, ho.notin ?_⟩
 have := World.block_lt_of_cell? w0 _ hc
 rwa [Lk.block_add] at this
theorem RdS.bx {w0 : World} {y : Ly} {n : Nat} {C : Nat → Nat → Int} (h : RdS w0 y n C) {j : Nat} {x : Value} (hv : (y.row n)[j]? = some x) : w0.cell? ((Addr.mk y.B 0 none).add j) = some x := by
 rw [add_lit0]; exact Lk.cell_of_row h.box hv
theorem RdS.old {w0 w : World} {y : Ly} {n : Nat} {C : Nat → Nat → Int} {U V M R : List Int} {N : List (Nat × Obj)} (h : RdS w0 y n C) (hs : HS w0 w (y.L U V M R ++ N)) (ho : Own w0 N) : RdS w y n C := by
 refine ⟨?_, h.nb, h.nc, fun r hr => ?_⟩
 ·
  have hlt := (Array.getElem?_eq_some_iff.1 h.box).1
  rw [hs.old hlt (by rw [List.map_append, List.mem_append, not_or]; exact ⟨h.nb, ho.notin hlt⟩)]
  exact h.box
 ·
  obtain ⟨g, cap, h1, h2, h3⟩ := h.row r hr
  exact ⟨g, cap, RdS.at hs ho h1 h.nc, h2, fun j hj => RdS.at hs ho (h3 j hj) h2⟩
/-- Mates and rows fit. -/
structure SqM (n i : Nat) (of mt : Nat → Int) : Prop where
 inv : ∀ j : Nat, j < n → 0 ≤ of j → mt (of j).toNat = (j : Int)
 up : ∀ q, i ≤ q → q < n → mt q = -1
abbrev EnL (y : Ly) (U V M R : List Int) (gd gf ge : Nat) (D F : List Int) (E : List Bool) : List (Nat × Obj) := y.L U V M R ++ [(gd, Row 2 (il D)), (gf, Row 3 (il F)), (ge, Row 4 (bls E))]
set_option maxHeartbeats 16000000 in
theorem enter_ok (y : Ly) (n i : Nat) (C : Nat → Nat → Int) (U V M R : List Int) (w0 : World) (hC : ∀ r j, r < n → j < n → 0 ≤ C r j ∧ C r j ≤ 4503599627370496) (h2 : n ≤ 512) (hin : i < n) (hrd : RdS w0 y n C)
  (hG : HS w0 w0 (y.L U V M R)) (hUl : U.length = n) (hVl : V.length = n) (hMl : M.length = n) (hRl : R.length = n) (hSq : Sq n C i (gi R) (gi U) (gi V)) (hMa : SqM n i (gi R) (gi M)) :
  Ret Try.prog 89 [.pointer (some ⟨y.B, 0, none⟩), .int .i64 i] w0 fun _ w' => ∃ U' V' M' R', HS w0 w' (y.L U' V' M' R') ∧ U'.length = n ∧ V'.length = n ∧ M'.length = n ∧ R'.length = n ∧ Sq n C (i + 1) (gi R') (gi U') (gi V') ∧ SqM n (i + 1) (gi R') (gi M') ∧ (∀ r, r < n → 0 ≤ gi U' r ∧ gi U' r ≤ BB) ∧ ∀ j, j < n → -BB ≤ gi V' j ∧ gi V' j ≤ 0 := by
 have hs := hG
 obtain ⟨g1, cp1, hr1, hr2, hr3⟩ := hrd.row i hin
 have hui : gi U i = 0 := hSq.uz i (Nat.le_refl _)
 have hTr0 := hSq.enter (fun j hj => (hC i j hin hj).1) (slack := fun _ => 4611686018427387904) (back := fun _ => -1) (done := fun _ => false) (fun _ _ => rfl) (fun _ _ => rfl)
 obtain ⟨hbU, hbV⟩ := hTr0.bounds hin hC
 clear hTr0
 refine calls_of_W Try.func89 rfl rfl rfl (W_seq (W_region (L_move rfl rfl (L_nilCheck rfl rfl (L_fieldAddr rfl (off := 0) Try.underlying131 rfl rfl Try.ti3 rfl ?_)))))
 refine L_load rfl Try.one3 rfl (by rw [← List.append_nil (y.L U V M R)] at hs; exact RdS.at hs Own.nil (hrd.bx rfl) hrd.nb) ?_
 refine L_make1 (c := n) rfl hs Try.underlying93 Try.ti2 rfl rfl rfl rfl (Nat.le_refl _) (by omega) (by omega) rfl ?_
 intro gd w hgd _ hs
 refine L_assign rfl rfl (RL_then (W_seq (W_region (L_move rfl rfl (L_nilCheck rfl rfl (L_fieldAddr rfl (off := 0) Try.underlying131 rfl rfl Try.ti3 rfl (L_load rfl Try.one3 rfl (by exact RdS.at hs (Own.cons hgd Own.nil) (hrd.bx rfl) hrd.nb) ?_)))))))
 refine L_make1 (c := n) rfl hs Try.underlying60 Try.ti3 rfl rfl rfl rfl (Nat.le_refl _) (by omega) (by omega) rfl ?_
 intro gf w hgf _ hs
 rw [List.append_assoc] at hs
 refine L_assign rfl rfl (RL_then (W_seq (W_region (L_move rfl rfl (L_nilCheck rfl rfl (L_fieldAddr rfl (off := 0) Try.underlying131 rfl rfl Try.ti3 rfl (L_load rfl Try.one3 rfl (by exact RdS.at hs (Own.cons hgd (Own.cons hgf Own.nil)) (hrd.bx rfl) hrd.nb) ?_)))))))
 refine L_make1 (c := n) rfl hs Try.underlying132 Try.ti4 rfl rfl rfl rfl (Nat.le_refl _) (by omega) (by omega) rfl ?_
 intro ge w hge _ hs
 simp only [il_rep, bls_rep] at hs
 replace hs : HS w0 w (EnL y U V M R gd gf ge (List.replicate n 0) (List.replicate n 0) (List.replicate n false)) := hs
 have hO : ∀ {D F : List Int} {E : List Bool}, Own w0 [(gd, Row 2 (il D)), (gf, Row 3 (il F)), (ge, Row 4 (bls E))] := Own.cons hgd (Own.cons hgf (Own.cons hge Own.nil))
 have hold : ∀ {w : World} {U V M R D F : List Int} {E : List Bool}, HS w0 w (EnL y U V M R gd gf ge D F E) → ∀ {b j : Nat} {x : Value}, w0.cell? ((Addr.mk b 0 none).add j) = some x → b ∉ y.ks → w.cell? ((Addr.mk b 0 none).add j) = some x := fun hs _ _ _ hc hb => RdS.at hs hO hc hb
 refine L_assign rfl rfl (RL_then (W_seq (W_seq (W_region (L_assign rfl rfl (RL_then (W_block ?_)))))))
 refine W_loop4 (fun (j : Nat) (D : List Int) (F : List Int) (w : World) => [(0, .pointer (some ⟨y.B, 0, none⟩)), (1, .int .i64 i), (4, .slice (some ⟨gd, 0, none⟩) n n), (5, .slice (some ⟨gf, 0, none⟩) n n), (6, .slice (some ⟨ge, 0, none⟩) n n), (7, .int .i64 j)]) (fun (j : Nat) (D : List Int) (F : List Int) (w : World) => w) (fun (j : Nat) (D : List Int) (F : List Int) (w : World) => (j ≤ n) ∧ (D.length = n) ∧ (F.length = n) ∧ (∀ z, z < j → gi D z = C i z - gi U i - gi V z) ∧ (∀ z, z < j → gi F z = (i : Int)) ∧ (HS w0 w (EnL y U V M R gd gf ge D F (List.replicate n false)))) (fun (j : Nat) (D : List Int) (F : List Int) (w : World) => n - j) (0) (List.replicate n 0) (List.replicate n 0) (w) (is := [0, 1, 4, 5, 6, 7]) rfl rfl ?_ ?_
 ·
  exact ⟨Nat.zero_le _, by simp, by simp, fun _ h => absurd h (Nat.not_lt_zero _), fun _ h => absurd h (Nat.not_lt_zero _), hs⟩
 ·
  clear hs
  intro j D F w hI
  show W _ _ _ _ [(0, .pointer (some ⟨y.B, 0, none⟩)), (1, .int .i64 i), (4, .slice (some ⟨gd, 0, none⟩) n n), (5, .slice (some ⟨gf, 0, none⟩) n n), (6, .slice (some ⟨ge, 0, none⟩) n n), (7, .int .i64 j)] w
  obtain ⟨hj, hDl, hFl, hD, hF, hs⟩ := hI
  by_cases hlt : j < n
  ·
   have b1 := hC i j hin hlt
   have b2 : 0 ≤ U.getD i 0 ∧ U.getD i 0 ≤ 4503599627370496 := hbU i hin
   have b3 : -4503599627370496 ≤ V.getD j 0 ∧ V.getD j 0 ≤ 0 := hbV j hlt
   refine W_seq (W_seq (W_region (L_move rfl rfl (L_move rfl rfl (L_nilCheck rfl rfl (L_fieldAddr rfl (off := 0) Try.underlying131 rfl rfl Try.ti3 rfl (L_load rfl Try.one3 rfl (by exact hold hs (hrd.bx rfl) hrd.nb) ?_)))))))
   refine L_lss rfl rfl rfl (dtrue (by omega)) ?_
   refine RL_then (W_if_true rfl (W_skip' (Nx_then (W_seq (W_block (W_seq (W_pht [0, 1, 2, 3, 4, 6, 9, 12, 13, 14, 16, 20, 21, 22, 24] [5, 7, 8, 10, 11, 15, 17, 18, 19, 23, 25, 26, 27, 28] [29] (fun _ _ _ => False) Try.mixed (chkAll_of (by kernel_rfl)) (fun _ _ _ _ _ h => h) hs ?_)))))))
   refine PL_val rfl (fun w => R_move rfl) ?_
   refine PL_val rfl (fun w => R_move rfl) ?_
   refine PL_val rfl (fun w => R_move rfl) ?_
   refine PL_val rfl (fun w => R_nilCheck rfl) ?_
   refine PL_val rfl (fun w => R_fieldAddr (off := 1) Try.underlying131 rfl rfl Try.ti89 rfl) ?_
   refine PL_val rfl (fun w => R_move rfl) ?_
   refine PL_val rfl (fun w => R_move rfl) ?_
   refine PL_val rfl (fun w => R_move rfl) ?_
   refine PL_val rfl (fun w => R_nilCheck rfl) ?_
   refine PL_val rfl (fun w => R_fieldAddr (off := 2) Try.underlying131 rfl rfl Try.ti93 rfl) ?_
   refine PL_val rfl (fun w => R_move rfl) ?_
   refine PL_val rfl (fun w => R_move rfl) ?_
   refine PL_val rfl (fun w => R_nilCheck rfl) ?_
   refine PL_val rfl (fun w => R_fieldAddr (off := 3) Try.underlying131 rfl rfl Try.ti93 rfl) ?_
   refine PL_val rfl (fun w => R_move rfl) ?_
   refine PL_end (HL_val rfl (fun w hs => R_load Try.one89 rfl (by exact hold hs (hrd.bx rfl) hrd.nb)) ?_)
   refine HL_val rfl (fun w hs => R_idx1 Try.underlying89 Try.ti93 rfl rfl (natc_k _) (by omega) rfl) ?_
   refine HL_val rfl (fun w hs => R_load Try.one93 rfl (by exact hold hs hr1 hrd.nc)) ?_
   refine HL_val rfl (fun w hs => R_idx1 Try.underlying93 Try.ti2 rfl rfl (natc_k _) (by omega) rfl) ?_
   refine HL_val rfl (fun w hs => R_load Try.one2 rfl (by exact hold hs (hr3 _ (by omega)) hr2)) ?_
   refine HL_val rfl (fun w hs => R_load Try.one93 rfl (by exact hold hs (hrd.bx rfl) hrd.nb)) ?_
   refine HL_val rfl (fun w hs => R_idx1 Try.underlying93 Try.ti2 rfl rfl (natc_k _) (by omega) rfl) ?_
   refine HL_val rfl (fun w hs => R_load Try.one2 rfl (by exact hs.cellA (i := 0) rfl (il_get' (by omega)))) ?_
   refine HL_val rfl (fun w hs => R_sub rfl rfl (wrp_i64 (by omega))) ?_
   refine HL_val rfl (fun w hs => R_load Try.one93 rfl (by exact hold hs (hrd.bx rfl) hrd.nb)) ?_
   refine HL_val rfl (fun w hs => R_idx1 Try.underlying93 Try.ti2 rfl rfl (natc_k _) (by omega) rfl) ?_
   refine HL_val rfl (fun w hs => R_load Try.one2 rfl (by exact hs.cellA (i := 1) rfl (il_get' (by omega)))) ?_
   refine HL_val rfl (fun w hs => R_sub rfl rfl (wrp_i64 (by omega))) ?_
   refine HL_val rfl (fun w hs => R_idx1 Try.underlying93 Try.ti2 rfl rfl (natc_k _) (by omega) rfl) ?_
   refine HL_tail ?_
   intro w hs
   refine L_store hs (i := 4) rfl Try.ti2 rfl rfl (by exact add_lit0 _ _) (by simp; omega) rfl ?_
   intro w hs
   dsimp only [List.set_cons_succ, List.set_cons_zero, List.cons_append, List.nil_append] at hs
   refine RL_then (W_region (L_move rfl rfl (L_move rfl rfl (L_move rfl rfl (L_idx1 rfl Try.underlying60 Try.ti3 rfl rfl (natc_k _) (by omega) rfl ?_)))))
   refine L_store hs (i := 5) rfl Try.ti3 rfl rfl (by exact add_lit0 _ _) (by simp; omega) rfl ?_
   intro w hs
   dsimp only [List.set_cons_succ, List.set_cons_zero, List.cons_append, List.nil_append] at hs
   refine RL_nil' (Nx_block (Nx_then (W_region (L_move rfl rfl (L_add rfl rfl rfl (wrp_i64 (by omega)) ?_)))))
   refine L_assign rfl rfl (RL_nil' ?_)
   rw [il_set, il_set] at hs
   refine Nx_loopP (j + 1, D.set j (C i j - gi U i - gi V j), F.set j i, w) (is := [0, 1, 4, 5, 6, 7]) (I' := (fun (j : Nat) (D : List Int) (F : List Int) (w : World) => (j ≤ n) ∧ (D.length = n) ∧ (F.length = n) ∧ (∀ z, z < j → gi D z = C i z - gi U i - gi V z) ∧ (∀ z, z < j → gi F z = (i : Int)) ∧ (HS w0 w (EnL y U V M R gd gf ge D F (List.replicate n false)))) (j + 1) (D.set j (C i j - gi U i - gi V j)) (F.set j i) (w)) rfl rfl rfl ?_ ?_
   ·
    refine ⟨by omega, by simp [hDl], by simp [hFl], fun z hz => ?_, fun z hz => ?_, hs⟩
    ·
     rw [gi, gset (by omega)]
     split
     ·
      rename_i h5; rw [h5]
     ·
      exact hD z (by omega)
    ·
     rw [gi, gset (by omega)]
     split
     ·
      rfl
     ·
      exact hF z (by omega)
   ·
    omega
  ·
   obtain rfl : n = j := by omega
   refine W_seq (W_seq (W_region (L_move rfl rfl (L_move rfl rfl (L_nilCheck rfl rfl (L_fieldAddr rfl (off := 0) Try.underlying131 rfl rfl Try.ti3 rfl (L_load rfl Try.one3 rfl (by exact hold hs (hrd.bx rfl) hrd.nb) ?_)))))))
   refine L_lss rfl rfl rfl (dfalse (by omega)) ?_
   refine RL_then (W_if_false rfl ?_)
   have hEn := hSq.en hin (Int.le_refl _) hC (dist := gi D) (frm := gi F) (done := gbo (List.replicate n false)) (fun z hz => grep hz) hD hF
   clear hD hF
   refine W_exit' (Ex_then_exit (Ex_loop_exit (Ex_block_hit (Nx_then (W_seq (W_region (L_assign rfl rfl (RL_then (W_seq (W_region (L_assign rfl rfl (RL_then ?_))))))))))))
   refine W_seq ?_
   refine W_cut6 (fun (D : List Int) (F : List Int) (E : List Bool) (k : Nat) (t : Nat) (w : World) => [(0, .pointer (some ⟨y.B, 0, none⟩)), (1, .int .i64 i), (4, .slice (some ⟨gd, 0, none⟩) n n), (5, .slice (some ⟨gf, 0, none⟩) n n), (6, .slice (some ⟨ge, 0, none⟩) n n), (8, .int .i64 k), (9, .int .i64 (gi D k))]) (fun (D : List Int) (F : List Int) (E : List Bool) (k : Nat) (t : Nat) (w : World) => w) (fun (D : List Int) (F : List Int) (E : List Bool) (k : Nat) (t : Nat) (w : World) => (D.length = n) ∧ (F.length = n) ∧ (E.length = n) ∧ (k < n) ∧ (gbo E k = true) ∧ (gi R k = -1) ∧ (Ch n C i (gi R) (gi U) (gi V) (gi D) (gi F) (gbo E) k t) ∧ (HS w0 w (EnL y U V M R gd gf ge D F E))) ?_ ?_
   ·
    refine W_block ?_
    refine W_loop7 (fun (D : List Int) (F : List Int) (E : List Bool) (rho : Int) (reach : Int) (t : Nat) (w : World) => [(0, .pointer (some ⟨y.B, 0, none⟩)), (1, .int .i64 i), (4, .slice (some ⟨gd, 0, none⟩) n n), (5, .slice (some ⟨gf, 0, none⟩) n n), (6, .slice (some ⟨ge, 0, none⟩) n n), (8, .int .i64 (-1)), (9, .int .i64 reach)]) (fun (D : List Int) (F : List Int) (E : List Bool) (rho : Int) (reach : Int) (t : Nat) (w : World) => w) (fun (D : List Int) (F : List Int) (E : List Bool) (rho : Int) (reach : Int) (t : Nat) (w : World) => (D.length = n) ∧ (F.length = n) ∧ (E.length = n) ∧ (En n C i (gi R) (gi U) (gi V) (gi D) (gi F) (gbo E) rho t) ∧ (HS w0 w (EnL y U V M R gd gf ge D F E))) (fun (D : List Int) (F : List Int) (E : List Bool) (rho : Int) (reach : Int) (t : Nat) (w : World) => n + 1 - t) (D) (F) (List.replicate n false) (0) (0) (0) (w) (is := [0, 1, 4, 5, 6, 8, 9]) rfl rfl ?_ ?_
    ·
     exact ⟨hDl, hFl, by simp, hEn, hs⟩
    ·
     clear hs hEn hDl hFl
     intro D F E rho reach t w hI
     show W _ _ _ _ [(0, .pointer (some ⟨y.B, 0, none⟩)), (1, .int .i64 i), (4, .slice (some ⟨gd, 0, none⟩) n n), (5, .slice (some ⟨gf, 0, none⟩) n n), (6, .slice (some ⟨ge, 0, none⟩) n n), (8, .int .i64 (-1)), (9, .int .i64 reach)] w
     obtain ⟨hDl, hFl, hEl, hEn, hs⟩ := hI
     obtain ⟨⟨f0, hf0, hf0d⟩, htn⟩ := hEn.some hin
     obtain ⟨hrho, hDb⟩ := hEn.bd hin hui hC
     refine W_seq (W_seq (W_region (L_move rfl rfl (L_lss rfl rfl rfl (dtrue (by omega)) ?_))))
     refine RL_then (W_if_true rfl (W_skip' (Nx_then (W_block (W_seq (W_region (L_assign rfl rfl (RL_then (W_seq (W_seq (W_region (L_assign rfl rfl ?_))))))))))))
     refine RL_then (W_block ?_)
     refine W_loop3 (fun (j : Nat) (k : Int) (w : World) => [(0, .pointer (some ⟨y.B, 0, none⟩)), (1, .int .i64 i), (4, .slice (some ⟨gd, 0, none⟩) n n), (5, .slice (some ⟨gf, 0, none⟩) n n), (6, .slice (some ⟨ge, 0, none⟩) n n), (8, .int .i64 (-1)), (9, .int .i64 reach), (10, .int .i64 k), (11, .int .i64 j)]) (fun (j : Nat) (k : Int) (w : World) => w) (fun (j : Nat) (k : Int) (w : World) => (j ≤ n) ∧ ((k = -1 ∧ ∀ z, z < j → gbo E z = true) ∨ ∃ kn : Nat, k = (kn : Int) ∧ kn < j ∧ gbo E kn = false ∧ ∀ z, z < j → gbo E z = false → gi D kn ≤ gi D z) ∧ (HS w0 w (EnL y U V M R gd gf ge D F E))) (fun (j : Nat) (k : Int) (w : World) => n - j) (0) (-1) (w) (is := [0, 1, 4, 5, 6, 8, 9, 10, 11]) rfl rfl ?_ ?_
     ·
      exact ⟨Nat.zero_le _, .inl ⟨rfl, fun _ h => absurd h (Nat.not_lt_zero _)⟩, hs⟩
     ·
      clear hs
      intro j k w hI
      show W _ _ _ _ [(0, .pointer (some ⟨y.B, 0, none⟩)), (1, .int .i64 i), (4, .slice (some ⟨gd, 0, none⟩) n n), (5, .slice (some ⟨gf, 0, none⟩) n n), (6, .slice (some ⟨ge, 0, none⟩) n n), (8, .int .i64 (-1)), (9, .int .i64 reach), (10, .int .i64 k), (11, .int .i64 j)] w
      obtain ⟨hj, hk, hs⟩ := hI
      by_cases hlt2 : j < n
      ·
       cases hEj : E.getD j false
       ·
        have hxj : (bls E)[j]? = some (.bool false) := by rw [← hEj]; exact bls_get (by omega)
        have hxd : gbo E j = false := hEj
        rcases hk with ⟨rfl, hk⟩ | ⟨kn, rfl, hkn, hkd, hkm⟩
        ·
         refine W_seq (W_seq (W_region (L_move rfl rfl (L_move rfl rfl (L_nilCheck rfl rfl (L_fieldAddr rfl (off := 0) Try.underlying131 rfl rfl Try.ti3 rfl (L_load rfl Try.one3 rfl (by exact hold hs (hrd.bx rfl) hrd.nb) ?_)))))))
         refine L_lss rfl rfl rfl (dtrue (by omega)) ?_
         refine RL_then (W_if_true rfl (W_skip' (Nx_then (W_seq (W_block (W_seq (W_pht [0, 1, 2] [3, 4, 5, 6, 7, 8, 9, 10, 11, 12, 13, 14, 15, 16, 17, 18, 19] [] (fun _ _ _ => False) Try.mixed (chkAll_of (by kernel_rfl)) (fun _ _ _ _ _ h => h) hs ?_)))))))
         refine PL_val rfl (fun w => R_move rfl) ?_
         refine PL_val rfl (fun w => R_move rfl) ?_
         refine PL_val rfl (fun w => R_idx1 Try.underlying132 Try.ti4 rfl rfl (natc_k _) (by omega) rfl) ?_
         refine PL_end (HL_val rfl (fun w hs => R_load Try.one4 rfl (by exact hs.cellA (i := 6) rfl hxj)) ?_)
         refine HL_val rfl (fun w hs => R_not rfl) ?_
         refine HL_val rfl (fun w hs => R_move rfl) ?_
         refine HL_want rfl rfl (HL_val rfl (fun w hs => R_move rfl) ?_)
         refine HL_want rfl rfl (HL_val rfl (fun w hs => R_lss rfl rfl (dtrue (by omega))) ?_)
         refine HL_want rfl rfl (HL_val rfl (fun w hs => R_move rfl) ?_)
         refine HL_skip rfl rfl rfl rfl (HL_skip rfl rfl rfl rfl (HL_skip rfl rfl rfl rfl (HL_skip rfl rfl rfl rfl (HL_skip rfl rfl rfl rfl (HL_skip rfl rfl rfl rfl (HL_skip rfl rfl rfl rfl (HL_skip rfl rfl rfl rfl (HL_skip rfl rfl rfl rfl (HL_want rfl rfl (HL_val rfl (fun w hs => R_pick_t rfl rfl) ?_))))))))))
         refine HL_val rfl (fun w hs => R_pick_t rfl rfl) ?_
         refine HL_tail ?_
         intro w hs
         refine RL_then (W_if_true rfl (W_region (L_move rfl rfl (L_assign rfl rfl (RL_nil' (Nx_block (Nx_then (W_region (L_move rfl rfl (L_add rfl rfl rfl (wrp_i64 (by omega)) ?_))))))))))
         refine L_assign rfl rfl (RL_nil' ?_)
         refine Nx_loopP (j + 1, (j : Int), w) (is := [0, 1, 4, 5, 6, 8, 9, 10, 11]) (I' := (fun (j : Nat) (k : Int) (w : World) => (j ≤ n) ∧ ((k = -1 ∧ ∀ z, z < j → gbo E z = true) ∨ ∃ kn : Nat, k = (kn : Int) ∧ kn < j ∧ gbo E kn = false ∧ ∀ z, z < j → gbo E z = false → gi D kn ≤ gi D z) ∧ (HS w0 w (EnL y U V M R gd gf ge D F E))) (j + 1) ((j : Int)) (w)) rfl rfl rfl ?_ ?_
         ·
          refine ⟨by omega, .inr ⟨j, rfl, by omega, hxd, fun z hz hzd => ?_⟩, hs⟩
          by_cases hzj : z = j
          ·
           rw [hzj]; exact Int.le_refl _
          ·
           rw [hk z (by omega)] at hzd; cases hzd
         ·
          omega
        ·
         by_cases hcm : D.getD j 0 < D.getD kn 0
         ·
          refine W_seq (W_seq (W_region (L_move rfl rfl (L_move rfl rfl (L_nilCheck rfl rfl (L_fieldAddr rfl (off := 0) Try.underlying131 rfl rfl Try.ti3 rfl (L_load rfl Try.one3 rfl (by exact hold hs (hrd.bx rfl) hrd.nb) ?_)))))))
          refine L_lss rfl rfl rfl (dtrue (by omega)) ?_
          refine RL_then (W_if_true rfl (W_skip' (Nx_then (W_seq (W_block (W_seq (W_pht [0, 1, 2] [3, 4, 5, 6, 7, 8, 9, 10, 11, 12, 13, 14, 15, 16, 17, 18, 19] [] (fun _ _ _ => False) Try.mixed (chkAll_of (by kernel_rfl)) (fun _ _ _ _ _ h => h) hs ?_)))))))
          refine PL_val rfl (fun w => R_move rfl) ?_
          refine PL_val rfl (fun w => R_move rfl) ?_
          refine PL_val rfl (fun w => R_idx1 Try.underlying132 Try.ti4 rfl rfl (natc_k _) (by omega) rfl) ?_
          refine PL_end (HL_val rfl (fun w hs => R_load Try.one4 rfl (by exact hs.cellA (i := 6) rfl hxj)) ?_)
          refine HL_val rfl (fun w hs => R_not rfl) ?_
          refine HL_val rfl (fun w hs => R_move rfl) ?_
          refine HL_want rfl rfl (HL_val rfl (fun w hs => R_move rfl) ?_)
          refine HL_want rfl rfl (HL_val rfl (fun w hs => R_lss rfl rfl (dfalse (by omega))) ?_)
          refine HL_want rfl rfl (HL_val rfl (fun w hs => R_move rfl) ?_)
          refine HL_want rfl rfl (HL_val rfl (fun w hs => R_move rfl) ?_)
          refine HL_want rfl rfl (HL_val rfl (fun w hs => R_move rfl) ?_)
          refine HL_want rfl rfl (HL_val rfl (fun w hs => R_idx1 Try.underlying93 Try.ti2 rfl rfl (natc_k _) (by omega) rfl) ?_)
          refine HL_want rfl rfl (HL_val rfl (fun w hs => R_load Try.one2 rfl (by exact hs.cellA (i := 4) rfl (il_get (by omega)))) ?_)
          refine HL_want rfl rfl (HL_val rfl (fun w hs => R_move rfl) ?_)
          refine HL_want rfl rfl (HL_val rfl (fun w hs => R_move rfl) ?_)
          refine HL_want rfl rfl (HL_val rfl (fun w hs => R_idx1 Try.underlying93 Try.ti2 rfl rfl (natc_k _) (by omega) rfl) ?_)
          refine HL_want rfl rfl (HL_val rfl (fun w hs => R_load Try.one2 rfl (by exact hs.cellA (i := 4) rfl (il_get (by omega)))) ?_)
          refine HL_want rfl rfl (HL_val rfl (fun w hs => R_lss rfl rfl (dtrue (by omega))) ?_)
          refine HL_want rfl rfl (HL_val rfl (fun w hs => R_pick_f rfl rfl) ?_)
          refine HL_val rfl (fun w hs => R_pick_t rfl rfl) ?_
          refine HL_tail ?_
          intro w hs
          refine RL_then (W_if_true rfl (W_region (L_move rfl rfl (L_assign rfl rfl (RL_nil' (Nx_block (Nx_then (W_region (L_move rfl rfl (L_add rfl rfl rfl (wrp_i64 (by omega)) ?_))))))))))
          refine L_assign rfl rfl (RL_nil' ?_)
          refine Nx_loopP (j + 1, (j : Int), w) (is := [0, 1, 4, 5, 6, 8, 9, 10, 11]) (I' := (fun (j : Nat) (k : Int) (w : World) => (j ≤ n) ∧ ((k = -1 ∧ ∀ z, z < j → gbo E z = true) ∨ ∃ kn : Nat, k = (kn : Int) ∧ kn < j ∧ gbo E kn = false ∧ ∀ z, z < j → gbo E z = false → gi D kn ≤ gi D z) ∧ (HS w0 w (EnL y U V M R gd gf ge D F E))) (j + 1) ((j : Int)) (w)) rfl rfl rfl ?_ ?_
          ·
           refine ⟨by omega, .inr ⟨j, rfl, by omega, hxd, fun z hz hzd => ?_⟩, hs⟩
           by_cases hzj : z = j
           ·
            rw [hzj]; exact Int.le_refl _
           ·
            have h5 := hkm z (by omega) hzd
            have h6 : gi D j < gi D kn := hcm
            omega
          ·
           omega
         ·
          refine W_seq (W_seq (W_region (L_move rfl rfl (L_move rfl rfl (L_nilCheck rfl rfl (L_fieldAddr rfl (off := 0) Try.underlying131 rfl rfl Try.ti3 rfl (L_load rfl Try.one3 rfl (by exact hold hs (hrd.bx rfl) hrd.nb) ?_)))))))
          refine L_lss rfl rfl rfl (dtrue (by omega)) ?_
          refine RL_then (W_if_true rfl (W_skip' (Nx_then (W_seq (W_block (W_seq (W_pht [0, 1, 2] [3, 4, 5, 6, 7, 8, 9, 10, 11, 12, 13, 14, 15, 16, 17, 18, 19] [] (fun _ _ _ => False) Try.mixed (chkAll_of (by kernel_rfl)) (fun _ _ _ _ _ h => h) hs ?_)))))))
          refine PL_val rfl (fun w => R_move rfl) ?_
          refine PL_val rfl (fun w => R_move rfl) ?_
          refine PL_val rfl (fun w => R_idx1 Try.underlying132 Try.ti4 rfl rfl (natc_k _) (by omega) rfl) ?_
          refine PL_end (HL_val rfl (fun w hs => R_load Try.one4 rfl (by exact hs.cellA (i := 6) rfl hxj)) ?_)
          refine HL_val rfl (fun w hs => R_not rfl) ?_
          refine HL_val rfl (fun w hs => R_move rfl) ?_
          refine HL_want rfl rfl (HL_val rfl (fun w hs => R_move rfl) ?_)
          refine HL_want rfl rfl (HL_val rfl (fun w hs => R_lss rfl rfl (dfalse (by omega))) ?_)
          refine HL_want rfl rfl (HL_val rfl (fun w hs => R_move rfl) ?_)
          refine HL_want rfl rfl (HL_val rfl (fun w hs => R_move rfl) ?_)
          refine HL_want rfl rfl (HL_val rfl (fun w hs => R_move rfl) ?_)
          refine HL_want rfl rfl (HL_val rfl (fun w hs => R_idx1 Try.underlying93 Try.ti2 rfl rfl (natc_k _) (by omega) rfl) ?_)
          refine HL_want rfl rfl (HL_val rfl (fun w hs => R_load Try.one2 rfl (by exact hs.cellA (i := 4) rfl (il_get (by omega)))) ?_)
          refine HL_want rfl rfl (HL_val rfl (fun w hs => R_move rfl) ?_)
          refine HL_want rfl rfl (HL_val rfl (fun w hs => R_move rfl) ?_)
          refine HL_want rfl rfl (HL_val rfl (fun w hs => R_idx1 Try.underlying93 Try.ti2 rfl rfl (natc_k _) (by omega) rfl) ?_)
          refine HL_want rfl rfl (HL_val rfl (fun w hs => R_load Try.one2 rfl (by exact hs.cellA (i := 4) rfl (il_get (by omega)))) ?_)
          refine HL_want rfl rfl (HL_val rfl (fun w hs => R_lss rfl rfl (dfalse (by omega))) ?_)
          refine HL_want rfl rfl (HL_val rfl (fun w hs => R_pick_f rfl rfl) ?_)
          refine HL_val rfl (fun w hs => R_pick_t rfl rfl) ?_
          refine HL_tail ?_
          intro w hs
          refine RL_then (W_if_false rfl (W_skip' (Nx_block (Nx_then (W_region (L_move rfl rfl (L_add rfl rfl rfl (wrp_i64 (by omega)) ?_)))))))
          refine L_assign rfl rfl (RL_nil' ?_)
          refine Nx_loopP (j + 1, (kn : Int), w) (is := [0, 1, 4, 5, 6, 8, 9, 10, 11]) (I' := (fun (j : Nat) (k : Int) (w : World) => (j ≤ n) ∧ ((k = -1 ∧ ∀ z, z < j → gbo E z = true) ∨ ∃ kn : Nat, k = (kn : Int) ∧ kn < j ∧ gbo E kn = false ∧ ∀ z, z < j → gbo E z = false → gi D kn ≤ gi D z) ∧ (HS w0 w (EnL y U V M R gd gf ge D F E))) (j + 1) ((kn : Int)) (w)) rfl rfl rfl ?_ ?_
          ·
           refine ⟨by omega, .inr ⟨kn, rfl, by omega, hkd, fun z hz hzd => ?_⟩, hs⟩
           by_cases hzj : z = j
           ·
            rw [hzj]
            have h6 : ¬gi D j < gi D kn := hcm
            omega
           ·
            exact hkm z (by omega) hzd
          ·
           omega
       ·
        have hxj : (bls E)[j]? = some (.bool true) := by rw [← hEj]; exact bls_get (by omega)
        have hxd : gbo E j = true := hEj
        refine W_seq (W_seq (W_region (L_move rfl rfl (L_move rfl rfl (L_nilCheck rfl rfl (L_fieldAddr rfl (off := 0) Try.underlying131 rfl rfl Try.ti3 rfl (L_load rfl Try.one3 rfl (by exact hold hs (hrd.bx rfl) hrd.nb) ?_)))))))
        refine L_lss rfl rfl rfl (dtrue (by omega)) ?_
        refine RL_then (W_if_true rfl (W_skip' (Nx_then (W_seq (W_block (W_seq (W_pht [0, 1, 2] [3, 4, 5, 6, 7, 8, 9, 10, 11, 12, 13, 14, 15, 16, 17, 18, 19] [] (fun _ _ _ => False) Try.mixed (chkAll_of (by kernel_rfl)) (fun _ _ _ _ _ h => h) hs ?_)))))))
        refine PL_val rfl (fun w => R_move rfl) ?_
        refine PL_val rfl (fun w => R_move rfl) ?_
        refine PL_val rfl (fun w => R_idx1 Try.underlying132 Try.ti4 rfl rfl (natc_k _) (by omega) rfl) ?_
        refine PL_end (HL_val rfl (fun w hs => R_load Try.one4 rfl (by exact hs.cellA (i := 6) rfl hxj)) ?_)
        refine HL_val rfl (fun w hs => R_not rfl) ?_
        refine HL_val rfl (fun w hs => R_move rfl) ?_
        refine HL_skip rfl rfl rfl rfl (HL_skip rfl rfl rfl rfl (HL_skip rfl rfl rfl rfl (HL_skipU rfl rfl rfl (HL_skipU rfl rfl rfl (HL_skipU rfl rfl rfl (HL_skipU rfl rfl rfl (HL_skipU rfl rfl rfl (HL_skipU rfl rfl rfl (HL_skipU rfl rfl rfl (HL_skipU rfl rfl rfl (HL_skipU rfl rfl rfl (HL_skip rfl rfl rfl rfl ?_))))))))))))
        refine HL_val rfl (fun w hs => R_pick_f rfl rfl) ?_
        refine HL_tail ?_
        intro w hs
        refine RL_then (W_if_false rfl (W_skip' (Nx_block (Nx_then (W_region (L_move rfl rfl (L_add rfl rfl rfl (wrp_i64 (by omega)) ?_)))))))
        refine L_assign rfl rfl (RL_nil' ?_)
        refine Nx_loopP (j + 1, k, w) (is := [0, 1, 4, 5, 6, 8, 9, 10, 11]) (I' := (fun (j : Nat) (k : Int) (w : World) => (j ≤ n) ∧ ((k = -1 ∧ ∀ z, z < j → gbo E z = true) ∨ ∃ kn : Nat, k = (kn : Int) ∧ kn < j ∧ gbo E kn = false ∧ ∀ z, z < j → gbo E z = false → gi D kn ≤ gi D z) ∧ (HS w0 w (EnL y U V M R gd gf ge D F E))) (j + 1) (k) (w)) rfl rfl rfl ?_ ?_
        ·
         refine ⟨by omega, ?_, hs⟩
         rcases hk with ⟨h5, h6⟩ | ⟨kn, h5, h6, h7, h8⟩
         ·
          refine .inl ⟨h5, fun z hz => ?_⟩
          by_cases hzj : z = j
          ·
           rw [hzj]; exact hxd
          ·
           exact h6 z (by omega)
         ·
          refine .inr ⟨kn, h5, by omega, h7, fun z hz hzd => ?_⟩
          have hzj : z ≠ j := fun he => by rw [he, hxd] at hzd; cases hzd
          exact h8 z (by omega) hzd
        ·
         omega
      ·
       obtain rfl : n = j := by omega
       rcases hk with ⟨h5, h6⟩ | ⟨kn, rfl, hkn, hkd, hkm⟩
       ·
        rw [h6 f0 hf0] at hf0d; cases hf0d
       obtain ⟨hCh, hrk⟩ := hEn.choose hin (Int.le_refl _) hC hkn hkd hkm
       have eE : (fun j => if j = kn then true else gbo E j) = gbo (E.set kn true) := by
        funext z
        show (if z = kn then true else gbo E z) = (E.set kn true).getD z false
        rw [gset (by omega)]
       rw [eE] at hCh
       have hEl' : (E.set kn true).length = n := by simp [hEl]
       have hEk : gbo (E.set kn true) kn = true := by show (E.set kn true).getD kn false = true; rw [gset (by omega), if_pos rfl]
       obtain ⟨E', hE'⟩ : ∃ E', E' = E.set kn true := ⟨_, rfl⟩
       rw [← hE'] at hCh hEl' hEk
       obtain ⟨hDk, hDd, htn'⟩ := hCh.bd hin hui hbV hC
       have hDk' : 0 ≤ D.getD kn 0 ∧ D.getD kn 0 ≤ 4503599627370496 := hDk
       have hRk := hSq.mat.ran kn hkn
       refine W_seq (W_seq (W_region (L_move rfl rfl (L_move rfl rfl (L_nilCheck rfl rfl (L_fieldAddr rfl (off := 0) Try.underlying131 rfl rfl Try.ti3 rfl (L_load rfl Try.one3 rfl (by exact hold hs (hrd.bx rfl) hrd.nb) ?_)))))))
       refine L_lss rfl rfl rfl (dfalse (by omega)) ?_
       refine RL_then (W_if_false rfl (W_exit' (Ex_then_exit (Ex_loop_exit (Ex_block_hit (Nx_then (W_seq (W_region (L_move rfl rfl (L_move rfl rfl (L_idx1 rfl Try.underlying132 Try.ti4 rfl rfl (natc_k _) (by omega) rfl ?_)))))))))))
       refine L_store hs (i := 6) rfl Try.ti4 rfl rfl (by exact add_lit0 _ _) (by simp; omega) rfl ?_
       intro w hs
       dsimp only [List.set_cons_succ, List.set_cons_zero, List.cons_append, List.nil_append] at hs
       refine RL_then (W_seq (W_region ?_))
       rw [bls_set, ← hE'] at hs
       refine L_move rfl rfl (L_move rfl rfl (L_idx1 rfl Try.underlying93 Try.ti2 rfl rfl (natc_k _) (by omega) rfl ?_))
       refine L_load rfl Try.one2 rfl (by exact hs.cellA (i := 4) rfl (il_get (by omega))) ?_
       refine L_assign rfl rfl (RL_then (W_seq (W_region (L_move rfl rfl (L_nilCheck rfl rfl (L_fieldAddr rfl (off := 5) Try.underlying131 rfl rfl Try.ti60 rfl (L_load rfl Try.one60 rfl (by exact hold hs (hrd.bx rfl) hrd.nb) ?_)))))))
       refine L_move rfl rfl (L_idx1 rfl Try.underlying60 Try.ti3 rfl rfl (natc_k _) (by omega) rfl ?_)
       refine L_load rfl Try.one3 rfl (by exact hs.cellA (i := 3) rfl (il_get' (by omega))) ?_
       refine L_assign rfl rfl (RL_then (W_seq (W_seq (W_region ?_))))
       rcases hRk with hRk | hRk
       ·
        have hRk' : R.getD kn 0 = -1 := hRk
        rw [hRk']
        refine L_move rfl rfl (L_lss rfl rfl rfl (dtrue (by omega)) ?_)
        refine RL_then (W_if_true rfl (W_seq (W_region (L_move rfl rfl (L_assign rfl rfl (RL_then (W_exit' (Ex_then_exit (Ex_block_miss rfl (Ex_loop_exit (Ex_block_hit (Nx_cutP (D, F, E', kn, t + 1, w) (is := [0, 1, 4, 5, 6, 8, 9]) (I' := (fun (D : List Int) (F : List Int) (E : List Bool) (k : Nat) (t : Nat) (w : World) => (D.length = n) ∧ (F.length = n) ∧ (E.length = n) ∧ (k < n) ∧ (gbo E k = true) ∧ (gi R k = -1) ∧ (Ch n C i (gi R) (gi U) (gi V) (gi D) (gi F) (gbo E) k t) ∧ (HS w0 w (EnL y U V M R gd gf ge D F E))) (D) (F) (E') (kn) (t + 1) (w)) rfl rfl rfl ?_))))))))))))
        exact ⟨hDl, hFl, hEl', hkn, hEk, hRk, hCh, hs⟩
       ·
        obtain ⟨r, hr, hri⟩ : ∃ r : Nat, gi R kn = (r : Int) ∧ r < i := ⟨(gi R kn).toNat, by omega, by omega⟩
        have hRk' : R.getD kn 0 = (r : Int) := hr
        rw [hRk']
        have hrn : r < n := by omega
        obtain ⟨g2, cp2, hq1, hq2, hq3⟩ := hrd.row r hrn
        refine L_move rfl rfl (L_lss rfl rfl rfl (dfalse (by omega)) ?_)
        refine RL_then (W_if_false rfl (W_skip' (Nx_then (W_seq (W_region (L_assign rfl rfl (RL_then (W_block ?_))))))))
        refine W_loop4 (fun (j : Nat) (D' : List Int) (F' : List Int) (w : World) => [(0, .pointer (some ⟨y.B, 0, none⟩)), (1, .int .i64 i), (4, .slice (some ⟨gd, 0, none⟩) n n), (5, .slice (some ⟨gf, 0, none⟩) n n), (6, .slice (some ⟨ge, 0, none⟩) n n), (8, .int .i64 (-1)), (9, .int .i64 (D.getD kn 0)), (12, .int .i64 r), (13, .int .i64 j)]) (fun (j : Nat) (D' : List Int) (F' : List Int) (w : World) => w) (fun (j : Nat) (D' : List Int) (F' : List Int) (w : World) => (j ≤ n) ∧ (D'.length = n) ∧ (F'.length = n) ∧ (∀ z, z < n → (z < j → gi D' z = if gbo E' z = false ∧ gi D kn + C r z - gi U r - gi V z < gi D z then gi D kn + C r z - gi U r - gi V z else gi D z) ∧ (j ≤ z → gi D' z = gi D z)) ∧ (∀ z, z < n → (z < j → gi F' z = if gbo E' z = false ∧ gi D kn + C r z - gi U r - gi V z < gi D z then (r : Int) else gi F z) ∧ (j ≤ z → gi F' z = gi F z)) ∧ (HS w0 w (EnL y U V M R gd gf ge D' F' E'))) (fun (j : Nat) (D' : List Int) (F' : List Int) (w : World) => n - j) (0) (D) (F) (w) (is := [0, 1, 4, 5, 6, 8, 9, 12, 13]) rfl rfl ?_ ?_
        ·
         exact ⟨Nat.zero_le _, hDl, hFl, fun z _ => ⟨fun h => absurd h (Nat.not_lt_zero _), fun _ => rfl⟩, fun z _ => ⟨fun h => absurd h (Nat.not_lt_zero _), fun _ => rfl⟩, hs⟩
        ·
         clear hs
         intro j D' F' w hI
         show W _ _ _ _ [(0, .pointer (some ⟨y.B, 0, none⟩)), (1, .int .i64 i), (4, .slice (some ⟨gd, 0, none⟩) n n), (5, .slice (some ⟨gf, 0, none⟩) n n), (6, .slice (some ⟨ge, 0, none⟩) n n), (8, .int .i64 (-1)), (9, .int .i64 (D.getD kn 0)), (12, .int .i64 r), (13, .int .i64 j)] w
         obtain ⟨hj, hDl', hFl', hD', hF', hs⟩ := hI
         by_cases hlt3 : j < n
         ·
          have b1 := hC r j hrn hlt3
          have b2 : 0 ≤ U.getD r 0 ∧ U.getD r 0 ≤ 4503599627370496 := hbU r hrn
          have b3 : -4503599627370496 ≤ V.getD j 0 ∧ V.getD j 0 ≤ 0 := hbV j hlt3
          have hDj : D'.getD j 0 = gi D j := (hD' j hlt3).2 (Nat.le_refl _)
          have hFj : F'.getD j 0 = gi F j := (hF' j hlt3).2 (Nat.le_refl _)
          cases hEj : E'.getD j false
          ·
           have hxj : (bls E')[j]? = some (.bool false) := by rw [← hEj]; exact bls_get (by omega)
           have hxd : gbo E' j = false := hEj
           by_cases hcm : D.getD kn 0 + C r j - U.getD r 0 - V.getD j 0 < D'.getD j 0
           ·
            have hcm' : gi D kn + C r j - gi U r - gi V j < gi D j := by rw [hDj] at hcm; exact hcm
            refine W_seq (W_seq (W_region (L_move rfl rfl (L_move rfl rfl (L_nilCheck rfl rfl (L_fieldAddr rfl (off := 0) Try.underlying131 rfl rfl Try.ti3 rfl (L_load rfl Try.one3 rfl (by exact hold hs (hrd.bx rfl) hrd.nb) ?_)))))))
            refine L_lss rfl rfl rfl (dtrue (by omega)) ?_
            refine RL_then (W_if_true rfl (W_skip' (Nx_then (W_seq (W_block (W_seq (W_pht [0, 1, 2, 3, 5, 8, 12, 13, 14, 16, 20, 21, 22, 24] [4, 6, 7, 9, 10, 11, 15, 17, 18, 19, 23, 25, 26, 27, 28] [] (fun _ _ _ => False) Try.mixed (chkAll_of (by kernel_rfl)) (fun _ _ _ _ _ h => h) hs ?_)))))))
            refine PL_val rfl (fun w => R_move rfl) ?_
            refine PL_val rfl (fun w => R_move rfl) ?_
            refine PL_val rfl (fun w => R_nilCheck rfl) ?_
            refine PL_val rfl (fun w => R_fieldAddr (off := 1) Try.underlying131 rfl rfl Try.ti89 rfl) ?_
            refine PL_val rfl (fun w => R_move rfl) ?_
            refine PL_val rfl (fun w => R_move rfl) ?_
            refine PL_val rfl (fun w => R_move rfl) ?_
            refine PL_val rfl (fun w => R_nilCheck rfl) ?_
            refine PL_val rfl (fun w => R_fieldAddr (off := 2) Try.underlying131 rfl rfl Try.ti93 rfl) ?_
            refine PL_val rfl (fun w => R_move rfl) ?_
            refine PL_val rfl (fun w => R_move rfl) ?_
            refine PL_val rfl (fun w => R_nilCheck rfl) ?_
            refine PL_val rfl (fun w => R_fieldAddr (off := 3) Try.underlying131 rfl rfl Try.ti93 rfl) ?_
            refine PL_val rfl (fun w => R_move rfl) ?_
            refine PL_end (HL_val rfl (fun w hs => R_load Try.one89 rfl (by exact hold hs (hrd.bx rfl) hrd.nb)) ?_)
            refine HL_val rfl (fun w hs => R_idx1 Try.underlying89 Try.ti93 rfl rfl (natc_k _) (by omega) rfl) ?_
            refine HL_val rfl (fun w hs => R_load Try.one93 rfl (by exact hold hs hq1 hrd.nc)) ?_
            refine HL_val rfl (fun w hs => R_idx1 Try.underlying93 Try.ti2 rfl rfl (natc_k _) (by omega) rfl) ?_
            refine HL_val rfl (fun w hs => R_load Try.one2 rfl (by exact hold hs (hq3 _ (by omega)) hq2)) ?_
            refine HL_val rfl (fun w hs => R_add rfl rfl (wrp_i64 (by omega))) ?_
            refine HL_val rfl (fun w hs => R_load Try.one93 rfl (by exact hold hs (hrd.bx rfl) hrd.nb)) ?_
            refine HL_val rfl (fun w hs => R_idx1 Try.underlying93 Try.ti2 rfl rfl (natc_k _) (by omega) rfl) ?_
            refine HL_val rfl (fun w hs => R_load Try.one2 rfl (by exact hs.cellA (i := 0) rfl (il_get' (by omega)))) ?_
            refine HL_val rfl (fun w hs => R_sub rfl rfl (wrp_i64 (by omega))) ?_
            refine HL_val rfl (fun w hs => R_load Try.one93 rfl (by exact hold hs (hrd.bx rfl) hrd.nb)) ?_
            refine HL_val rfl (fun w hs => R_idx1 Try.underlying93 Try.ti2 rfl rfl (natc_k _) (by omega) rfl) ?_
            refine HL_val rfl (fun w hs => R_load Try.one2 rfl (by exact hs.cellA (i := 1) rfl (il_get' (by omega)))) ?_
            refine HL_val rfl (fun w hs => R_sub rfl rfl (wrp_i64 (by omega))) ?_
            refine HL_val rfl (fun w hs => R_assign rfl) ?_
            refine HL_tail ?_
            intro w hs
            refine RL_then (W_seq (W_region (L_move rfl rfl (L_move rfl rfl (L_idx1 rfl Try.underlying132 Try.ti4 rfl rfl (natc_k _) (by omega) rfl ?_)))))
            refine L_load rfl Try.one4 rfl (by exact hs.cellA (i := 6) rfl hxj) ?_
            refine L_not rfl rfl (L_move rfl rfl (RL_want rfl rfl (L_move rfl rfl (RL_want rfl rfl (L_move rfl rfl (RL_want rfl rfl (L_move rfl rfl (RL_want rfl rfl (L_idx1 rfl Try.underlying93 Try.ti2 rfl rfl (natc_k _) (by omega) rfl ?_)))))))))
            refine RL_want rfl rfl (L_load rfl Try.one2 rfl (by exact hs.cellA (i := 4) rfl (il_get (by omega))) ?_)
            refine RL_want rfl rfl (L_lss rfl rfl rfl (dtrue (by omega)) ?_)
            refine L_pick_t rfl rfl rfl (RL_then (W_if_true rfl (W_seq (W_region (L_move rfl rfl (L_move rfl rfl (L_move rfl rfl (L_idx1 rfl Try.underlying93 Try.ti2 rfl rfl (natc_k _) (by omega) rfl ?_))))))))
            refine L_store hs (i := 4) rfl Try.ti2 rfl rfl (by exact add_lit0 _ _) (by simp; omega) rfl ?_
            intro w hs
            dsimp only [List.set_cons_succ, List.set_cons_zero, List.cons_append, List.nil_append] at hs
            refine RL_then (W_region (L_move rfl rfl (L_move rfl rfl (L_move rfl rfl (L_idx1 rfl Try.underlying60 Try.ti3 rfl rfl (natc_k _) (by omega) rfl ?_)))))
            refine L_store hs (i := 5) rfl Try.ti3 rfl rfl (by exact add_lit0 _ _) (by simp; omega) rfl ?_
            intro w hs
            dsimp only [List.set_cons_succ, List.set_cons_zero, List.cons_append, List.nil_append] at hs
            refine RL_nil' (Nx_block (Nx_then (W_region (L_move rfl rfl (L_add rfl rfl rfl (wrp_i64 (by omega)) ?_)))))
            refine L_assign rfl rfl (RL_nil' ?_)
            rw [il_set, il_set] at hs
            refine Nx_loopP (j + 1, D'.set j (gi D kn + C r j - gi U r - gi V j), F'.set j r, w) (is := [0, 1, 4, 5, 6, 8, 9, 12, 13]) (I' := (fun (j : Nat) (D' : List Int) (F' : List Int) (w : World) => (j ≤ n) ∧ (D'.length = n) ∧ (F'.length = n) ∧ (∀ z, z < n → (z < j → gi D' z = if gbo E' z = false ∧ gi D kn + C r z - gi U r - gi V z < gi D z then gi D kn + C r z - gi U r - gi V z else gi D z) ∧ (j ≤ z → gi D' z = gi D z)) ∧ (∀ z, z < n → (z < j → gi F' z = if gbo E' z = false ∧ gi D kn + C r z - gi U r - gi V z < gi D z then (r : Int) else gi F z) ∧ (j ≤ z → gi F' z = gi F z)) ∧ (HS w0 w (EnL y U V M R gd gf ge D' F' E'))) (j + 1) (D'.set j (gi D kn + C r j - gi U r - gi V j)) (F'.set j r) (w)) rfl rfl rfl ?_ ?_
            ·
             refine ⟨by omega, by simp [hDl'], by simp [hFl'], fun z hz => ?_, fun z hz => ?_, hs⟩
             ·
              show (z < j + 1 → (D'.set j _).getD z 0 = _) ∧ (j + 1 ≤ z → (D'.set j _).getD z 0 = _)
              rw [gset (by omega)]
              by_cases hzj : z = j
              ·
               subst hzj
               rw [if_pos rfl, if_pos ⟨hxd, hcm'⟩]
               exact ⟨fun _ => rfl, fun h => absurd h (by omega)⟩
              ·
               rw [if_neg hzj]; exact ⟨fun h => (hD' z hz).1 (by omega), fun h => (hD' z hz).2 (by omega)⟩
             ·
              show (z < j + 1 → (F'.set j _).getD z 0 = _) ∧ (j + 1 ≤ z → (F'.set j _).getD z 0 = _)
              rw [gset (by omega)]
              by_cases hzj : z = j
              ·
               subst hzj
               rw [if_pos rfl, if_pos ⟨hxd, hcm'⟩]
               exact ⟨fun _ => rfl, fun h => absurd h (by omega)⟩
              ·
               rw [if_neg hzj]; exact ⟨fun h => (hF' z hz).1 (by omega), fun h => (hF' z hz).2 (by omega)⟩
            ·
             omega
           ·
            have hcm' : ¬gi D kn + C r j - gi U r - gi V j < gi D j := by rw [hDj] at hcm; exact hcm
            refine W_seq (W_seq (W_region (L_move rfl rfl (L_move rfl rfl (L_nilCheck rfl rfl (L_fieldAddr rfl (off := 0) Try.underlying131 rfl rfl Try.ti3 rfl (L_load rfl Try.one3 rfl (by exact hold hs (hrd.bx rfl) hrd.nb) ?_)))))))
            refine L_lss rfl rfl rfl (dtrue (by omega)) ?_
            refine RL_then (W_if_true rfl (W_skip' (Nx_then (W_seq (W_block (W_seq (W_pht [0, 1, 2, 3, 5, 8, 12, 13, 14, 16, 20, 21, 22, 24] [4, 6, 7, 9, 10, 11, 15, 17, 18, 19, 23, 25, 26, 27, 28] [] (fun _ _ _ => False) Try.mixed (chkAll_of (by kernel_rfl)) (fun _ _ _ _ _ h => h) hs ?_)))))))
            refine PL_val rfl (fun w => R_move rfl) ?_
            refine PL_val rfl (fun w => R_move rfl) ?_
            refine PL_val rfl (fun w => R_nilCheck rfl) ?_
            refine PL_val rfl (fun w => R_fieldAddr (off := 1) Try.underlying131 rfl rfl Try.ti89 rfl) ?_
            refine PL_val rfl (fun w => R_move rfl) ?_
            refine PL_val rfl (fun w => R_move rfl) ?_
            refine PL_val rfl (fun w => R_move rfl) ?_
            refine PL_val rfl (fun w => R_nilCheck rfl) ?_
            refine PL_val rfl (fun w => R_fieldAddr (off := 2) Try.underlying131 rfl rfl Try.ti93 rfl) ?_
            refine PL_val rfl (fun w => R_move rfl) ?_
            refine PL_val rfl (fun w => R_move rfl) ?_
            refine PL_val rfl (fun w => R_nilCheck rfl) ?_
            refine PL_val rfl (fun w => R_fieldAddr (off := 3) Try.underlying131 rfl rfl Try.ti93 rfl) ?_
            refine PL_val rfl (fun w => R_move rfl) ?_
            refine PL_end (HL_val rfl (fun w hs => R_load Try.one89 rfl (by exact hold hs (hrd.bx rfl) hrd.nb)) ?_)
            refine HL_val rfl (fun w hs => R_idx1 Try.underlying89 Try.ti93 rfl rfl (natc_k _) (by omega) rfl) ?_
            refine HL_val rfl (fun w hs => R_load Try.one93 rfl (by exact hold hs hq1 hrd.nc)) ?_
            refine HL_val rfl (fun w hs => R_idx1 Try.underlying93 Try.ti2 rfl rfl (natc_k _) (by omega) rfl) ?_
            refine HL_val rfl (fun w hs => R_load Try.one2 rfl (by exact hold hs (hq3 _ (by omega)) hq2)) ?_
            refine HL_val rfl (fun w hs => R_add rfl rfl (wrp_i64 (by omega))) ?_
            refine HL_val rfl (fun w hs => R_load Try.one93 rfl (by exact hold hs (hrd.bx rfl) hrd.nb)) ?_
            refine HL_val rfl (fun w hs => R_idx1 Try.underlying93 Try.ti2 rfl rfl (natc_k _) (by omega) rfl) ?_
            refine HL_val rfl (fun w hs => R_load Try.one2 rfl (by exact hs.cellA (i := 0) rfl (il_get' (by omega)))) ?_
            refine HL_val rfl (fun w hs => R_sub rfl rfl (wrp_i64 (by omega))) ?_
            refine HL_val rfl (fun w hs => R_load Try.one93 rfl (by exact hold hs (hrd.bx rfl) hrd.nb)) ?_
            refine HL_val rfl (fun w hs => R_idx1 Try.underlying93 Try.ti2 rfl rfl (natc_k _) (by omega) rfl) ?_
            refine HL_val rfl (fun w hs => R_load Try.one2 rfl (by exact hs.cellA (i := 1) rfl (il_get' (by omega)))) ?_
            refine HL_val rfl (fun w hs => R_sub rfl rfl (wrp_i64 (by omega))) ?_
            refine HL_val rfl (fun w hs => R_assign rfl) ?_
            refine HL_tail ?_
            intro w hs
            refine RL_then (W_seq (W_region (L_move rfl rfl (L_move rfl rfl (L_idx1 rfl Try.underlying132 Try.ti4 rfl rfl (natc_k _) (by omega) rfl ?_)))))
            refine L_load rfl Try.one4 rfl (by exact hs.cellA (i := 6) rfl hxj) ?_
            refine L_not rfl rfl (L_move rfl rfl (RL_want rfl rfl (L_move rfl rfl (RL_want rfl rfl (L_move rfl rfl (RL_want rfl rfl (L_move rfl rfl (RL_want rfl rfl (L_idx1 rfl Try.underlying93 Try.ti2 rfl rfl (natc_k _) (by omega) rfl ?_)))))))))
            refine RL_want rfl rfl (L_load rfl Try.one2 rfl (by exact hs.cellA (i := 4) rfl (il_get (by omega))) ?_)
            refine RL_want rfl rfl (L_lss rfl rfl rfl (dfalse (by omega)) ?_)
            refine L_pick_t rfl rfl rfl (RL_then (W_if_false rfl (W_skip' (Nx_block (Nx_then (W_region (L_move rfl rfl (L_add rfl rfl rfl (wrp_i64 (by omega)) ?_))))))))
            refine L_assign rfl rfl (RL_nil' ?_)
            refine Nx_loopP (j + 1, D', F', w) (is := [0, 1, 4, 5, 6, 8, 9, 12, 13]) (I' := (fun (j : Nat) (D' : List Int) (F' : List Int) (w : World) => (j ≤ n) ∧ (D'.length = n) ∧ (F'.length = n) ∧ (∀ z, z < n → (z < j → gi D' z = if gbo E' z = false ∧ gi D kn + C r z - gi U r - gi V z < gi D z then gi D kn + C r z - gi U r - gi V z else gi D z) ∧ (j ≤ z → gi D' z = gi D z)) ∧ (∀ z, z < n → (z < j → gi F' z = if gbo E' z = false ∧ gi D kn + C r z - gi U r - gi V z < gi D z then (r : Int) else gi F z) ∧ (j ≤ z → gi F' z = gi F z)) ∧ (HS w0 w (EnL y U V M R gd gf ge D' F' E'))) (j + 1) (D') (F') (w)) rfl rfl rfl ?_ ?_
            ·
             refine ⟨by omega, hDl', hFl', fun z hz => ?_, fun z hz => ?_, hs⟩
             ·
              by_cases hzj : z = j
              ·
               subst hzj
               rw [if_neg (fun h => hcm' h.2)]
               exact ⟨fun _ => hDj, fun _ => hDj⟩
              ·
               exact ⟨fun h => (hD' z hz).1 (by omega), fun h => (hD' z hz).2 (by omega)⟩
             ·
              by_cases hzj : z = j
              ·
               subst hzj
               rw [if_neg (fun h => hcm' h.2)]
               exact ⟨fun _ => hFj, fun _ => hFj⟩
              ·
               exact ⟨fun h => (hF' z hz).1 (by omega), fun h => (hF' z hz).2 (by omega)⟩
            ·
             omega
          ·
           have hxj : (bls E')[j]? = some (.bool true) := by rw [← hEj]; exact bls_get (by omega)
           have hxd : gbo E' j = true := hEj
           have hno : ¬gbo E' j = false := by rw [hxd]; simp
           refine W_seq (W_seq (W_region (L_move rfl rfl (L_move rfl rfl (L_nilCheck rfl rfl (L_fieldAddr rfl (off := 0) Try.underlying131 rfl rfl Try.ti3 rfl (L_load rfl Try.one3 rfl (by exact hold hs (hrd.bx rfl) hrd.nb) ?_)))))))
           refine L_lss rfl rfl rfl (dtrue (by omega)) ?_
           refine RL_then (W_if_true rfl (W_skip' (Nx_then (W_seq (W_block (W_seq (W_pht [0, 1, 2, 3, 5, 8, 12, 13, 14, 16, 20, 21, 22, 24] [4, 6, 7, 9, 10, 11, 15, 17, 18, 19, 23, 25, 26, 27, 28] [] (fun _ _ _ => False) Try.mixed (chkAll_of (by kernel_rfl)) (fun _ _ _ _ _ h => h) hs ?_)))))))
           refine PL_val rfl (fun w => R_move rfl) ?_
           refine PL_val rfl (fun w => R_move rfl) ?_
           refine PL_val rfl (fun w => R_nilCheck rfl) ?_
           refine PL_val rfl (fun w => R_fieldAddr (off := 1) Try.underlying131 rfl rfl Try.ti89 rfl) ?_
           refine PL_val rfl (fun w => R_move rfl) ?_
           refine PL_val rfl (fun w => R_move rfl) ?_
           refine PL_val rfl (fun w => R_move rfl) ?_
           refine PL_val rfl (fun w => R_nilCheck rfl) ?_
           refine PL_val rfl (fun w => R_fieldAddr (off := 2) Try.underlying131 rfl rfl Try.ti93 rfl) ?_
           refine PL_val rfl (fun w => R_move rfl) ?_
           refine PL_val rfl (fun w => R_move rfl) ?_
           refine PL_val rfl (fun w => R_nilCheck rfl) ?_
           refine PL_val rfl (fun w => R_fieldAddr (off := 3) Try.underlying131 rfl rfl Try.ti93 rfl) ?_
           refine PL_val rfl (fun w => R_move rfl) ?_
           refine PL_end (HL_val rfl (fun w hs => R_load Try.one89 rfl (by exact hold hs (hrd.bx rfl) hrd.nb)) ?_)
           refine HL_val rfl (fun w hs => R_idx1 Try.underlying89 Try.ti93 rfl rfl (natc_k _) (by omega) rfl) ?_
           refine HL_val rfl (fun w hs => R_load Try.one93 rfl (by exact hold hs hq1 hrd.nc)) ?_
           refine HL_val rfl (fun w hs => R_idx1 Try.underlying93 Try.ti2 rfl rfl (natc_k _) (by omega) rfl) ?_
           refine HL_val rfl (fun w hs => R_load Try.one2 rfl (by exact hold hs (hq3 _ (by omega)) hq2)) ?_
           refine HL_val rfl (fun w hs => R_add rfl rfl (wrp_i64 (by omega))) ?_
           refine HL_val rfl (fun w hs => R_load Try.one93 rfl (by exact hold hs (hrd.bx rfl) hrd.nb)) ?_
           refine HL_val rfl (fun w hs => R_idx1 Try.underlying93 Try.ti2 rfl rfl (natc_k _) (by omega) rfl) ?_
           refine HL_val rfl (fun w hs => R_load Try.one2 rfl (by exact hs.cellA (i := 0) rfl (il_get' (by omega)))) ?_
           refine HL_val rfl (fun w hs => R_sub rfl rfl (wrp_i64 (by omega))) ?_
           refine HL_val rfl (fun w hs => R_load Try.one93 rfl (by exact hold hs (hrd.bx rfl) hrd.nb)) ?_
           refine HL_val rfl (fun w hs => R_idx1 Try.underlying93 Try.ti2 rfl rfl (natc_k _) (by omega) rfl) ?_
           refine HL_val rfl (fun w hs => R_load Try.one2 rfl (by exact hs.cellA (i := 1) rfl (il_get' (by omega)))) ?_
           refine HL_val rfl (fun w hs => R_sub rfl rfl (wrp_i64 (by omega))) ?_
           refine HL_val rfl (fun w hs => R_assign rfl) ?_
           refine HL_tail ?_
           intro w hs
           refine RL_then (W_seq (W_region (L_move rfl rfl (L_move rfl rfl (L_idx1 rfl Try.underlying132 Try.ti4 rfl rfl (natc_k _) (by omega) rfl ?_)))))
           refine L_load rfl Try.one4 rfl (by exact hs.cellA (i := 6) rfl hxj) ?_
           refine L_not rfl rfl (L_move rfl rfl (RL_skip rfl rfl rfl rfl (RL_skip rfl rfl rfl rfl (RL_skip rfl rfl rfl rfl (RL_skip rfl rfl rfl rfl (RL_skip rfl rfl rfl rfl (RL_skip rfl rfl rfl rfl (L_pick_f rfl rfl rfl (RL_then (W_if_false rfl (W_skip' (Nx_block ?_))))))))))))
           refine Nx_then (W_region (L_move rfl rfl (L_add rfl rfl rfl (wrp_i64 (by omega)) ?_)))
           refine L_assign rfl rfl (RL_nil' ?_)
           refine Nx_loopP (j + 1, D', F', w) (is := [0, 1, 4, 5, 6, 8, 9, 12, 13]) (I' := (fun (j : Nat) (D' : List Int) (F' : List Int) (w : World) => (j ≤ n) ∧ (D'.length = n) ∧ (F'.length = n) ∧ (∀ z, z < n → (z < j → gi D' z = if gbo E' z = false ∧ gi D kn + C r z - gi U r - gi V z < gi D z then gi D kn + C r z - gi U r - gi V z else gi D z) ∧ (j ≤ z → gi D' z = gi D z)) ∧ (∀ z, z < n → (z < j → gi F' z = if gbo E' z = false ∧ gi D kn + C r z - gi U r - gi V z < gi D z then (r : Int) else gi F z) ∧ (j ≤ z → gi F' z = gi F z)) ∧ (HS w0 w (EnL y U V M R gd gf ge D' F' E'))) (j + 1) (D') (F') (w)) rfl rfl rfl ?_ ?_
           ·
            refine ⟨by omega, hDl', hFl', fun z hz => ?_, fun z hz => ?_, hs⟩
            ·
             by_cases hzj : z = j
             ·
              subst hzj
              rw [if_neg (fun h => hno h.1)]
              exact ⟨fun _ => hDj, fun _ => hDj⟩
             ·
              exact ⟨fun h => (hD' z hz).1 (by omega), fun h => (hD' z hz).2 (by omega)⟩
            ·
             by_cases hzj : z = j
             ·
              subst hzj
              rw [if_neg (fun h => hno h.1)]
              exact ⟨fun _ => hFj, fun _ => hFj⟩
             ·
              exact ⟨fun h => (hF' z hz).1 (by omega), fun h => (hF' z hz).2 (by omega)⟩
           ·
            omega
         ·
          obtain rfl : n = j := by omega
          refine W_seq (W_seq (W_region (L_move rfl rfl (L_move rfl rfl (L_nilCheck rfl rfl (L_fieldAddr rfl (off := 0) Try.underlying131 rfl rfl Try.ti3 rfl (L_load rfl Try.one3 rfl (by exact hold hs (hrd.bx rfl) hrd.nb) ?_)))))))
          refine L_lss rfl rfl rfl (dfalse (by omega)) ?_
          refine RL_then (W_if_false rfl ?_)
          have hrt : (gi R kn).toNat = r := by omega
          have hEn' := hCh.scan hkn hEk (by omega) (dist' := gi D') (frm' := gi F') (fun z hz => by rw [hrt]; exact (hD' z hz).1 hz) (fun z hz => by rw [hrt, hr]; exact (hF' z hz).1 hz)
          refine W_exit' (Ex_then_exit (Ex_loop_exit (Ex_block_hit (Nx_block ?_))))
          refine Nx_loopP (D', F', E', gi D kn, D.getD kn 0, t + 1, w) (is := [0, 1, 4, 5, 6, 8, 9]) (I' := (fun (D : List Int) (F : List Int) (E : List Bool) (rho : Int) (reach : Int) (t : Nat) (w : World) => (D.length = n) ∧ (F.length = n) ∧ (E.length = n) ∧ (En n C i (gi R) (gi U) (gi V) (gi D) (gi F) (gbo E) rho t) ∧ (HS w0 w (EnL y U V M R gd gf ge D F E))) (D') (F') (E') (gi D kn) (D.getD kn 0) (t + 1) (w)) rfl rfl rfl ?_ ?_
          ·
           exact ⟨hDl', hFl', hEl', hEn', hs⟩
          ·
           show n + 1 - (t + 1) < n + 1 - t
           omega
   ·
    clear hs hEn hDl hFl
    intro D F E k t w hI
    show W _ _ _ _ [(0, .pointer (some ⟨y.B, 0, none⟩)), (1, .int .i64 i), (4, .slice (some ⟨gd, 0, none⟩) n n), (5, .slice (some ⟨gf, 0, none⟩) n n), (6, .slice (some ⟨ge, 0, none⟩) n n), (8, .int .i64 k), (9, .int .i64 (gi D k))] w
    obtain ⟨hDl, hFl, hEl, hkn, hEk, hRk, hCh, hs⟩ := hI
    obtain ⟨hDk, hDd, _⟩ := hCh.bd hin hui hbV hC
    obtain ⟨reach, hreach⟩ : ∃ reach, reach = gi D k := ⟨_, rfl⟩
    rw [← hreach] at hDk hDd
    rw [← hreach]
    have hUi : 0 ≤ U.getD i 0 ∧ U.getD i 0 ≤ 4503599627370496 := hbU i hin
    refine W_seq (W_pht [0, 1, 2, 4, 5, 6, 7, 9, 12] [3, 8, 10, 11, 13, 14] [15] (fun _ _ _ => False) Try.mixed (chkAll_of (by kernel_rfl)) (fun _ _ _ _ _ h => h) hs ?_)
    refine PL_val rfl (fun w => R_move rfl) ?_
    refine PL_val rfl (fun w => R_nilCheck rfl) ?_
    refine PL_val rfl (fun w => R_fieldAddr (off := 2) Try.underlying131 rfl rfl Try.ti93 rfl) ?_
    refine PL_val rfl (fun w => R_move rfl) ?_
    refine PL_val rfl (fun w => R_move rfl) ?_
    refine PL_val rfl (fun w => R_nilCheck rfl) ?_
    refine PL_val rfl (fun w => R_fieldAddr (off := 2) Try.underlying131 rfl rfl Try.ti93 rfl) ?_
    refine PL_val rfl (fun w => R_move rfl) ?_
    refine PL_val rfl (fun w => R_move rfl) ?_
    refine PL_end (HL_val rfl (fun w hs => R_load Try.one93 rfl (by exact hold hs (hrd.bx rfl) hrd.nb)) ?_)
    refine HL_val rfl (fun w hs => R_load Try.one93 rfl (by exact hold hs (hrd.bx rfl) hrd.nb)) ?_
    refine HL_val rfl (fun w hs => R_idx1 Try.underlying93 Try.ti2 rfl rfl (natc_k _) (by omega) rfl) ?_
    refine HL_val rfl (fun w hs => R_load Try.one2 rfl (by exact hs.cellA (i := 0) rfl (il_get' (by omega)))) ?_
    refine HL_val rfl (fun w hs => R_add rfl rfl (wrp_i64 (by omega))) ?_
    refine HL_val rfl (fun w hs => R_idx1 Try.underlying93 Try.ti2 rfl rfl (natc_k _) (by omega) rfl) ?_
    refine HL_tail ?_
    intro w hs
    refine L_store hs (i := 0) rfl Try.ti2 rfl rfl (by exact add_lit0 _ _) (by simp; omega) rfl ?_
    intro w hs
    dsimp only [List.set_cons_succ, List.set_cons_zero, List.cons_append, List.nil_append] at hs
    refine RL_then (W_seq (W_seq (W_region (L_assign rfl rfl (RL_then (W_block ?_))))))
    rw [il_set' _ _ _ _ (by omega)] at hs
    refine W_loop4 (fun (j : Nat) (U2 : List Int) (V2 : List Int) (w : World) => [(0, .pointer (some ⟨y.B, 0, none⟩)), (1, .int .i64 i), (4, .slice (some ⟨gd, 0, none⟩) n n), (5, .slice (some ⟨gf, 0, none⟩) n n), (6, .slice (some ⟨ge, 0, none⟩) n n), (8, .int .i64 k), (9, .int .i64 reach), (15, .int .i64 j)]) (fun (j : Nat) (U2 : List Int) (V2 : List Int) (w : World) => w) (fun (j : Nat) (U2 : List Int) (V2 : List Int) (w : World) => (j ≤ n) ∧ (U2.length = n) ∧ (V2.length = n) ∧ (gi U2 i = gi U i + reach) ∧ (∀ z, z < j → gbo E z = true → z ≠ k → gi U2 (gi R z).toNat = gi U (gi R z).toNat + (reach - gi D z)) ∧ (∀ q, q ≠ i → (∀ z, z < j → gbo E z = true → z ≠ k → (gi R z).toNat ≠ q) → gi U2 q = gi U q) ∧ (∀ z, z < n → (z < j → gi V2 z = if gbo E z = true ∧ z ≠ k then gi V z - (reach - gi D z) else gi V z) ∧ (j ≤ z → gi V2 z = gi V z)) ∧ (HS w0 w (EnL y U2 V2 M R gd gf ge D F E))) (fun (j : Nat) (U2 : List Int) (V2 : List Int) (w : World) => n - j) (0) (U.set i (U.getD i 0 + reach)) (V) (w) (is := [0, 1, 4, 5, 6, 8, 9, 15]) rfl rfl ?_ ?_
    ·
     refine ⟨Nat.zero_le _, by simp [hUl], hVl, ?_, fun _ h => absurd h (Nat.not_lt_zero _), fun q hq _ => ?_, fun z _ => ⟨fun h => absurd h (Nat.not_lt_zero _), fun _ => rfl⟩, hs⟩
     ·
      show (U.set i _).getD i 0 = _
      rw [gset (by omega), if_pos rfl]
     ·
      show (U.set i _).getD q 0 = _
      rw [gset (by omega), if_neg hq]
    ·
     clear hs
     intro j U2 V2 w hI
     show W _ _ _ _ [(0, .pointer (some ⟨y.B, 0, none⟩)), (1, .int .i64 i), (4, .slice (some ⟨gd, 0, none⟩) n n), (5, .slice (some ⟨gf, 0, none⟩) n n), (6, .slice (some ⟨ge, 0, none⟩) n n), (8, .int .i64 k), (9, .int .i64 reach), (15, .int .i64 j)] w
     obtain ⟨hj, hUl2, hVl2, hU2i, hU2d, hU2o, hV2, hs⟩ := hI
     by_cases hlt : j < n
     ·
      cases hEj : E.getD j false
      ·
       have hxj : (bls E)[j]? = some (.bool false) := by rw [← hEj]; exact bls_get (by omega)
       have hxd : ¬gbo E j = true := by show ¬E.getD j false = true; rw [hEj]; simp
       refine W_seq (W_seq (W_region (L_move rfl rfl (L_move rfl rfl (L_nilCheck rfl rfl (L_fieldAddr rfl (off := 0) Try.underlying131 rfl rfl Try.ti3 rfl (L_load rfl Try.one3 rfl (by exact hold hs (hrd.bx rfl) hrd.nb) ?_)))))))
       refine L_lss rfl rfl rfl (dtrue (by omega)) ?_
       refine RL_then (W_if_true rfl (W_skip' (Nx_then (W_seq (W_block (W_seq (W_region (L_move rfl rfl (L_move rfl rfl (L_idx1 rfl Try.underlying132 Try.ti4 rfl rfl (natc_k _) (by omega) rfl ?_))))))))))
       refine L_load rfl Try.one4 rfl (by exact hs.cellA (i := 6) rfl hxj) ?_
       refine L_move rfl rfl (RL_skip rfl rfl rfl rfl (RL_skip rfl rfl rfl rfl (RL_skip rfl rfl rfl rfl (L_pick_f rfl rfl rfl (RL_then (W_if_false rfl (W_skip' (Nx_block (Nx_then (W_region (L_move rfl rfl (L_add rfl rfl rfl (wrp_i64 (by omega)) ?_))))))))))))
       refine L_assign rfl rfl (RL_nil' ?_)
       refine Nx_loopP (j + 1, U2, V2, w) (is := [0, 1, 4, 5, 6, 8, 9, 15]) (I' := (fun (j : Nat) (U2 : List Int) (V2 : List Int) (w : World) => (j ≤ n) ∧ (U2.length = n) ∧ (V2.length = n) ∧ (gi U2 i = gi U i + reach) ∧ (∀ z, z < j → gbo E z = true → z ≠ k → gi U2 (gi R z).toNat = gi U (gi R z).toNat + (reach - gi D z)) ∧ (∀ q, q ≠ i → (∀ z, z < j → gbo E z = true → z ≠ k → (gi R z).toNat ≠ q) → gi U2 q = gi U q) ∧ (∀ z, z < n → (z < j → gi V2 z = if gbo E z = true ∧ z ≠ k then gi V z - (reach - gi D z) else gi V z) ∧ (j ≤ z → gi V2 z = gi V z)) ∧ (HS w0 w (EnL y U2 V2 M R gd gf ge D F E))) (j + 1) (U2) (V2) (w)) rfl rfl rfl ?_ ?_
       ·
        refine ⟨by omega, hUl2, hVl2, hU2i, fun z hz hzd hzk => ?_, fun q hq h => hU2o q hq fun z hz => h z (by omega), fun z hz => ?_, hs⟩
        ·
         have hzj : z ≠ j := fun he => hxd (he ▸ hzd)
         exact hU2d z (by omega) hzd hzk
        ·
         by_cases hzj : z = j
         ·
          subst hzj
          rw [if_neg (fun h => hxd h.1)]
          exact ⟨fun _ => (hV2 z hz).2 (Nat.le_refl _), fun _ => (hV2 z hz).2 (Nat.le_refl _)⟩
         ·
          exact ⟨fun h => (hV2 z hz).1 (by omega), fun h => (hV2 z hz).2 (by omega)⟩
       ·
        omega
      ·
       have hxj : (bls E)[j]? = some (.bool true) := by rw [← hEj]; exact bls_get (by omega)
       have hxd : gbo E j = true := hEj
       by_cases hjk : j = k
       ·
        refine W_seq (W_seq (W_region (L_move rfl rfl (L_move rfl rfl (L_nilCheck rfl rfl (L_fieldAddr rfl (off := 0) Try.underlying131 rfl rfl Try.ti3 rfl (L_load rfl Try.one3 rfl (by exact hold hs (hrd.bx rfl) hrd.nb) ?_)))))))
        refine L_lss rfl rfl rfl (dtrue (by omega)) ?_
        refine RL_then (W_if_true rfl (W_skip' (Nx_then (W_seq (W_block (W_seq (W_region (L_move rfl rfl (L_move rfl rfl (L_idx1 rfl Try.underlying132 Try.ti4 rfl rfl (natc_k _) (by omega) rfl ?_))))))))))
        refine L_load rfl Try.one4 rfl (by exact hs.cellA (i := 6) rfl hxj) ?_
        refine L_move rfl rfl (RL_want rfl rfl (L_move rfl rfl (RL_want rfl rfl (L_move rfl rfl (RL_want rfl rfl (L_neq rfl rfl rfl (dfalse (by omega)) ?_))))))
        refine L_pick_t rfl rfl rfl (RL_then (W_if_false rfl (W_skip' (Nx_block (Nx_then (W_region (L_move rfl rfl (L_add rfl rfl rfl (wrp_i64 (by omega)) ?_))))))))
        refine L_assign rfl rfl (RL_nil' ?_)
        refine Nx_loopP (j + 1, U2, V2, w) (is := [0, 1, 4, 5, 6, 8, 9, 15]) (I' := (fun (j : Nat) (U2 : List Int) (V2 : List Int) (w : World) => (j ≤ n) ∧ (U2.length = n) ∧ (V2.length = n) ∧ (gi U2 i = gi U i + reach) ∧ (∀ z, z < j → gbo E z = true → z ≠ k → gi U2 (gi R z).toNat = gi U (gi R z).toNat + (reach - gi D z)) ∧ (∀ q, q ≠ i → (∀ z, z < j → gbo E z = true → z ≠ k → (gi R z).toNat ≠ q) → gi U2 q = gi U q) ∧ (∀ z, z < n → (z < j → gi V2 z = if gbo E z = true ∧ z ≠ k then gi V z - (reach - gi D z) else gi V z) ∧ (j ≤ z → gi V2 z = gi V z)) ∧ (HS w0 w (EnL y U2 V2 M R gd gf ge D F E))) (j + 1) (U2) (V2) (w)) rfl rfl rfl ?_ ?_
        ·
         refine ⟨by omega, hUl2, hVl2, hU2i, fun z hz hzd hzk => ?_, fun q hq h => hU2o q hq fun z hz => h z (by omega), fun z hz => ?_, hs⟩
         ·
          exact hU2d z (by omega) hzd hzk
         ·
          by_cases hzj : z = j
          ·
           subst hzj
           rw [if_neg (fun h => h.2 hjk)]
           exact ⟨fun _ => (hV2 z hz).2 (Nat.le_refl _), fun _ => (hV2 z hz).2 (Nat.le_refl _)⟩
          ·
           exact ⟨fun h => (hV2 z hz).1 (by omega), fun h => (hV2 z hz).2 (by omega)⟩
        ·
         omega
       ·
        have hRj0 : 0 ≤ gi R j := hCh.dn hlt hxd hjk
        have hRj := hSq.mat.ran j hlt
        obtain ⟨r, hr, hri⟩ : ∃ r : Nat, gi R j = (r : Int) ∧ r < i := ⟨(gi R j).toNat, by omega, by omega⟩
        have hr' : R.getD j 0 = (r : Int) := hr
        have hrn : r < n := by omega
        have hUr : U2.getD r 0 = gi U r := hU2o r (by omega) fun z hz hzd hzk he => by
         have h5 : gi R z = gi R j := by have := hCh.dn (show z < n by omega) hzd hzk; omega
         have := hSq.mat.inj z j (by omega) hlt h5 (by have := hCh.dn (show z < n by omega) hzd hzk; omega)
         omega
        have b2 : 0 ≤ gi U r ∧ gi U r ≤ 4503599627370496 := hbU r hrn
        have hVj : V2.getD j 0 = gi V j := (hV2 j hlt).2 (Nat.le_refl _)
        have b3 : -4503599627370496 ≤ gi V j ∧ gi V j ≤ 0 := hbV j hlt
        have b4 : -4503599627370496 ≤ reach - D.getD j 0 ∧ reach - D.getD j 0 ≤ 4503599627370496 := hDd j hlt hxd
        refine W_seq (W_seq (W_region (L_move rfl rfl (L_move rfl rfl (L_nilCheck rfl rfl (L_fieldAddr rfl (off := 0) Try.underlying131 rfl rfl Try.ti3 rfl (L_load rfl Try.one3 rfl (by exact hold hs (hrd.bx rfl) hrd.nb) ?_)))))))
        refine L_lss rfl rfl rfl (dtrue (by omega)) ?_
        refine RL_then (W_if_true rfl (W_skip' (Nx_then (W_seq (W_block (W_seq (W_region (L_move rfl rfl (L_move rfl rfl (L_idx1 rfl Try.underlying132 Try.ti4 rfl rfl (natc_k _) (by omega) rfl ?_))))))))))
        refine L_load rfl Try.one4 rfl (by exact hs.cellA (i := 6) rfl hxj) ?_
        refine L_move rfl rfl (RL_want rfl rfl (L_move rfl rfl (RL_want rfl rfl (L_move rfl rfl (RL_want rfl rfl (L_neq rfl rfl rfl (dtrue (by omega)) ?_))))))
        refine L_pick_t rfl rfl rfl (RL_then (W_if_true rfl (W_seq (W_pht [0, 1, 2, 4, 5, 6, 7, 9, 12, 13, 14, 15] [3, 8, 10, 11, 16, 17, 18, 19] [20] (fun _ _ _ => False) Try.mixed (chkAll_of (by kernel_rfl)) (fun _ _ _ _ _ h => h) hs ?_))))
        refine PL_val rfl (fun w => R_move rfl) ?_
        refine PL_val rfl (fun w => R_nilCheck rfl) ?_
        refine PL_val rfl (fun w => R_fieldAddr (off := 3) Try.underlying131 rfl rfl Try.ti93 rfl) ?_
        refine PL_val rfl (fun w => R_move rfl) ?_
        refine PL_val rfl (fun w => R_move rfl) ?_
        refine PL_val rfl (fun w => R_nilCheck rfl) ?_
        refine PL_val rfl (fun w => R_fieldAddr (off := 3) Try.underlying131 rfl rfl Try.ti93 rfl) ?_
        refine PL_val rfl (fun w => R_move rfl) ?_
        refine PL_val rfl (fun w => R_move rfl) ?_
        refine PL_val rfl (fun w => R_move rfl) ?_
        refine PL_val rfl (fun w => R_move rfl) ?_
        refine PL_val rfl (fun w => R_idx1 Try.underlying93 Try.ti2 rfl rfl (natc_k _) (by omega) rfl) ?_
        refine PL_end (HL_val rfl (fun w hs => R_load Try.one93 rfl (by exact hold hs (hrd.bx rfl) hrd.nb)) ?_)
        refine HL_val rfl (fun w hs => R_load Try.one93 rfl (by exact hold hs (hrd.bx rfl) hrd.nb)) ?_
        refine HL_val rfl (fun w hs => R_idx1 Try.underlying93 Try.ti2 rfl rfl (natc_k _) (by omega) rfl) ?_
        refine HL_val rfl (fun w hs => R_load Try.one2 rfl (by exact hs.cellA (i := 1) rfl (il_get' (by omega)))) ?_
        refine HL_val rfl (fun w hs => R_load Try.one2 rfl (by exact hs.cellA (i := 4) rfl (il_get (by omega)))) ?_
        refine HL_val rfl (fun w hs => R_sub rfl rfl (wrp_i64 (by omega))) ?_
        refine HL_val rfl (fun w hs => R_sub rfl rfl (wrp_i64 (by omega))) ?_
        refine HL_val rfl (fun w hs => R_idx1 Try.underlying93 Try.ti2 rfl rfl (natc_k _) (by omega) rfl) ?_
        refine HL_tail ?_
        intro w hs
        refine L_store hs (i := 1) rfl Try.ti2 rfl rfl (by exact add_lit0 _ _) (by simp; omega) rfl ?_
        intro w hs
        dsimp only [List.set_cons_succ, List.set_cons_zero, List.cons_append, List.nil_append] at hs
        refine RL_then (W_seq (W_region ?_))
        rw [il_set' _ _ _ _ (by omega)] at hs
        refine L_move rfl rfl (L_nilCheck rfl rfl (L_fieldAddr rfl (off := 5) Try.underlying131 rfl rfl Try.ti60 rfl (L_load rfl Try.one60 rfl (by exact hold hs (hrd.bx rfl) hrd.nb) ?_)))
        refine L_move rfl rfl (L_idx1 rfl Try.underlying60 Try.ti3 rfl rfl (natc_k _) (by omega) rfl ?_)
        refine L_load rfl Try.one3 rfl (by exact hs.cellA (i := 3) rfl (il_get' (by omega))) ?_
        rw [hr']
        refine L_assign rfl rfl (RL_then (W_pht [0, 1, 2, 4, 5, 6, 7, 9, 12, 13, 14, 15] [3, 8, 10, 11, 16, 17, 18, 19] [20] (fun _ _ _ => False) Try.mixed (chkAll_of (by kernel_rfl)) (fun _ _ _ _ _ h => h) hs ?_))
        refine PL_val rfl (fun w => R_move rfl) ?_
        refine PL_val rfl (fun w => R_nilCheck rfl) ?_
        refine PL_val rfl (fun w => R_fieldAddr (off := 2) Try.underlying131 rfl rfl Try.ti93 rfl) ?_
        refine PL_val rfl (fun w => R_move rfl) ?_
        refine PL_val rfl (fun w => R_move rfl) ?_
        refine PL_val rfl (fun w => R_nilCheck rfl) ?_
        refine PL_val rfl (fun w => R_fieldAddr (off := 2) Try.underlying131 rfl rfl Try.ti93 rfl) ?_
        refine PL_val rfl (fun w => R_move rfl) ?_
        refine PL_val rfl (fun w => R_move rfl) ?_
        refine PL_val rfl (fun w => R_move rfl) ?_
        refine PL_val rfl (fun w => R_move rfl) ?_
        refine PL_val rfl (fun w => R_idx1 Try.underlying93 Try.ti2 rfl rfl (natc_k _) (by omega) rfl) ?_
        refine PL_end (HL_val rfl (fun w hs => R_load Try.one93 rfl (by exact hold hs (hrd.bx rfl) hrd.nb)) ?_)
        refine HL_val rfl (fun w hs => R_load Try.one93 rfl (by exact hold hs (hrd.bx rfl) hrd.nb)) ?_
        refine HL_val rfl (fun w hs => R_idx1 Try.underlying93 Try.ti2 rfl rfl (natc_k _) (by omega) rfl) ?_
        refine HL_val rfl (fun w hs => R_load Try.one2 rfl (by exact hs.cellA (i := 0) rfl (il_get' (by omega)))) ?_
        refine HL_val rfl (fun w hs => R_load Try.one2 rfl (by exact hs.cellA (i := 4) rfl (il_get (by omega)))) ?_
        refine HL_val rfl (fun w hs => R_sub rfl rfl (wrp_i64 (by omega))) ?_
        refine HL_val rfl (fun w hs => R_add rfl rfl (wrp_i64 (by omega))) ?_
        refine HL_val rfl (fun w hs => R_idx1 Try.underlying93 Try.ti2 rfl rfl (natc_k _) (by omega) rfl) ?_
        refine HL_tail ?_
        intro w hs
        refine L_store hs (i := 0) rfl Try.ti2 rfl rfl (by exact add_lit0 _ _) (by simp; omega) rfl ?_
        intro w hs
        dsimp only [List.set_cons_succ, List.set_cons_zero, List.cons_append, List.nil_append] at hs
        refine RL_nil' (Nx_block (Nx_then (W_region (L_move rfl rfl (L_add rfl rfl rfl (wrp_i64 (by omega)) ?_)))))
        refine L_assign rfl rfl (RL_nil' ?_)
        rw [il_set' _ _ _ _ (by omega)] at hs
        rw [hUr, hVj] at hs
        refine Nx_loopP (j + 1, U2.set r (gi U r + (reach - D.getD j 0)), V2.set j (gi V j - (reach - D.getD j 0)), w) (is := [0, 1, 4, 5, 6, 8, 9, 15]) (I' := (fun (j : Nat) (U2 : List Int) (V2 : List Int) (w : World) => (j ≤ n) ∧ (U2.length = n) ∧ (V2.length = n) ∧ (gi U2 i = gi U i + reach) ∧ (∀ z, z < j → gbo E z = true → z ≠ k → gi U2 (gi R z).toNat = gi U (gi R z).toNat + (reach - gi D z)) ∧ (∀ q, q ≠ i → (∀ z, z < j → gbo E z = true → z ≠ k → (gi R z).toNat ≠ q) → gi U2 q = gi U q) ∧ (∀ z, z < n → (z < j → gi V2 z = if gbo E z = true ∧ z ≠ k then gi V z - (reach - gi D z) else gi V z) ∧ (j ≤ z → gi V2 z = gi V z)) ∧ (HS w0 w (EnL y U2 V2 M R gd gf ge D F E))) (j + 1) (U2.set r (gi U r + (reach - D.getD j 0))) (V2.set j (gi V j - (reach - D.getD j 0))) (w)) rfl rfl rfl ?_ ?_
        ·
         refine ⟨by omega, by simp [hUl2], by simp [hVl2], ?_, fun z hz hzd hzk => ?_, fun q hq h => ?_, fun z hz => ?_, hs⟩
         ·
          show (U2.set r _).getD i 0 = _
          rw [gset (by omega), if_neg (by omega)]; exact hU2i
         ·
          show (U2.set r _).getD _ 0 = _
          rw [gset (by omega)]
          by_cases hzj : z = j
          ·
           subst hzj
           rw [hr, Int.toNat_natCast, if_pos rfl]
          ·
           rw [if_neg fun he => hzj (by
            have h5 := hCh.dn (show z < n by omega) hzd hzk
            exact hSq.mat.inj z j (by omega) hlt (by omega) (by omega))]
           exact hU2d z (by omega) hzd hzk
         ·
          show (U2.set r _).getD q 0 = _
          rw [gset (by omega), if_neg (fun he => h j (by omega) hxd hjk (by omega))]
          exact hU2o q hq fun z hz => h z (by omega)
         ·
          show (z < j + 1 → (V2.set j _).getD z 0 = _) ∧ (j + 1 ≤ z → (V2.set j _).getD z 0 = _)
          rw [gset (by omega)]
          by_cases hzj : z = j
          ·
           subst hzj
           rw [if_pos rfl, if_pos ⟨hxd, hjk⟩]
           exact ⟨fun _ => rfl, fun h => absurd h (by omega)⟩
          ·
           rw [if_neg hzj]; exact ⟨fun h => (hV2 z hz).1 (by omega), fun h => (hV2 z hz).2 (by omega)⟩
        ·
         omega
     ·
      obtain rfl : n = j := by omega
      rw [hreach] at hU2i hU2d hV2
      obtain ⟨slack, back, pos, hT, hfrm, hbU2, hbV2⟩ := hCh.fin hin hkn hEk hRk hC (U2 := gi U2) (V2 := gi V2) (fun z hz => (hV2 z hz).1 hz) hU2i hU2d hU2o
      have hA := hT.aug (by omega) (by rw [Int.toNat_natCast]; exact hRk)
      have hMa0 : Ma n i (gi R) (gi M) (k : Int) := ⟨fun z hz _ ho => hMa.inv z hz ho, fun _ => hMa.up i (Nat.le_refl _) hin, fun q hq hqn => hMa.up q (by omega) hqn⟩
      clear hU2i hU2d hV2 hU2o
      refine W_seq (W_seq (W_region (L_move rfl rfl (L_move rfl rfl (L_nilCheck rfl rfl (L_fieldAddr rfl (off := 0) Try.underlying131 rfl rfl Try.ti3 rfl (L_load rfl Try.one3 rfl (by exact hold hs (hrd.bx rfl) hrd.nb) ?_)))))))
      refine L_lss rfl rfl rfl (dfalse (by omega)) ?_
      refine RL_then (W_if_false rfl (W_exit' (Ex_then_exit (Ex_loop_exit (Ex_block_hit (Nx_then (W_block ?_)))))))
      refine W_loop4 (fun (h : Int) (M2 : List Int) (R2 : List Int) (w : World) => [(0, .pointer (some ⟨y.B, 0, none⟩)), (5, .slice (some ⟨gf, 0, none⟩) n n), (8, .int .i64 h)]) (fun (h : Int) (M2 : List Int) (R2 : List Int) (w : World) => w) (fun (h : Int) (M2 : List Int) (R2 : List Int) (w : World) => (M2.length = n) ∧ (R2.length = n) ∧ (Aug n C i (gi R) (gi U2) (gi V2) (gbo E) pos (gi R2) h) ∧ (Ma n i (gi R2) (gi M2) h) ∧ (HS w0 w (EnL y U2 V2 M2 R2 gd gf ge D F E))) (fun (h : Int) (M2 : List Int) (R2 : List Int) (w : World) => if h < 0 then 0 else pos h.toNat + 1) ((k : Int)) (M) (R) (w) (is := [0, 5, 8]) rfl rfl ?_ ?_
      ·
       exact ⟨hMl, hRl, hA, hMa0, hs⟩
      ·
       clear hs hA hMa0
       intro h M2 R2 w hI
       show W _ _ _ _ [(0, .pointer (some ⟨y.B, 0, none⟩)), (5, .slice (some ⟨gf, 0, none⟩) n n), (8, .int .i64 h)] w
       obtain ⟨hMl2, hRl2, hA, hMa2, hs⟩ := hI
       by_cases hh : 0 ≤ h
       ·
        obtain ⟨hn, rfl⟩ := Int.eq_ofNat_of_zero_le hh
        obtain ⟨_, hhn, hhd⟩ := hA.at' (by omega)
        rw [Int.toNat_natCast] at hhn hhd
        obtain ⟨m1, m2, m3, m4⟩ := hA.mates hMa2 hT hin
        obtain ⟨r, hr⟩ : ∃ r, r = ro i (gi R) (back hn) := ⟨_, rfl⟩
        have hFr : F.getD hn 0 = (r : Int) := by rw [hr]; exact hfrm hn hhn hhd
        rw [← hr] at m1 m2 m3 m4
        have m2' : M2.getD r 0 = back hn := m2
        refine W_seq (W_seq (W_region (L_move rfl rfl (L_geq rfl rfl rfl (dtrue (by omega)) ?_))))
        refine RL_then (W_if_true rfl (W_skip' (Nx_then (W_block (W_seq (W_region (L_move rfl rfl (L_move rfl rfl (L_idx1 rfl Try.underlying60 Try.ti3 rfl rfl (natc_k _) (by omega) rfl ?_)))))))))
        refine L_load rfl Try.one3 rfl (by exact hs.cellA (i := 5) rfl (il_get (by omega))) ?_
        rw [hFr]
        refine L_assign rfl rfl (RL_then (W_seq (W_region (L_move rfl rfl (L_nilCheck rfl rfl (L_fieldAddr rfl (off := 4) Try.underlying131 rfl rfl Try.ti60 rfl (L_load rfl Try.one60 rfl (by exact hold hs (hrd.bx rfl) hrd.nb) ?_)))))))
        refine L_move rfl rfl (L_idx1 rfl Try.underlying60 Try.ti3 rfl rfl (natc_k _) (by omega) rfl ?_)
        refine L_load rfl Try.one3 rfl (by exact hs.cellA (i := 2) rfl (il_get' (by omega))) ?_
        rw [m2']
        refine L_assign rfl rfl (RL_then (W_seq (W_region (L_move rfl rfl (L_nilCheck rfl rfl (L_fieldAddr rfl (off := 4) Try.underlying131 rfl rfl Try.ti60 rfl (L_load rfl Try.one60 rfl (by exact hold hs (hrd.bx rfl) hrd.nb) ?_)))))))
        refine L_move rfl rfl (L_move rfl rfl (L_idx1 rfl Try.underlying60 Try.ti3 rfl rfl (natc_k _) (by omega) rfl ?_))
        refine L_store hs (i := 2) rfl Try.ti3 rfl rfl (by exact add_lit0 _ _) (by simp; omega) rfl ?_
        intro w hs
        dsimp only [List.set_cons_succ, List.set_cons_zero, List.cons_append, List.nil_append] at hs
        refine RL_then (W_seq (W_region ?_))
        rw [il_set' _ _ _ _ (by omega)] at hs
        -- the row
        refine L_move rfl rfl (L_nilCheck rfl rfl (L_fieldAddr rfl (off := 5) Try.underlying131 rfl rfl Try.ti60 rfl (L_load rfl Try.one60 rfl (by exact hold hs (hrd.bx rfl) hrd.nb) ?_)))
        refine L_move rfl rfl (L_move rfl rfl (L_idx1 rfl Try.underlying60 Try.ti3 rfl rfl (natc_k _) (by omega) rfl ?_))
        refine L_store hs (i := 3) rfl Try.ti3 rfl rfl (by exact add_lit0 _ _) (by simp; omega) rfl ?_
        intro w hs
        dsimp only [List.set_cons_succ, List.set_cons_zero, List.cons_append, List.nil_append] at hs
        refine RL_then (W_region (L_move rfl rfl (L_assign rfl rfl (RL_nil' (Nx_block ?_)))))
        rw [il_set' _ _ _ _ (by omega)] at hs
        have e1 : ∀ q, gi (R2.set hn (r : Int)) q = if q = hn then (r : Int) else gi R2 q := fun q => gset (by omega) q
        have e2 : ∀ q, gi (M2.set r (hn : Int)) q = if q = r then (hn : Int) else gi M2 q := fun q => gset (by omega) q
        obtain ⟨hA', hpp⟩ := hA.step (of'' := gi (R2.set hn (r : Int))) hT hh (by rw [Int.toNat_natCast, e1, if_pos rfl]; exact m3) (fun q hq => by rw [Int.toNat_natCast] at hq; rw [e1, if_neg hq])
        rw [Int.toNat_natCast] at hA' hpp
        have hMa' := m4 (gi (R2.set hn (r : Int))) (gi (M2.set r (hn : Int))) (by rw [e1, if_pos rfl]) (fun q hq => by rw [e1, if_neg hq]) (by rw [e2, if_pos rfl]) (fun q hq => by rw [e2, if_neg hq])
        refine Nx_loopP (back hn, M2.set r (hn : Int), R2.set hn (r : Int), w) (is := [0, 5, 8]) (I' := (fun (h : Int) (M2 : List Int) (R2 : List Int) (w : World) => (M2.length = n) ∧ (R2.length = n) ∧ (Aug n C i (gi R) (gi U2) (gi V2) (gbo E) pos (gi R2) h) ∧ (Ma n i (gi R2) (gi M2) h) ∧ (HS w0 w (EnL y U2 V2 M2 R2 gd gf ge D F E))) (back hn) (M2.set r (hn : Int)) (R2.set hn (r : Int)) (w)) rfl rfl rfl ?_ ?_
        ·
         exact ⟨by simp [hMl2], by simp [hRl2], hA', hMa', hs⟩
        ·
         show (if back hn < 0 then 0 else pos (back hn).toNat + 1) < if (hn : Int) < 0 then 0 else pos (hn : Int).toNat + 1
         rw [if_neg (show ¬(hn : Int) < 0 by omega), Int.toNat_natCast]
         split
         ·
          omega
         ·
          have := hpp (by omega); omega
       ·
        obtain rfl : h = -1 := Classical.byContradiction fun hne => by have := (hA.at' hne).1; omega
        have hOv := hA.over hT
        refine W_seq (W_seq (W_region (L_move rfl rfl (L_geq rfl rfl rfl (dfalse (by omega)) ?_))))
        refine RL_then (W_if_false rfl (W_exit' (Ex_then_exit (Ex_loop_exit (Ex_block_hit (Nx_done0 rfl ?_))))))
        exact ⟨_, rfl, U2, V2, M2, R2, HS.dropR hs hO, hUl2, hVl2, hMl2, hRl2, hOv, ⟨fun z hz ho => hMa2.inv z hz (by omega) ho, fun q hq hqn => hMa2.up q (by omega) hqn⟩, hbU2, hbV2⟩
end Go.Proofs.Ytknpoemkmcdgcaa
