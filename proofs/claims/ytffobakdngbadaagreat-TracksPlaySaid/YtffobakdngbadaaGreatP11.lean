/-
  A part of the proof: laws for walks, and plain laws, over any program of the model. Each theorem holds under its own premises alone.
-/
import Derived.Test.YtffobakdngbadaaGreatKit
import Derived.Test.YtffobakdngbadaaGreatKitP
import Derived.Test.YtffobakdngbadaaGreatP10
import Derived.Test.YtffobakdngbadaaGreatKitY
namespace Go.Proofs.YtffobakdngbadaaGreat
open Go Go.Lk Go.Pr
structure Ly where
 B : Nat
 gC : Nat
 cC : Nat
 u : Nat
 cu : Nat
 v : Nat
 cv : Nat
 m : Nat
 cm : Nat
 o : Nat
 co : Nat
 su : List Value
 sv : List Value
 sm : List Value
 so : List Value
abbrev Ly.row (y : Ly) (n : Nat) : List Value := [.int .i64 n, .slice (some ⟨y.gC, 0, none⟩) n y.cC, .slice (some ⟨y.u, 0, none⟩) n y.cu, .slice (some ⟨y.v, 0, none⟩) n y.cv, .slice (some ⟨y.m, 0, none⟩) n y.cm, .slice (some ⟨y.o, 0, none⟩) n y.co]
abbrev Ly.ks (y : Ly) : List Nat := [y.u, y.v, y.m, y.o]
abbrev Ly.L (y : Ly) (U V M R : List Int) : List (Nat × Obj) := [(y.u, Row 2 (il U ++ y.su)), (y.v, Row 2 (il V ++ y.sv)), (y.m, Row 3 (il M ++ y.sm)), (y.o, Row 3 (il R ++ y.so))]
structure RdS (w0 : World) (y : Ly) (n : Nat) (C : Nat -> Nat -> Int) : Prop where
 box : w0.heap[y.B]? = some (Row 134 (y.row n))
 nb : y.B ∉ y.ks
 nc : y.gC ∉ y.ks
 row : ∀ r, r < n -> ∃ g cap, w0.cell? ((Addr.mk y.gC 0 none).add r) = some (.slice (some ⟨g, 0, none⟩) n cap) /\ g ∉ y.ks /\ ∀ j, j < n -> w0.cell? ((Addr.mk g 0 none).add j) = some (.int .i64 (C r j))
theorem RdS.at {w0 w : World} {y : Ly} {U V M R : List Int} {N : List (Nat × Obj)} (hs : HS w0 w (y.L U V M R ++ N)) (ho : Own w0 N) {b j : Nat} {x : Value} (hc : w0.cell? ((Addr.mk b 0 none).add j) = some x) (hb : b ∉ y.ks) : w.cell? ((Addr.mk b 0 none).add j) = some x := by
 refine hs.oldcell hc ?_
 rw [Lk.block_add, List.map_append, List.mem_append, not_or]
 refine ⟨hb, ho.notin ?_⟩
 have := World.block_lt_of_cell? w0 _ hc
 rwa [Lk.block_add] at this
theorem RdS.bx {w0 : World} {y : Ly} {n : Nat} {C : Nat -> Nat -> Int} (h : RdS w0 y n C) {j : Nat} {x : Value} (hv : (y.row n)[j]? = some x) : w0.cell? ((Addr.mk y.B 0 none).add j) = some x := by
 rw [add_lit0]; exact Lk.cell_of_row h.box hv
theorem RdS.old {w0 w : World} {y : Ly} {n : Nat} {C : Nat -> Nat -> Int} {U V M R : List Int} {N : List (Nat × Obj)} (h : RdS w0 y n C) (hs : HS w0 w (y.L U V M R ++ N)) (ho : Own w0 N) : RdS w y n C := by
 refine ⟨?_, h.nb, h.nc, fun r hr => ?_⟩
 ·
  have hlt := (Array.getElem?_eq_some_iff.1 h.box).1
  rw [hs.old hlt (by rw [List.map_append, List.mem_append, not_or]; exact ⟨h.nb, ho.notin hlt⟩)]
  exact h.box
 obtain ⟨g, cap, h1, h2, h3⟩ := h.row r hr
 exact ⟨g, cap, RdS.at hs ho h1 h.nc, h2, fun j hj => RdS.at hs ho (h3 j hj) h2⟩
structure SqM (n i : Nat) (of mt : Nat -> Int) : Prop where
 inv : ∀ j : Nat, j < n -> 0 <= of j -> mt (of j).toNat = (j : Int)
 up : ∀ q, i <= q -> q < n -> mt q = -1
abbrev EnL (y : Ly) (U V M R : List Int) (gd gf ge : Nat) (D F : List Int) (E : List Bool) : List (Nat × Obj) := y.L U V M R ++ [(gd, Row 2 (il D)), (gf, Row 3 (il F)), (ge, Row 4 (bls E))]
set_option maxHeartbeats 16000000 in
theorem enter_ok (y : Ly) (n i : Nat) (C : Nat -> Nat -> Int) (U V M R : List Int) (w0 : World) (hC : ∀ r j, r < n -> j < n -> 0 <= C r j /\ C r j <= 4503599627370496) (h2 : n <= 512) (hin : i < n) (hrd : RdS w0 y n C)
  (hG : HS w0 w0 (y.L U V M R)) (hUl : U.length = n) (hVl : V.length = n) (hMl : M.length = n) (hRl : R.length = n) (hSq : Sq n C i (gi R) (gi U) (gi V)) (hMa : SqM n i (gi R) (gi M)) :
  Ret Tryz.prog 97 [.pointer (some ⟨y.B, 0, none⟩), .int .i64 i] w0 fun _ w' => ∃ U' V' M' R', HS w0 w' (y.L U' V' M' R') /\ U'.length = n /\ V'.length = n /\ M'.length = n /\ R'.length = n /\ Sq n C (i + 1) (gi R') (gi U') (gi V') /\ SqM n (i + 1) (gi R') (gi M') /\ (∀ r, r < n -> 0 <= gi U' r /\ gi U' r <= BB) /\ ∀ j, j < n -> -BB <= gi V' j /\ gi V' j <= 0 := by
 have hs := hG
 obtain ⟨g1, cp1, hr1, hr2, hr3⟩ := hrd.row i hin
 have hui : gi U i = 0 := hSq.uz i (Nat.le_refl _)
 have hTr0 := hSq.enter (fun j hj => (hC i j hin hj).1) (slack := fun _ => 4611686018427387904) (back := fun _ => -1) (done := fun _ => false) (fun _ _ => rfl) (fun _ _ => rfl)
 obtain ⟨hbU, hbV⟩ := hTr0.bounds hin hC
 clear hTr0
 refine calls_of_W Tryz.func97 rfl rfl rfl (Wq (Lm rfl (Ln rfl (Lf 0 u_134 rfl i_3 ?_))))
 refine Ll o_3 rfl (by rw [<- List.append_nil (y.L U V M R)] at hs; exact RdS.at hs Own.nil (hrd.bx rfl) hrd.nb) ?_
 refine L_make1 (c := n) rfl hs u_88 i_2 rfl rfl rfl rfl (Nat.le_refl _) (by omega) (by omega) rfl ?_
 intro gd w hgd _ hs
 refine La rfl (Rq (Lm rfl (Ln rfl (Lf 0 u_134 rfl i_3 (Ll o_3 rfl (by exact RdS.at hs (Own.cons hgd Own.nil) (hrd.bx rfl) hrd.nb) ?_)))))
 refine L_make1 (c := n) rfl hs u_52 i_3 rfl rfl rfl rfl (Nat.le_refl _) (by omega) (by omega) rfl ?_
 intro gf w hgf _ hs
 rw [List.append_assoc] at hs
 refine La rfl (Rq (Lm rfl (Ln rfl (Lf 0 u_134 rfl i_3 (Ll o_3 rfl (by exact RdS.at hs (Own.cons hgd (Own.cons hgf Own.nil)) (hrd.bx rfl) hrd.nb) ?_)))))
 refine L_make1 (c := n) rfl hs u_139 i_4 rfl rfl rfl rfl (Nat.le_refl _) (by omega) (by omega) rfl ?_
 intro ge w hge _ hs
 simp only [il_rep, bls_rep] at hs
 replace hs : HS w0 w (EnL y U V M R gd gf ge (List.replicate n 0) (List.replicate n 0) (List.replicate n false)) := hs
 have hO : ∀ {D F : List Int} {E : List Bool}, Own w0 [(gd, Row 2 (il D)), (gf, Row 3 (il F)), (ge, Row 4 (bls E))] := Own.cons hgd (Own.cons hgf (Own.cons hge Own.nil))
 have hold : ∀ {w : World} {U V M R D F : List Int} {E : List Bool}, HS w0 w (EnL y U V M R gd gf ge D F E) -> ∀ {b j : Nat} {x : Value}, w0.cell? ((Addr.mk b 0 none).add j) = some x -> b ∉ y.ks -> w.cell? ((Addr.mk b 0 none).add j) = some x := fun hs _ _ _ hc hb => RdS.at hs hO hc hb
 refine La rfl (Rqq (La rfl (Rt (W_block (W_loop4 (fun (j : Nat) (D : List Int) (F : List Int) (w : World) => [(0, .pointer (some ⟨y.B, 0, none⟩)), (1, .int .i64 i), (4, .slice (some ⟨gd, 0, none⟩) n n), (5, .slice (some ⟨gf, 0, none⟩) n n), (6, .slice (some ⟨ge, 0, none⟩) n n), (7, .int .i64 j)]) (fun j D F w => w) (fun j D F w => (j <= n) /\ (D.length = n) /\ (F.length = n) /\ (∀ z, z < j -> gi D z = C i z - gi U i - gi V z) /\ (∀ z, z < j -> gi F z = (i : Int)) /\ (HS w0 w (EnL y U V M R gd gf ge D F (List.replicate n false)))) (fun j D F w => n - j) (0) (List.replicate n 0) (List.replicate n 0) (w) (is := [0, 1, 4, 5, 6, 7]) rfl rfl ?_ ?_)))))
 ·
  exact ⟨Nat.zero_le _, by simp, by simp, fun _ h => absurd h (Nat.not_lt_zero _), fun _ h => absurd h (Nat.not_lt_zero _), hs⟩
 clear hs
 intro j D F w hI
 show W _ _ _ _ [(0, .pointer (some ⟨y.B, 0, none⟩)), (1, .int .i64 i), (4, .slice (some ⟨gd, 0, none⟩) n n), (5, .slice (some ⟨gf, 0, none⟩) n n), (6, .slice (some ⟨ge, 0, none⟩) n n), (7, .int .i64 j)] w
 obtain ⟨hj, hDl, hFl, hD, hF, hs⟩ := hI
 by_cases hlt : j < n
 ·
  have b1 := hC i j hin hlt
  have b2 : 0 <= U.getD i 0 /\ U.getD i 0 <= 4503599627370496 := hbU i hin
  have b3 : -4503599627370496 <= V.getD j 0 /\ V.getD j 0 <= 0 := hbV j hlt
  refine Wqq (Lmm rfl rfl (Ln rfl (Lf 0 u_134 rfl i_3 (Ll o_3 rfl (by exact hold hs (hrd.bx rfl) hrd.nb) ?_))))
  refine Clss rfl (dtrue (by omega)) ?_
  refine Rt (Wt rfl (Ws (Wsq (W_block (Wsq (W_pht [0, 1, 2, 3, 4, 6, 9, 12, 13, 14, 16, 20, 21, 22, 24] [5, 7, 8, 10, 11, 15, 17, 18, 19, 23, 25, 26, 27, 28] [29] (fun _ _ _ => False) Tryz.mixed (chkAll_of (by kernel_rfl)) (fun _ _ _ _ _ h => h) hs ?_))))))
  refine Pm rfl (Pm rfl (Pm rfl (Pn rfl (Pfa 1 u_134 rfl i_85 (Pm rfl (Pm rfl (Pm rfl (Pn rfl (Pfa 2 u_134 rfl i_88 (Pm rfl (Pm rfl (Pn rfl (Pfa 3 u_134 rfl i_88 (Pm rfl (PL_end (Hv rfl (fun w hs => R_load o_85 rfl (by exact hold hs (hrd.bx rfl) hrd.nb)) ?_))))))))))))))))
  refine Hx u_85 i_88 rfl (natc_k _) (by omega) rfl ?_
  refine Hl o_88 rfl (fun w hs => (by exact hold hs hr1 hrd.nc)) ?_
  refine Hx u_88 i_2 rfl (natc_k _) (by omega) rfl ?_
  refine Hl o_2 rfl (fun w hs => (by exact hold hs (hr3 _ (by omega)) hr2)) ?_
  refine Hl o_88 rfl (fun w hs => (by exact hold hs (hrd.bx rfl) hrd.nb)) ?_
  refine Hx u_88 i_2 rfl (natc_k _) (by omega) rfl ?_
  refine Hl o_2 rfl (fun w hs => (by exact hs.cellA (i := 0) rfl (il_get' (by omega)))) ?_
  refine Hv rfl (fun w hs => R_sub rfl rfl (wrp_i64 (by omega))) ?_
  refine Hl o_88 rfl (fun w hs => (by exact hold hs (hrd.bx rfl) hrd.nb)) ?_
  refine Hx u_88 i_2 rfl (natc_k _) (by omega) rfl ?_
  refine Hl o_2 rfl (fun w hs => (by exact hs.cellA (i := 1) rfl (il_get' (by omega)))) ?_
  refine Hv rfl (fun w hs => R_sub rfl rfl (wrp_i64 (by omega))) ?_
  refine Hx u_88 i_2 rfl (natc_k _) (by omega) rfl ?_
  refine HL_tail ?_
  intro w hs
  refine L_store hs (i := 4) rfl i_2 rfl rfl (by exact add_lit0 _ _) (by simp; omega) rfl ?_
  intro w hs
  dsimp only [sS, sZ, sA, sN] at hs
  refine Rr (Lmm rfl rfl (Lm rfl (Li u_52 i_3 rfl (natc_k _) (by omega) rfl ?_)))
  refine L_store hs (i := 5) rfl i_3 rfl rfl (by exact add_lit0 _ _) (by simp; omega) rfl ?_
  intro w hs
  dsimp only [sS, sZ, sA, sN] at hs
  refine Rnl (Nx_block (Nt (Wr (Lm rfl (Cadd rfl (wrp_i64 (by omega)) ?_)))))
  refine La rfl (Rnl ?_)
  rw [il_set, il_set] at hs
  refine Nq (j + 1, D.set j (C i j - gi U i - gi V j), F.set j i, w) [0, 1, 4, 5, 6, 7] rfl ?_ ?_
  ·
   dsimp only
   refine ⟨by omega, by simp [hDl], by simp [hFl], fun z hz => ?_, fun z hz => ?_, hs⟩
   ·
    rw [gi, gset (by omega)]
    split
    ·
     rename_i h5; rw [h5]
    exact hD z (by omega)
   rw [gi, gset (by omega)]
   split
   ·
    rfl
   exact hF z (by omega)
  omega
 obtain rfl : n = j := by omega
 refine Wqq (Lmm rfl rfl (Ln rfl (Lf 0 u_134 rfl i_3 (Ll o_3 rfl (by exact hold hs (hrd.bx rfl) hrd.nb) ?_))))
 refine Clss rfl (dfalse (by omega)) ?_
 refine Rt (Wf rfl ?_)
 have hEn := hSq.en hin (Int.le_refl _) hC (dist := gi D) (frm := gi F) (done := gbo (List.replicate n false)) (fun z hz => grep hz) hD hF
 clear hD hF
 refine W_exit' (Ex_then_exit (Ex_loop_exit (Ex_block_hit (Nt (Wq (La rfl (Rq (La rfl (Rt (Wsq ?_))))))))))
 refine W_cut6 (fun (D : List Int) (F : List Int) (E : List Bool) (k : Nat) (t : Nat) (w : World) => [(0, .pointer (some ⟨y.B, 0, none⟩)), (1, .int .i64 i), (4, .slice (some ⟨gd, 0, none⟩) n n), (5, .slice (some ⟨gf, 0, none⟩) n n), (6, .slice (some ⟨ge, 0, none⟩) n n), (8, .int .i64 k), (9, .int .i64 (gi D k))]) (fun D F E k t w => w) (fun D F E k t w => (D.length = n) /\ (F.length = n) /\ (E.length = n) /\ (k < n) /\ (gbo E k = true) /\ (gi R k = -1) /\ (Ch n C i (gi R) (gi U) (gi V) (gi D) (gi F) (gbo E) k t) /\ (HS w0 w (EnL y U V M R gd gf ge D F E))) ?_ ?_
 ·
  refine W_block ?_
  refine W_loop7 (fun (D : List Int) (F : List Int) (E : List Bool) (rho : Int) (reach : Int) (t : Nat) (w : World) => [(0, .pointer (some ⟨y.B, 0, none⟩)), (1, .int .i64 i), (4, .slice (some ⟨gd, 0, none⟩) n n), (5, .slice (some ⟨gf, 0, none⟩) n n), (6, .slice (some ⟨ge, 0, none⟩) n n), (8, .int .i64 (-1)), (9, .int .i64 reach)]) (fun D F E rho reach t w => w) (fun D F E rho reach t w => (D.length = n) /\ (F.length = n) /\ (E.length = n) /\ (En n C i (gi R) (gi U) (gi V) (gi D) (gi F) (gbo E) rho t) /\ (HS w0 w (EnL y U V M R gd gf ge D F E))) (fun D F E rho reach t w => n + 1 - t) (D) (F) (List.replicate n false) (0) (0) (0) (w) (is := [0, 1, 4, 5, 6, 8, 9]) rfl rfl ?_ ?_
  ·
   exact ⟨hDl, hFl, by simp, hEn, hs⟩
  clear hs hEn hDl hFl
  intro D F E rho reach t w hI
  show W _ _ _ _ [(0, .pointer (some ⟨y.B, 0, none⟩)), (1, .int .i64 i), (4, .slice (some ⟨gd, 0, none⟩) n n), (5, .slice (some ⟨gf, 0, none⟩) n n), (6, .slice (some ⟨ge, 0, none⟩) n n), (8, .int .i64 (-1)), (9, .int .i64 reach)] w
  obtain ⟨hDl, hFl, hEl, hEn, hs⟩ := hI
  obtain ⟨⟨f0, hf0, hf0d⟩, htn⟩ := hEn.some hin
  obtain ⟨hrho, hDb⟩ := hEn.bd hin hui hC
  refine Wqq (Lm rfl (Clss rfl (dtrue (by omega)) ?_))
  refine Rt (Wt rfl (Ws (W_block (Wq (La rfl (Rqq (La rfl (Rt (W_block ?_)))))))))
  refine W_loop3 (fun (j : Nat) (k : Int) (w : World) => [(0, .pointer (some ⟨y.B, 0, none⟩)), (1, .int .i64 i), (4, .slice (some ⟨gd, 0, none⟩) n n), (5, .slice (some ⟨gf, 0, none⟩) n n), (6, .slice (some ⟨ge, 0, none⟩) n n), (8, .int .i64 (-1)), (9, .int .i64 reach), (10, .int .i64 k), (11, .int .i64 j)]) (fun j k w => w) (fun j k w => (j <= n) /\ ((k = -1 /\ ∀ z, z < j -> gbo E z = true) ∨ ∃ kn : Nat, k = (kn : Int) /\ kn < j /\ gbo E kn = false /\ ∀ z, z < j -> gbo E z = false -> gi D kn <= gi D z) /\ (HS w0 w (EnL y U V M R gd gf ge D F E))) (fun j k w => n - j) (0) (-1) (w) (is := [0, 1, 4, 5, 6, 8, 9, 10, 11]) rfl rfl ?_ ?_
  ·
   exact ⟨Nat.zero_le _, .inl ⟨rfl, fun _ h => absurd h (Nat.not_lt_zero _)⟩, hs⟩
  clear hs
  intro j k w hI
  show W _ _ _ _ [(0, .pointer (some ⟨y.B, 0, none⟩)), (1, .int .i64 i), (4, .slice (some ⟨gd, 0, none⟩) n n), (5, .slice (some ⟨gf, 0, none⟩) n n), (6, .slice (some ⟨ge, 0, none⟩) n n), (8, .int .i64 (-1)), (9, .int .i64 reach), (10, .int .i64 k), (11, .int .i64 j)] w
  obtain ⟨hj, hk, hs⟩ := hI
  by_cases hlt2 : j < n
  ·
   cases hEj : E.getD j false
   ·
    have hxj : (bls E)[j]? = some (.bool false) := by rw [<- hEj]; exact bls_get (by omega)
    have hxd : gbo E j = false := hEj
    rcases hk with ⟨rfl, hk⟩ | ⟨kn, rfl, hkn, hkd, hkm⟩
    ·
     refine Wqq (Lmm rfl rfl (Ln rfl (Lf 0 u_134 rfl i_3 (Ll o_3 rfl (by exact hold hs (hrd.bx rfl) hrd.nb) ?_))))
     refine Clss rfl (dtrue (by omega)) ?_
     refine Rt (Wt rfl (Ws (Wsq (W_block (Wsq (W_pht [0, 1, 2] [3, 4, 5, 6, 7, 8, 9, 10, 11, 12, 13, 14, 15, 16, 17, 18, 19] [] (fun _ _ _ => False) Tryz.mixed (chkAll_of (by kernel_rfl)) (fun _ _ _ _ _ h => h) hs ?_))))))
     refine Pm rfl (Pm rfl (Pv rfl (fun w => R_idx1 u_139 i_4 rfl rfl (natc_k _) (by omega) rfl) ?_))
     refine PL_end (Hv rfl (fun w hs => R_load o_4 rfl (by exact hs.cellA (i := 6) rfl hxj)) ?_)
     refine Hv rfl (fun w hs => R_not rfl) ?_
     refine Hm rfl (Hw rfl rfl (Hm rfl (Hw rfl rfl (Hv rfl (fun w hs => R_lss rfl rfl (dtrue (by omega))) ?_))))
     refine Hw rfl rfl (Hm rfl (HL_skip rfl rfl rfl rfl (HL_skip rfl rfl rfl rfl (HL_skip rfl rfl rfl rfl (HL_skip rfl rfl rfl rfl (HL_skip rfl rfl rfl rfl (HL_skip rfl rfl rfl rfl (HL_skip rfl rfl rfl rfl (HL_skip rfl rfl rfl rfl (HL_skip rfl rfl rfl rfl (Hw rfl rfl (Hv rfl (fun w hs => R_pick_t rfl rfl) ?_))))))))))))
     refine Hv rfl (fun w hs => R_pick_t rfl rfl) ?_
     refine HL_tail ?_
     intro w hs
     refine Rt (Wt rfl (Wr (Lm rfl (La rfl (Rnl (Nx_block (Nt (Wr (Lm rfl (Cadd rfl (wrp_i64 (by omega)) ?_))))))))))
     refine La rfl (Rnl (Nq (j + 1, (j : Int), w) [0, 1, 4, 5, 6, 8, 9, 10, 11] rfl ?_ ?_))
     ·
      dsimp only
      refine ⟨by omega, .inr ⟨j, rfl, by omega, hxd, fun z hz hzd => ?_⟩, hs⟩
      by_cases hzj : z = j
      ·
       rw [hzj]; exact Int.le_refl _
      rw [hk z (by omega)] at hzd; cases hzd
     omega
    by_cases hcm : D.getD j 0 < D.getD kn 0
    ·
     refine Wqq (Lmm rfl rfl (Ln rfl (Lf 0 u_134 rfl i_3 (Ll o_3 rfl (by exact hold hs (hrd.bx rfl) hrd.nb) ?_))))
     refine Clss rfl (dtrue (by omega)) ?_
     refine Rt (Wt rfl (Ws (Wsq (W_block (Wsq (W_pht [0, 1, 2] [3, 4, 5, 6, 7, 8, 9, 10, 11, 12, 13, 14, 15, 16, 17, 18, 19] [] (fun _ _ _ => False) Tryz.mixed (chkAll_of (by kernel_rfl)) (fun _ _ _ _ _ h => h) hs ?_))))))
     refine Pm rfl (Pm rfl (Pv rfl (fun w => R_idx1 u_139 i_4 rfl rfl (natc_k _) (by omega) rfl) ?_))
     refine PL_end (Hv rfl (fun w hs => R_load o_4 rfl (by exact hs.cellA (i := 6) rfl hxj)) ?_)
     refine Hv rfl (fun w hs => R_not rfl) ?_
     refine Hm rfl (Hw rfl rfl (Hm rfl (Hw rfl rfl (Hv rfl (fun w hs => R_lss rfl rfl (dfalse (by omega))) ?_))))
     refine Hw rfl rfl (Hm rfl (Hw rfl rfl (Hm rfl (Hw rfl rfl (Hm rfl (Hw rfl rfl (Hx u_88 i_2 rfl (natc_k _) (by omega) rfl ?_)))))))
     refine Hw rfl rfl (Hv rfl (fun w hs => R_load o_2 rfl (by exact hs.cellA (i := 4) rfl (il_get (by omega)))) ?_)
     refine Hw rfl rfl (Hm rfl (Hw rfl rfl (Hm rfl (Hw rfl rfl (Hx u_88 i_2 rfl (natc_k _) (by omega) rfl ?_)))))
     refine Hw rfl rfl (Hv rfl (fun w hs => R_load o_2 rfl (by exact hs.cellA (i := 4) rfl (il_get (by omega)))) ?_)
     refine Hw rfl rfl (Hv rfl (fun w hs => R_lss rfl rfl (dtrue (by omega))) ?_)
     refine Hw rfl rfl (Hv rfl (fun w hs => R_pick_f rfl rfl) ?_)
     refine Hv rfl (fun w hs => R_pick_t rfl rfl) ?_
     refine HL_tail ?_
     intro w hs
     refine Rt (Wt rfl (Wr (Lm rfl (La rfl (Rnl (Nx_block (Nt (Wr (Lm rfl (Cadd rfl (wrp_i64 (by omega)) ?_))))))))))
     refine La rfl (Rnl (Nq (j + 1, (j : Int), w) [0, 1, 4, 5, 6, 8, 9, 10, 11] rfl ?_ ?_))
     ·
      dsimp only
      refine ⟨by omega, .inr ⟨j, rfl, by omega, hxd, fun z hz hzd => ?_⟩, hs⟩
      by_cases hzj : z = j
      ·
       rw [hzj]; exact Int.le_refl _
      have h5 := hkm z (by omega) hzd
      have h6 : gi D j < gi D kn := hcm
      omega
     omega
    refine Wqq (Lmm rfl rfl (Ln rfl (Lf 0 u_134 rfl i_3 (Ll o_3 rfl (by exact hold hs (hrd.bx rfl) hrd.nb) ?_))))
    refine Clss rfl (dtrue (by omega)) ?_
    refine Rt (Wt rfl (Ws (Wsq (W_block (Wsq (W_pht [0, 1, 2] [3, 4, 5, 6, 7, 8, 9, 10, 11, 12, 13, 14, 15, 16, 17, 18, 19] [] (fun _ _ _ => False) Tryz.mixed (chkAll_of (by kernel_rfl)) (fun _ _ _ _ _ h => h) hs ?_))))))
    refine Pm rfl (Pm rfl (Pv rfl (fun w => R_idx1 u_139 i_4 rfl rfl (natc_k _) (by omega) rfl) ?_))
    refine PL_end (Hv rfl (fun w hs => R_load o_4 rfl (by exact hs.cellA (i := 6) rfl hxj)) ?_)
    refine Hv rfl (fun w hs => R_not rfl) ?_
    refine Hm rfl (Hw rfl rfl (Hm rfl (Hw rfl rfl (Hv rfl (fun w hs => R_lss rfl rfl (dfalse (by omega))) ?_))))
    refine Hw rfl rfl (Hm rfl (Hw rfl rfl (Hm rfl (Hw rfl rfl (Hm rfl (Hw rfl rfl (Hx u_88 i_2 rfl (natc_k _) (by omega) rfl ?_)))))))
    refine Hw rfl rfl (Hv rfl (fun w hs => R_load o_2 rfl (by exact hs.cellA (i := 4) rfl (il_get (by omega)))) ?_)
    refine Hw rfl rfl (Hm rfl (Hw rfl rfl (Hm rfl (Hw rfl rfl (Hx u_88 i_2 rfl (natc_k _) (by omega) rfl ?_)))))
    refine Hw rfl rfl (Hv rfl (fun w hs => R_load o_2 rfl (by exact hs.cellA (i := 4) rfl (il_get (by omega)))) ?_)
    refine Hw rfl rfl (Hv rfl (fun w hs => R_lss rfl rfl (dfalse (by omega))) ?_)
    refine Hw rfl rfl (Hv rfl (fun w hs => R_pick_f rfl rfl) ?_)
    refine Hv rfl (fun w hs => R_pick_t rfl rfl) ?_
    refine HL_tail ?_
    intro w hs
    refine Rt (Wf rfl (W_skip' (Nx_block (Nt (Wr (Lm rfl (Cadd rfl (wrp_i64 (by omega)) ?_)))))))
    refine La rfl (Rnl (Nq (j + 1, (kn : Int), w) [0, 1, 4, 5, 6, 8, 9, 10, 11] rfl ?_ ?_))
    ·
     dsimp only
     refine ⟨by omega, .inr ⟨kn, rfl, by omega, hkd, fun z hz hzd => ?_⟩, hs⟩
     by_cases hzj : z = j
     ·
      rw [hzj]
      have h6 : ¬gi D j < gi D kn := hcm
      omega
     exact hkm z (by omega) hzd
    omega
   have hxj : (bls E)[j]? = some (.bool true) := by rw [<- hEj]; exact bls_get (by omega)
   have hxd : gbo E j = true := hEj
   refine Wqq (Lmm rfl rfl (Ln rfl (Lf 0 u_134 rfl i_3 (Ll o_3 rfl (by exact hold hs (hrd.bx rfl) hrd.nb) ?_))))
   refine Clss rfl (dtrue (by omega)) ?_
   refine Rt (Wt rfl (Ws (Wsq (W_block (Wsq (W_pht [0, 1, 2] [3, 4, 5, 6, 7, 8, 9, 10, 11, 12, 13, 14, 15, 16, 17, 18, 19] [] (fun _ _ _ => False) Tryz.mixed (chkAll_of (by kernel_rfl)) (fun _ _ _ _ _ h => h) hs ?_))))))
   refine Pm rfl (Pm rfl (Pv rfl (fun w => R_idx1 u_139 i_4 rfl rfl (natc_k _) (by omega) rfl) ?_))
   refine PL_end (Hv rfl (fun w hs => R_load o_4 rfl (by exact hs.cellA (i := 6) rfl hxj)) ?_)
   refine Hv rfl (fun w hs => R_not rfl) ?_
   refine Hm rfl (HL_skip rfl rfl rfl rfl (HL_skip rfl rfl rfl rfl (HL_skip rfl rfl rfl rfl (HL_skipU rfl rfl rfl (HL_skipU rfl rfl rfl (HL_skipU rfl rfl rfl (HL_skipU rfl rfl rfl (HL_skipU rfl rfl rfl (HL_skipU rfl rfl rfl (HL_skipU rfl rfl rfl (HL_skipU rfl rfl rfl (HL_skipU rfl rfl rfl (HL_skip rfl rfl rfl rfl (Hv rfl (fun w hs => R_pick_f rfl rfl) ?_))))))))))))))
   refine HL_tail ?_
   intro w hs
   refine Rt (Wf rfl (W_skip' (Nx_block (Nt (Wr (Lm rfl (Cadd rfl (wrp_i64 (by omega)) ?_)))))))
   refine La rfl (Rnl (Nq (j + 1, k, w) [0, 1, 4, 5, 6, 8, 9, 10, 11] rfl ?_ ?_))
   ·
    dsimp only
    refine ⟨by omega, ?_, hs⟩
    rcases hk with ⟨h5, h6⟩ | ⟨kn, h5, h6, h7, h8⟩
    ·
     refine .inl ⟨h5, fun z hz => ?_⟩
     by_cases hzj : z = j
     ·
      rw [hzj]; exact hxd
     exact h6 z (by omega)
    refine .inr ⟨kn, h5, by omega, h7, fun z hz hzd => ?_⟩
    have hzj : z ≠ j := fun he => by rw [he, hxd] at hzd; cases hzd
    exact h8 z (by omega) hzd
   omega
  obtain rfl : n = j := by omega
  rcases hk with ⟨h5, h6⟩ | ⟨kn, rfl, hkn, hkd, hkm⟩
  ·
   rw [h6 f0 hf0] at hf0d; cases hf0d
  obtain ⟨hCh, hrk⟩ := hEn.choose hin (Int.le_refl _) hC hkn hkd hkm
  have eE : (fun j => if j = kn then true else gbo E j) = gbo (E.set kn true) := by
   funext z
   show (if z = kn then true else gbo E z) = (E.set kn true).getD z false
   rw [gset (by omega)]
  rw [eE] at hCh
  have hEl' : (E.set kn true).length = n := by simp [hEl]
  have hEk : gbo (E.set kn true) kn = true := by show (E.set kn true).getD kn false = true; rw [gset (by omega), if_pos rfl]
  obtain ⟨E', hE'⟩ : ∃ E', E' = E.set kn true := ⟨_, rfl⟩
  rw [<- hE'] at hCh hEl' hEk
  obtain ⟨hDk, hDd, htn'⟩ := hCh.bd hin hui hbV hC
  have hDk' : 0 <= D.getD kn 0 /\ D.getD kn 0 <= 4503599627370496 := hDk
  have hRk := hSq.mat.ran kn hkn
  refine Wqq (Lmm rfl rfl (Ln rfl (Lf 0 u_134 rfl i_3 (Ll o_3 rfl (by exact hold hs (hrd.bx rfl) hrd.nb) ?_))))
  refine Clss rfl (dfalse (by omega)) ?_
  refine Rt (Wf rfl (W_exit' (Ex_then_exit (Ex_loop_exit (Ex_block_hit (Nt (Wq (Lmm rfl rfl (Li u_139 i_4 rfl (natc_k _) (by omega) rfl ?_)))))))))
  refine L_store hs (i := 6) rfl i_4 rfl rfl (by exact add_lit0 _ _) (by simp; omega) rfl ?_
  intro w hs
  dsimp only [sS, sZ, sA, sN] at hs
  refine Rq ?_
  rw [bls_set, <- hE'] at hs
  refine Lmm rfl rfl (Li u_88 i_2 rfl (natc_k _) (by omega) rfl ?_)
  refine Ll o_2 rfl (by exact hs.cellA (i := 4) rfl (il_get (by omega))) ?_
  refine La rfl (Rq (Lm rfl (Ln rfl (Lf 5 u_134 rfl i_52 (Ll o_52 rfl (by exact hold hs (hrd.bx rfl) hrd.nb) ?_)))))
  refine Lm rfl (Li u_52 i_3 rfl (natc_k _) (by omega) rfl ?_)
  refine Ll o_3 rfl (by exact hs.cellA (i := 3) rfl (il_get' (by omega))) ?_
  refine La rfl (Rqq ?_)
  rcases hRk with hRk | hRk
  ·
   have hRk' : R.getD kn 0 = -1 := hRk
   rw [hRk']
   refine Lm rfl (Clss rfl (dtrue (by omega)) ?_)
   refine Rt (Wt rfl (Wq (Lm rfl (La rfl (Rt (W_exit' (Ex_then_exit (Ex_block_miss rfl (Ex_loop_exit (Ex_block_hit (Nx_cutP (D, F, E', kn, t + 1, w) (is := [0, 1, 4, 5, 6, 8, 9]) (I' := (fun (D : List Int) (F : List Int) (E : List Bool) (k : Nat) (t : Nat) (w : World) => (D.length = n) /\ (F.length = n) /\ (E.length = n) /\ (k < n) /\ (gbo E k = true) /\ (gi R k = -1) /\ (Ch n C i (gi R) (gi U) (gi V) (gi D) (gi F) (gbo E) k t) /\ (HS w0 w (EnL y U V M R gd gf ge D F E))) (D) (F) (E') (kn) (t + 1) (w)) rfl rfl rfl ?_)))))))))))
   exact ⟨hDl, hFl, hEl', hkn, hEk, hRk, hCh, hs⟩
  obtain ⟨r, hr, hri⟩ : ∃ r : Nat, gi R kn = (r : Int) /\ r < i := ⟨(gi R kn).toNat, by omega, by omega⟩
  have hRk' : R.getD kn 0 = (r : Int) := hr
  rw [hRk']
  have hrn : r < n := by omega
  obtain ⟨g2, cp2, hq1, hq2, hq3⟩ := hrd.row r hrn
  refine Lm rfl (Clss rfl (dfalse (by omega)) ?_)
  refine Rt (Wf rfl (Ws (Wq (La rfl (Rt (W_block ?_))))))
  refine W_loop4 (fun (j : Nat) (D' : List Int) (F' : List Int) (w : World) => [(0, .pointer (some ⟨y.B, 0, none⟩)), (1, .int .i64 i), (4, .slice (some ⟨gd, 0, none⟩) n n), (5, .slice (some ⟨gf, 0, none⟩) n n), (6, .slice (some ⟨ge, 0, none⟩) n n), (8, .int .i64 (-1)), (9, .int .i64 (D.getD kn 0)), (12, .int .i64 r), (13, .int .i64 j)]) (fun j D' F' w => w) (fun j D' F' w => (j <= n) /\ (D'.length = n) /\ (F'.length = n) /\ (∀ z, z < n -> (z < j -> gi D' z = if gbo E' z = false /\ gi D kn + C r z - gi U r - gi V z < gi D z then gi D kn + C r z - gi U r - gi V z else gi D z) /\ (j <= z -> gi D' z = gi D z)) /\ (∀ z, z < n -> (z < j -> gi F' z = if gbo E' z = false /\ gi D kn + C r z - gi U r - gi V z < gi D z then (r : Int) else gi F z) /\ (j <= z -> gi F' z = gi F z)) /\ (HS w0 w (EnL y U V M R gd gf ge D' F' E'))) (fun j D' F' w => n - j) (0) (D) (F) (w) (is := [0, 1, 4, 5, 6, 8, 9, 12, 13]) rfl rfl ?_ ?_
  ·
   exact ⟨Nat.zero_le _, hDl, hFl, fun z _ => ⟨fun h => absurd h (Nat.not_lt_zero _), fun _ => rfl⟩, fun z _ => ⟨fun h => absurd h (Nat.not_lt_zero _), fun _ => rfl⟩, hs⟩
  clear hs
  intro j D' F' w hI
  show W _ _ _ _ [(0, .pointer (some ⟨y.B, 0, none⟩)), (1, .int .i64 i), (4, .slice (some ⟨gd, 0, none⟩) n n), (5, .slice (some ⟨gf, 0, none⟩) n n), (6, .slice (some ⟨ge, 0, none⟩) n n), (8, .int .i64 (-1)), (9, .int .i64 (D.getD kn 0)), (12, .int .i64 r), (13, .int .i64 j)] w
  obtain ⟨hj, hDl', hFl', hD', hF', hs⟩ := hI
  by_cases hlt3 : j < n
  ·
   have b1 := hC r j hrn hlt3
   have b2 : 0 <= U.getD r 0 /\ U.getD r 0 <= 4503599627370496 := hbU r hrn
   have b3 : -4503599627370496 <= V.getD j 0 /\ V.getD j 0 <= 0 := hbV j hlt3
   have hDj : D'.getD j 0 = gi D j := (hD' j hlt3).2 (Nat.le_refl _)
   have hFj : F'.getD j 0 = gi F j := (hF' j hlt3).2 (Nat.le_refl _)
   cases hEj : E'.getD j false
   ·
    have hxj : (bls E')[j]? = some (.bool false) := by rw [<- hEj]; exact bls_get (by omega)
    have hxd : gbo E' j = false := hEj
    by_cases hcm : D.getD kn 0 + C r j - U.getD r 0 - V.getD j 0 < D'.getD j 0
    ·
     have hcm' : gi D kn + C r j - gi U r - gi V j < gi D j := by rw [hDj] at hcm; exact hcm
     refine Wqq (Lmm rfl rfl (Ln rfl (Lf 0 u_134 rfl i_3 (Ll o_3 rfl (by exact hold hs (hrd.bx rfl) hrd.nb) ?_))))
     refine Clss rfl (dtrue (by omega)) ?_
     refine Rt (Wt rfl (Ws (Wsq (W_block (Wsq (W_pht [0, 1, 2, 3, 5, 8, 12, 13, 14, 16, 20, 21, 22, 24] [4, 6, 7, 9, 10, 11, 15, 17, 18, 19, 23, 25, 26, 27, 28] [] (fun _ _ _ => False) Tryz.mixed (chkAll_of (by kernel_rfl)) (fun _ _ _ _ _ h => h) hs ?_))))))
     refine Pm rfl (Pm rfl (Pn rfl (Pfa 1 u_134 rfl i_85 (Pm rfl (Pm rfl (Pm rfl (Pn rfl (Pfa 2 u_134 rfl i_88 (Pm rfl (Pm rfl (Pn rfl (Pfa 3 u_134 rfl i_88 (Pm rfl (PL_end (Hv rfl (fun w hs => R_load o_85 rfl (by exact hold hs (hrd.bx rfl) hrd.nb)) ?_)))))))))))))))
     refine Hx u_85 i_88 rfl (natc_k _) (by omega) rfl ?_
     refine Hl o_88 rfl (fun w hs => (by exact hold hs hq1 hrd.nc)) ?_
     refine Hx u_88 i_2 rfl (natc_k _) (by omega) rfl ?_
     refine Hl o_2 rfl (fun w hs => (by exact hold hs (hq3 _ (by omega)) hq2)) ?_
     refine Hv rfl (fun w hs => R_add rfl rfl (wrp_i64 (by omega))) ?_
     refine Hl o_88 rfl (fun w hs => (by exact hold hs (hrd.bx rfl) hrd.nb)) ?_
     refine Hx u_88 i_2 rfl (natc_k _) (by omega) rfl ?_
     refine Hl o_2 rfl (fun w hs => (by exact hs.cellA (i := 0) rfl (il_get' (by omega)))) ?_
     refine Hv rfl (fun w hs => R_sub rfl rfl (wrp_i64 (by omega))) ?_
     refine Hl o_88 rfl (fun w hs => (by exact hold hs (hrd.bx rfl) hrd.nb)) ?_
     refine Hx u_88 i_2 rfl (natc_k _) (by omega) rfl ?_
     refine Hl o_2 rfl (fun w hs => (by exact hs.cellA (i := 1) rfl (il_get' (by omega)))) ?_
     refine Hv rfl (fun w hs => R_sub rfl rfl (wrp_i64 (by omega))) ?_
     refine Hv rfl (fun w hs => R_assign rfl) ?_
     refine HL_tail ?_
     intro w hs
     refine Rq (Lmm rfl rfl (Li u_139 i_4 rfl (natc_k _) (by omega) rfl ?_))
     refine Ll o_4 rfl (by exact hs.cellA (i := 6) rfl hxj) ?_
     refine Lnot rfl (Lm rfl (Gm rfl rfl (Gm rfl rfl (Gm rfl rfl (Rw rfl (Li u_88 i_2 rfl (natc_k _) (by omega) rfl ?_))))))
     refine Rw rfl (Ll o_2 rfl (by exact hs.cellA (i := 4) rfl (il_get (by omega))) ?_)
     refine Rw rfl (Clss rfl (dtrue (by omega)) ?_)
     refine Lpt rfl (Rt (Wt rfl (Wq (Lmm rfl rfl (Lm rfl (Li u_88 i_2 rfl (natc_k _) (by omega) rfl ?_))))))
     refine L_store hs (i := 4) rfl i_2 rfl rfl (by exact add_lit0 _ _) (by simp; omega) rfl ?_
     intro w hs
     dsimp only [sS, sZ, sA, sN] at hs
     refine Rr (Lmm rfl rfl (Lm rfl (Li u_52 i_3 rfl (natc_k _) (by omega) rfl ?_)))
     refine L_store hs (i := 5) rfl i_3 rfl rfl (by exact add_lit0 _ _) (by simp; omega) rfl ?_
     intro w hs
     dsimp only [sS, sZ, sA, sN] at hs
     refine Rnl (Nx_block (Nt (Wr (Lm rfl (Cadd rfl (wrp_i64 (by omega)) ?_)))))
     refine La rfl (Rnl ?_)
     rw [il_set, il_set] at hs
     refine Nq (j + 1, D'.set j (gi D kn + C r j - gi U r - gi V j), F'.set j r, w) [0, 1, 4, 5, 6, 8, 9, 12, 13] rfl ?_ ?_
     ·
      dsimp only
      refine ⟨by omega, by simp [hDl'], by simp [hFl'], fun z hz => ?_, fun z hz => ?_, hs⟩
      ·
       show (z < j + 1 -> (D'.set j _).getD z 0 = _) /\ (j + 1 <= z -> (D'.set j _).getD z 0 = _)
       rw [gset (by omega)]
       by_cases hzj : z = j
       ·
        subst hzj
        rw [if_pos rfl, if_pos ⟨hxd, hcm'⟩]
        exact ⟨fun _ => rfl, fun h => absurd h (by omega)⟩
       rw [if_neg hzj]; exact ⟨fun h => (hD' z hz).1 (by omega), fun h => (hD' z hz).2 (by omega)⟩
      show (z < j + 1 -> (F'.set j _).getD z 0 = _) /\ (j + 1 <= z -> (F'.set j _).getD z 0 = _)
      rw [gset (by omega)]
      by_cases hzj : z = j
      ·
       subst hzj
       rw [if_pos rfl, if_pos ⟨hxd, hcm'⟩]
       exact ⟨fun _ => rfl, fun h => absurd h (by omega)⟩
      rw [if_neg hzj]; exact ⟨fun h => (hF' z hz).1 (by omega), fun h => (hF' z hz).2 (by omega)⟩
     omega
    have hcm' : ¬gi D kn + C r j - gi U r - gi V j < gi D j := by rw [hDj] at hcm; exact hcm
    refine Wqq (Lmm rfl rfl (Ln rfl (Lf 0 u_134 rfl i_3 (Ll o_3 rfl (by exact hold hs (hrd.bx rfl) hrd.nb) ?_))))
    refine Clss rfl (dtrue (by omega)) ?_
    refine Rt (Wt rfl (Ws (Wsq (W_block (Wsq (W_pht [0, 1, 2, 3, 5, 8, 12, 13, 14, 16, 20, 21, 22, 24] [4, 6, 7, 9, 10, 11, 15, 17, 18, 19, 23, 25, 26, 27, 28] [] (fun _ _ _ => False) Tryz.mixed (chkAll_of (by kernel_rfl)) (fun _ _ _ _ _ h => h) hs ?_))))))
    refine Pm rfl (Pm rfl (Pn rfl (Pfa 1 u_134 rfl i_85 (Pm rfl (Pm rfl (Pm rfl (Pn rfl (Pfa 2 u_134 rfl i_88 (Pm rfl (Pm rfl (Pn rfl (Pfa 3 u_134 rfl i_88 (Pm rfl (PL_end (Hv rfl (fun w hs => R_load o_85 rfl (by exact hold hs (hrd.bx rfl) hrd.nb)) ?_)))))))))))))))
    refine Hx u_85 i_88 rfl (natc_k _) (by omega) rfl ?_
    refine Hl o_88 rfl (fun w hs => (by exact hold hs hq1 hrd.nc)) ?_
    refine Hx u_88 i_2 rfl (natc_k _) (by omega) rfl ?_
    refine Hl o_2 rfl (fun w hs => (by exact hold hs (hq3 _ (by omega)) hq2)) ?_
    refine Hv rfl (fun w hs => R_add rfl rfl (wrp_i64 (by omega))) ?_
    refine Hl o_88 rfl (fun w hs => (by exact hold hs (hrd.bx rfl) hrd.nb)) ?_
    refine Hx u_88 i_2 rfl (natc_k _) (by omega) rfl ?_
    refine Hl o_2 rfl (fun w hs => (by exact hs.cellA (i := 0) rfl (il_get' (by omega)))) ?_
    refine Hv rfl (fun w hs => R_sub rfl rfl (wrp_i64 (by omega))) ?_
    refine Hl o_88 rfl (fun w hs => (by exact hold hs (hrd.bx rfl) hrd.nb)) ?_
    refine Hx u_88 i_2 rfl (natc_k _) (by omega) rfl ?_
    refine Hl o_2 rfl (fun w hs => (by exact hs.cellA (i := 1) rfl (il_get' (by omega)))) ?_
    refine Hv rfl (fun w hs => R_sub rfl rfl (wrp_i64 (by omega))) ?_
    refine Hv rfl (fun w hs => R_assign rfl) ?_
    refine HL_tail ?_
    intro w hs
    refine Rq (Lmm rfl rfl (Li u_139 i_4 rfl (natc_k _) (by omega) rfl ?_))
    refine Ll o_4 rfl (by exact hs.cellA (i := 6) rfl hxj) ?_
    refine Lnot rfl (Lm rfl (Gm rfl rfl (Gm rfl rfl (Gm rfl rfl (Rw rfl (Li u_88 i_2 rfl (natc_k _) (by omega) rfl ?_))))))
    refine Rw rfl (Ll o_2 rfl (by exact hs.cellA (i := 4) rfl (il_get (by omega))) ?_)
    refine Rw rfl (Clss rfl (dfalse (by omega)) ?_)
    refine Lpt rfl (Rt (Wf rfl (W_skip' (Nx_block (Nt (Wr (Lm rfl (Cadd rfl (wrp_i64 (by omega)) ?_))))))))
    refine La rfl (Rnl (Nq (j + 1, D', F', w) [0, 1, 4, 5, 6, 8, 9, 12, 13] rfl ?_ ?_))
    ·
     dsimp only
     refine ⟨by omega, hDl', hFl', fun z hz => ?_, fun z hz => ?_, hs⟩
     ·
      by_cases hzj : z = j
      ·
       subst hzj
       rw [if_neg (fun h => hcm' h.2)]
       exact ⟨fun _ => hDj, fun _ => hDj⟩
      exact ⟨fun h => (hD' z hz).1 (by omega), fun h => (hD' z hz).2 (by omega)⟩
     by_cases hzj : z = j
     ·
      subst hzj
      rw [if_neg (fun h => hcm' h.2)]
      exact ⟨fun _ => hFj, fun _ => hFj⟩
     exact ⟨fun h => (hF' z hz).1 (by omega), fun h => (hF' z hz).2 (by omega)⟩
    omega
   have hxj : (bls E')[j]? = some (.bool true) := by rw [<- hEj]; exact bls_get (by omega)
   have hxd : gbo E' j = true := hEj
   have hno : ¬gbo E' j = false := by rw [hxd]; simp
   refine Wqq (Lmm rfl rfl (Ln rfl (Lf 0 u_134 rfl i_3 (Ll o_3 rfl (by exact hold hs (hrd.bx rfl) hrd.nb) ?_))))
   refine Clss rfl (dtrue (by omega)) ?_
   refine Rt (Wt rfl (Ws (Wsq (W_block (Wsq (W_pht [0, 1, 2, 3, 5, 8, 12, 13, 14, 16, 20, 21, 22, 24] [4, 6, 7, 9, 10, 11, 15, 17, 18, 19, 23, 25, 26, 27, 28] [] (fun _ _ _ => False) Tryz.mixed (chkAll_of (by kernel_rfl)) (fun _ _ _ _ _ h => h) hs ?_))))))
   refine Pm rfl (Pm rfl (Pn rfl (Pfa 1 u_134 rfl i_85 (Pm rfl (Pm rfl (Pm rfl (Pn rfl (Pfa 2 u_134 rfl i_88 (Pm rfl (Pm rfl (Pn rfl (Pfa 3 u_134 rfl i_88 (Pm rfl (PL_end (Hv rfl (fun w hs => R_load o_85 rfl (by exact hold hs (hrd.bx rfl) hrd.nb)) ?_)))))))))))))))
   refine Hx u_85 i_88 rfl (natc_k _) (by omega) rfl ?_
   refine Hl o_88 rfl (fun w hs => (by exact hold hs hq1 hrd.nc)) ?_
   refine Hx u_88 i_2 rfl (natc_k _) (by omega) rfl ?_
   refine Hl o_2 rfl (fun w hs => (by exact hold hs (hq3 _ (by omega)) hq2)) ?_
   refine Hv rfl (fun w hs => R_add rfl rfl (wrp_i64 (by omega))) ?_
   refine Hl o_88 rfl (fun w hs => (by exact hold hs (hrd.bx rfl) hrd.nb)) ?_
   refine Hx u_88 i_2 rfl (natc_k _) (by omega) rfl ?_
   refine Hl o_2 rfl (fun w hs => (by exact hs.cellA (i := 0) rfl (il_get' (by omega)))) ?_
   refine Hv rfl (fun w hs => R_sub rfl rfl (wrp_i64 (by omega))) ?_
   refine Hl o_88 rfl (fun w hs => (by exact hold hs (hrd.bx rfl) hrd.nb)) ?_
   refine Hx u_88 i_2 rfl (natc_k _) (by omega) rfl ?_
   refine Hl o_2 rfl (fun w hs => (by exact hs.cellA (i := 1) rfl (il_get' (by omega)))) ?_
   refine Hv rfl (fun w hs => R_sub rfl rfl (wrp_i64 (by omega))) ?_
   refine Hv rfl (fun w hs => R_assign rfl) ?_
   refine HL_tail ?_
   intro w hs
   refine Rq (Lmm rfl rfl (Li u_139 i_4 rfl (natc_k _) (by omega) rfl ?_))
   refine Ll o_4 rfl (by exact hs.cellA (i := 6) rfl hxj) ?_
   refine Lnot rfl (Lm rfl (Rs rfl (Rs rfl (Rs rfl (Rs rfl (Rs rfl (Rs rfl (Lpf rfl (Rt (Wf rfl (W_skip' (Nx_block (Nt (Wr (Lm rfl (Cadd rfl (wrp_i64 (by omega)) ?_))))))))))))))))
   refine La rfl (Rnl (Nq (j + 1, D', F', w) [0, 1, 4, 5, 6, 8, 9, 12, 13] rfl ?_ ?_))
   ·
    dsimp only
    refine ⟨by omega, hDl', hFl', fun z hz => ?_, fun z hz => ?_, hs⟩
    ·
     by_cases hzj : z = j
     ·
      subst hzj
      rw [if_neg (fun h => hno h.1)]
      exact ⟨fun _ => hDj, fun _ => hDj⟩
     exact ⟨fun h => (hD' z hz).1 (by omega), fun h => (hD' z hz).2 (by omega)⟩
    by_cases hzj : z = j
    ·
     subst hzj
     rw [if_neg (fun h => hno h.1)]
     exact ⟨fun _ => hFj, fun _ => hFj⟩
    exact ⟨fun h => (hF' z hz).1 (by omega), fun h => (hF' z hz).2 (by omega)⟩
   omega
  obtain rfl : n = j := by omega
  refine Wqq (Lmm rfl rfl (Ln rfl (Lf 0 u_134 rfl i_3 (Ll o_3 rfl (by exact hold hs (hrd.bx rfl) hrd.nb) ?_))))
  refine Clss rfl (dfalse (by omega)) ?_
  refine Rt (Wf rfl ?_)
  have hrt : (gi R kn).toNat = r := by omega
  have hEn' := hCh.scan hkn hEk (by omega) (dist' := gi D') (frm' := gi F') (fun z hz => by rw [hrt]; exact (hD' z hz).1 hz) (fun z hz => by rw [hrt, hr]; exact (hF' z hz).1 hz)
  refine W_exit' (Ex_then_exit (Ex_loop_exit (Ex_block_hit (Nx_block (Nq (D', F', E', gi D kn, D.getD kn 0, t + 1, w) [0, 1, 4, 5, 6, 8, 9] rfl ?_ ?_)))))
  ·
   dsimp only
   exact ⟨hDl', hFl', hEl', hEn', hs⟩
  show n + 1 - (t + 1) < n + 1 - t
  omega
 clear hs hEn hDl hFl
 intro D F E k t w hI
 show W _ _ _ _ [(0, .pointer (some ⟨y.B, 0, none⟩)), (1, .int .i64 i), (4, .slice (some ⟨gd, 0, none⟩) n n), (5, .slice (some ⟨gf, 0, none⟩) n n), (6, .slice (some ⟨ge, 0, none⟩) n n), (8, .int .i64 k), (9, .int .i64 (gi D k))] w
 obtain ⟨hDl, hFl, hEl, hkn, hEk, hRk, hCh, hs⟩ := hI
 obtain ⟨hDk, hDd, _⟩ := hCh.bd hin hui hbV hC
 obtain ⟨reach, hreach⟩ : ∃ reach, reach = gi D k := ⟨_, rfl⟩
 rw [<- hreach] at hDk hDd
 rw [<- hreach]
 have hUi : 0 <= U.getD i 0 /\ U.getD i 0 <= 4503599627370496 := hbU i hin
 refine Wsq (W_pht [0, 1, 2, 4, 5, 6, 7, 9, 12] [3, 8, 10, 11, 13, 14] [15] (fun _ _ _ => False) Tryz.mixed (chkAll_of (by kernel_rfl)) (fun _ _ _ _ _ h => h) hs ?_)
 refine Pm rfl (Pn rfl (Pfa 2 u_134 rfl i_88 (Pm rfl (Pm rfl (Pn rfl (Pfa 2 u_134 rfl i_88 (Pm rfl (Pm rfl (PL_end (Hv rfl (fun w hs => R_load o_88 rfl (by exact hold hs (hrd.bx rfl) hrd.nb)) ?_))))))))))
 refine Hl o_88 rfl (fun w hs => (by exact hold hs (hrd.bx rfl) hrd.nb)) ?_
 refine Hx u_88 i_2 rfl (natc_k _) (by omega) rfl ?_
 refine Hl o_2 rfl (fun w hs => (by exact hs.cellA (i := 0) rfl (il_get' (by omega)))) ?_
 refine Hv rfl (fun w hs => R_add rfl rfl (wrp_i64 (by omega))) ?_
 refine Hx u_88 i_2 rfl (natc_k _) (by omega) rfl ?_
 refine HL_tail ?_
 intro w hs
 refine L_store hs (i := 0) rfl i_2 rfl rfl (by exact add_lit0 _ _) (by simp; omega) rfl ?_
 intro w hs
 dsimp only [sS, sZ, sA, sN] at hs
 refine Rqq (La rfl (Rt (W_block ?_)))
 rw [il_set' _ _ _ _ (by omega)] at hs
 refine W_loop4 (fun (j : Nat) (U2 : List Int) (V2 : List Int) (w : World) => [(0, .pointer (some ⟨y.B, 0, none⟩)), (1, .int .i64 i), (4, .slice (some ⟨gd, 0, none⟩) n n), (5, .slice (some ⟨gf, 0, none⟩) n n), (6, .slice (some ⟨ge, 0, none⟩) n n), (8, .int .i64 k), (9, .int .i64 reach), (15, .int .i64 j)]) (fun j U2 V2 w => w) (fun j U2 V2 w => (j <= n) /\ (U2.length = n) /\ (V2.length = n) /\ (gi U2 i = gi U i + reach) /\ (∀ z, z < j -> gbo E z = true -> z ≠ k -> gi U2 (gi R z).toNat = gi U (gi R z).toNat + (reach - gi D z)) /\ (∀ q, q ≠ i -> (∀ z, z < j -> gbo E z = true -> z ≠ k -> (gi R z).toNat ≠ q) -> gi U2 q = gi U q) /\ (∀ z, z < n -> (z < j -> gi V2 z = if gbo E z = true /\ z ≠ k then gi V z - (reach - gi D z) else gi V z) /\ (j <= z -> gi V2 z = gi V z)) /\ (HS w0 w (EnL y U2 V2 M R gd gf ge D F E))) (fun j U2 V2 w => n - j) (0) (U.set i (U.getD i 0 + reach)) (V) (w) (is := [0, 1, 4, 5, 6, 8, 9, 15]) rfl rfl ?_ ?_
 ·
  refine ⟨Nat.zero_le _, by simp [hUl], hVl, ?_, fun _ h => absurd h (Nat.not_lt_zero _), fun q hq _ => ?_, fun z _ => ⟨fun h => absurd h (Nat.not_lt_zero _), fun _ => rfl⟩, hs⟩
  ·
   show (U.set i _).getD i 0 = _
   rw [gset (by omega), if_pos rfl]
  show (U.set i _).getD q 0 = _
  rw [gset (by omega), if_neg hq]
 clear hs
 intro j U2 V2 w hI
 show W _ _ _ _ [(0, .pointer (some ⟨y.B, 0, none⟩)), (1, .int .i64 i), (4, .slice (some ⟨gd, 0, none⟩) n n), (5, .slice (some ⟨gf, 0, none⟩) n n), (6, .slice (some ⟨ge, 0, none⟩) n n), (8, .int .i64 k), (9, .int .i64 reach), (15, .int .i64 j)] w
 obtain ⟨hj, hUl2, hVl2, hU2i, hU2d, hU2o, hV2, hs⟩ := hI
 by_cases hlt : j < n
 ·
  cases hEj : E.getD j false
  ·
   have hxj : (bls E)[j]? = some (.bool false) := by rw [<- hEj]; exact bls_get (by omega)
   have hxd : ¬gbo E j = true := by show ¬E.getD j false = true; rw [hEj]; simp
   refine Wqq (Lmm rfl rfl (Ln rfl (Lf 0 u_134 rfl i_3 (Ll o_3 rfl (by exact hold hs (hrd.bx rfl) hrd.nb) ?_))))
   refine Clss rfl (dtrue (by omega)) ?_
   refine Rt (Wt rfl (Ws (Wsq (W_block (Wq (Lmm rfl rfl (Li u_139 i_4 rfl (natc_k _) (by omega) rfl ?_)))))))
   refine Ll o_4 rfl (by exact hs.cellA (i := 6) rfl hxj) ?_
   refine Lm rfl (Rs rfl (Rs rfl (Rs rfl (Lpf rfl (Rt (Wf rfl (W_skip' (Nx_block (Nt (Wr (Lm rfl (Cadd rfl (wrp_i64 (by omega)) ?_))))))))))))
   refine La rfl (Rnl (Nq (j + 1, U2, V2, w) [0, 1, 4, 5, 6, 8, 9, 15] rfl ?_ ?_))
   ·
    dsimp only
    refine ⟨by omega, hUl2, hVl2, hU2i, fun z hz hzd hzk => ?_, fun q hq h => hU2o q hq fun z hz => h z (by omega), fun z hz => ?_, hs⟩
    ·
     have hzj : z ≠ j := fun he => hxd (he ▸ hzd)
     exact hU2d z (by omega) hzd hzk
    by_cases hzj : z = j
    ·
     subst hzj
     rw [if_neg (fun h => hxd h.1)]
     exact ⟨fun _ => (hV2 z hz).2 (Nat.le_refl _), fun _ => (hV2 z hz).2 (Nat.le_refl _)⟩
    exact ⟨fun h => (hV2 z hz).1 (by omega), fun h => (hV2 z hz).2 (by omega)⟩
   omega
  have hxj : (bls E)[j]? = some (.bool true) := by rw [<- hEj]; exact bls_get (by omega)
  have hxd : gbo E j = true := hEj
  by_cases hjk : j = k
  ·
   refine Wqq (Lmm rfl rfl (Ln rfl (Lf 0 u_134 rfl i_3 (Ll o_3 rfl (by exact hold hs (hrd.bx rfl) hrd.nb) ?_))))
   refine Clss rfl (dtrue (by omega)) ?_
   refine Rt (Wt rfl (Ws (Wsq (W_block (Wq (Lmm rfl rfl (Li u_139 i_4 rfl (natc_k _) (by omega) rfl ?_)))))))
   refine Ll o_4 rfl (by exact hs.cellA (i := 6) rfl hxj) ?_
   refine Lm rfl (Gm rfl rfl (Gm rfl rfl (Rw rfl (Cneq rfl (dfalse (by omega)) ?_))))
   refine Lpt rfl (Rt (Wf rfl (W_skip' (Nx_block (Nt (Wr (Lm rfl (Cadd rfl (wrp_i64 (by omega)) ?_))))))))
   refine La rfl (Rnl (Nq (j + 1, U2, V2, w) [0, 1, 4, 5, 6, 8, 9, 15] rfl ?_ ?_))
   ·
    dsimp only
    refine ⟨by omega, hUl2, hVl2, hU2i, fun z hz hzd hzk => ?_, fun q hq h => hU2o q hq fun z hz => h z (by omega), fun z hz => ?_, hs⟩
    ·
     exact hU2d z (by omega) hzd hzk
    by_cases hzj : z = j
    ·
     subst hzj
     rw [if_neg (fun h => h.2 hjk)]
     exact ⟨fun _ => (hV2 z hz).2 (Nat.le_refl _), fun _ => (hV2 z hz).2 (Nat.le_refl _)⟩
    exact ⟨fun h => (hV2 z hz).1 (by omega), fun h => (hV2 z hz).2 (by omega)⟩
   omega
  have hRj0 : 0 <= gi R j := hCh.dn hlt hxd hjk
  have hRj := hSq.mat.ran j hlt
  obtain ⟨r, hr, hri⟩ : ∃ r : Nat, gi R j = (r : Int) /\ r < i := ⟨(gi R j).toNat, by omega, by omega⟩
  have hr' : R.getD j 0 = (r : Int) := hr
  have hrn : r < n := by omega
  have hUr : U2.getD r 0 = gi U r := hU2o r (by omega) fun z hz hzd hzk he => by
   have h5 : gi R z = gi R j := by have := hCh.dn (show z < n by omega) hzd hzk; omega
   have := hSq.mat.inj z j (by omega) hlt h5 (by have := hCh.dn (show z < n by omega) hzd hzk; omega)
   omega
  have b2 : 0 <= gi U r /\ gi U r <= 4503599627370496 := hbU r hrn
  have hVj : V2.getD j 0 = gi V j := (hV2 j hlt).2 (Nat.le_refl _)
  have b3 : -4503599627370496 <= gi V j /\ gi V j <= 0 := hbV j hlt
  have b4 : -4503599627370496 <= reach - D.getD j 0 /\ reach - D.getD j 0 <= 4503599627370496 := hDd j hlt hxd
  refine Wqq (Lmm rfl rfl (Ln rfl (Lf 0 u_134 rfl i_3 (Ll o_3 rfl (by exact hold hs (hrd.bx rfl) hrd.nb) ?_))))
  refine Clss rfl (dtrue (by omega)) ?_
  refine Rt (Wt rfl (Ws (Wsq (W_block (Wq (Lmm rfl rfl (Li u_139 i_4 rfl (natc_k _) (by omega) rfl ?_)))))))
  refine Ll o_4 rfl (by exact hs.cellA (i := 6) rfl hxj) ?_
  refine Lm rfl (Gm rfl rfl (Gm rfl rfl (Rw rfl (Cneq rfl (dtrue (by omega)) ?_))))
  refine Lpt rfl (Rt (Wt rfl (Wsq (W_pht [0, 1, 2, 4, 5, 6, 7, 9, 12, 13, 14, 15] [3, 8, 10, 11, 16, 17, 18, 19] [20] (fun _ _ _ => False) Tryz.mixed (chkAll_of (by kernel_rfl)) (fun _ _ _ _ _ h => h) hs ?_))))
  refine Pm rfl (Pn rfl (Pfa 3 u_134 rfl i_88 (Pm rfl (Pm rfl (Pn rfl (Pfa 3 u_134 rfl i_88 (Pm rfl (Pm rfl (Pm rfl (Pm rfl (Pv rfl (fun w => R_idx1 u_88 i_2 rfl rfl (natc_k _) (by omega) rfl) ?_)))))))))))
  refine PL_end (Hv rfl (fun w hs => R_load o_88 rfl (by exact hold hs (hrd.bx rfl) hrd.nb)) ?_)
  refine Hl o_88 rfl (fun w hs => (by exact hold hs (hrd.bx rfl) hrd.nb)) ?_
  refine Hx u_88 i_2 rfl (natc_k _) (by omega) rfl ?_
  refine Hl o_2 rfl (fun w hs => (by exact hs.cellA (i := 1) rfl (il_get' (by omega)))) ?_
  refine Hl o_2 rfl (fun w hs => (by exact hs.cellA (i := 4) rfl (il_get (by omega)))) ?_
  refine Hv rfl (fun w hs => R_sub rfl rfl (wrp_i64 (by omega))) ?_
  refine Hv rfl (fun w hs => R_sub rfl rfl (wrp_i64 (by omega))) ?_
  refine Hx u_88 i_2 rfl (natc_k _) (by omega) rfl ?_
  refine HL_tail ?_
  intro w hs
  refine L_store hs (i := 1) rfl i_2 rfl rfl (by exact add_lit0 _ _) (by simp; omega) rfl ?_
  intro w hs
  dsimp only [sS, sZ, sA, sN] at hs
  refine Rq ?_
  rw [il_set' _ _ _ _ (by omega)] at hs
  refine Lm rfl (Ln rfl (Lf 5 u_134 rfl i_52 (Ll o_52 rfl (by exact hold hs (hrd.bx rfl) hrd.nb) ?_)))
  refine Lm rfl (Li u_52 i_3 rfl (natc_k _) (by omega) rfl ?_)
  refine Ll o_3 rfl (by exact hs.cellA (i := 3) rfl (il_get' (by omega))) ?_
  rw [hr']
  refine La rfl (Rt (W_pht [0, 1, 2, 4, 5, 6, 7, 9, 12, 13, 14, 15] [3, 8, 10, 11, 16, 17, 18, 19] [20] (fun _ _ _ => False) Tryz.mixed (chkAll_of (by kernel_rfl)) (fun _ _ _ _ _ h => h) hs ?_))
  refine Pm rfl (Pn rfl (Pfa 2 u_134 rfl i_88 (Pm rfl (Pm rfl (Pn rfl (Pfa 2 u_134 rfl i_88 (Pm rfl (Pm rfl (Pm rfl (Pm rfl (Pv rfl (fun w => R_idx1 u_88 i_2 rfl rfl (natc_k _) (by omega) rfl) ?_)))))))))))
  refine PL_end (Hv rfl (fun w hs => R_load o_88 rfl (by exact hold hs (hrd.bx rfl) hrd.nb)) ?_)
  refine Hl o_88 rfl (fun w hs => (by exact hold hs (hrd.bx rfl) hrd.nb)) ?_
  refine Hx u_88 i_2 rfl (natc_k _) (by omega) rfl ?_
  refine Hl o_2 rfl (fun w hs => (by exact hs.cellA (i := 0) rfl (il_get' (by omega)))) ?_
  refine Hl o_2 rfl (fun w hs => (by exact hs.cellA (i := 4) rfl (il_get (by omega)))) ?_
  refine Hv rfl (fun w hs => R_sub rfl rfl (wrp_i64 (by omega))) ?_
  refine Hv rfl (fun w hs => R_add rfl rfl (wrp_i64 (by omega))) ?_
  refine Hx u_88 i_2 rfl (natc_k _) (by omega) rfl ?_
  refine HL_tail ?_
  intro w hs
  refine L_store hs (i := 0) rfl i_2 rfl rfl (by exact add_lit0 _ _) (by simp; omega) rfl ?_
  intro w hs
  dsimp only [sS, sZ, sA, sN] at hs
  refine Rnl (Nx_block (Nt (Wr (Lm rfl (Cadd rfl (wrp_i64 (by omega)) ?_)))))
  refine La rfl (Rnl ?_)
  rw [il_set' _ _ _ _ (by omega)] at hs
  rw [hUr, hVj] at hs
  refine Nq (j + 1, U2.set r (gi U r + (reach - D.getD j 0)), V2.set j (gi V j - (reach - D.getD j 0)), w) [0, 1, 4, 5, 6, 8, 9, 15] rfl ?_ ?_
  ·
   dsimp only
   refine ⟨by omega, by simp [hUl2], by simp [hVl2], ?_, fun z hz hzd hzk => ?_, fun q hq h => ?_, fun z hz => ?_, hs⟩
   ·
    show (U2.set r _).getD i 0 = _
    rw [gset (by omega), if_neg (by omega)]; exact hU2i
   ·
    show (U2.set r _).getD _ 0 = _
    rw [gset (by omega)]
    by_cases hzj : z = j
    ·
     subst hzj
     rw [hr, Int.toNat_natCast, if_pos rfl]
    rw [if_neg fun he => hzj (by
     have h5 := hCh.dn (show z < n by omega) hzd hzk
     exact hSq.mat.inj z j (by omega) hlt (by omega) (by omega))]
    exact hU2d z (by omega) hzd hzk
   ·
    show (U2.set r _).getD q 0 = _
    rw [gset (by omega), if_neg (fun he => h j (by omega) hxd hjk (by omega))]
    exact hU2o q hq fun z hz => h z (by omega)
   show (z < j + 1 -> (V2.set j _).getD z 0 = _) /\ (j + 1 <= z -> (V2.set j _).getD z 0 = _)
   rw [gset (by omega)]
   by_cases hzj : z = j
   ·
    subst hzj
    rw [if_pos rfl, if_pos ⟨hxd, hjk⟩]
    exact ⟨fun _ => rfl, fun h => absurd h (by omega)⟩
   rw [if_neg hzj]; exact ⟨fun h => (hV2 z hz).1 (by omega), fun h => (hV2 z hz).2 (by omega)⟩
  omega
 obtain rfl : n = j := by omega
 rw [hreach] at hU2i hU2d hV2
 obtain ⟨slack, back, pos, hT, hfrm, hbU2, hbV2⟩ := hCh.fin hin hkn hEk hRk hC (U2 := gi U2) (V2 := gi V2) (fun z hz => (hV2 z hz).1 hz) hU2i hU2d hU2o
 have hA := hT.aug (by omega) (by rw [Int.toNat_natCast]; exact hRk)
 have hMa0 : Ma n i (gi R) (gi M) (k : Int) := ⟨fun z hz _ ho => hMa.inv z hz ho, fun _ => hMa.up i (Nat.le_refl _) hin, fun q hq hqn => hMa.up q (by omega) hqn⟩
 clear hU2i hU2d hV2 hU2o
 refine Wqq (Lmm rfl rfl (Ln rfl (Lf 0 u_134 rfl i_3 (Ll o_3 rfl (by exact hold hs (hrd.bx rfl) hrd.nb) ?_))))
 refine Clss rfl (dfalse (by omega)) ?_
 refine Rt (Wf rfl (W_exit' (Ex_then_exit (Ex_loop_exit (Ex_block_hit (Nt (W_block (W_loop4 (fun (h : Int) (M2 : List Int) (R2 : List Int) (w : World) => [(0, .pointer (some ⟨y.B, 0, none⟩)), (5, .slice (some ⟨gf, 0, none⟩) n n), (8, .int .i64 h)]) (fun h M2 R2 w => w) (fun h M2 R2 w => (M2.length = n) /\ (R2.length = n) /\ (Aug n C i (gi R) (gi U2) (gi V2) (gbo E) pos (gi R2) h) /\ (Ma n i (gi R2) (gi M2) h) /\ (HS w0 w (EnL y U2 V2 M2 R2 gd gf ge D F E))) (fun h M2 R2 w => if h < 0 then 0 else pos h.toNat + 1) ((k : Int)) (M) (R) (w) (is := [0, 5, 8]) rfl rfl ?_ ?_))))))))
 ·
  exact ⟨hMl, hRl, hA, hMa0, hs⟩
 clear hs hA hMa0
 intro h M2 R2 w hI
 show W _ _ _ _ [(0, .pointer (some ⟨y.B, 0, none⟩)), (5, .slice (some ⟨gf, 0, none⟩) n n), (8, .int .i64 h)] w
 obtain ⟨hMl2, hRl2, hA, hMa2, hs⟩ := hI
 by_cases hh : 0 <= h
 ·
  obtain ⟨hn, rfl⟩ := Int.eq_ofNat_of_zero_le hh
  obtain ⟨_, hhn, hhd⟩ := hA.at' (by omega)
  rw [Int.toNat_natCast] at hhn hhd
  obtain ⟨m1, m2, m3, m4⟩ := hA.mates hMa2 hT hin
  obtain ⟨r, hr⟩ : ∃ r, r = ro i (gi R) (back hn) := ⟨_, rfl⟩
  have hFr : F.getD hn 0 = (r : Int) := by rw [hr]; exact hfrm hn hhn hhd
  rw [<- hr] at m1 m2 m3 m4
  have m2' : M2.getD r 0 = back hn := m2
  refine Wqq (Lm rfl (Cgeq rfl (dtrue (by omega)) ?_))
  refine Rt (Wt rfl (Ws (W_block (Wq (Lmm rfl rfl (Li u_52 i_3 rfl (natc_k _) (by omega) rfl ?_))))))
  refine Ll o_3 rfl (by exact hs.cellA (i := 5) rfl (il_get (by omega))) ?_
  rw [hFr]
  refine La rfl (Rq (Lm rfl (Ln rfl (Lf 4 u_134 rfl i_52 (Ll o_52 rfl (by exact hold hs (hrd.bx rfl) hrd.nb) ?_)))))
  refine Lm rfl (Li u_52 i_3 rfl (natc_k _) (by omega) rfl ?_)
  refine Ll o_3 rfl (by exact hs.cellA (i := 2) rfl (il_get' (by omega))) ?_
  rw [m2']
  refine La rfl (Rq (Lm rfl (Ln rfl (Lf 4 u_134 rfl i_52 (Ll o_52 rfl (by exact hold hs (hrd.bx rfl) hrd.nb) ?_)))))
  refine Lmm rfl rfl (Li u_52 i_3 rfl (natc_k _) (by omega) rfl ?_)
  refine L_store hs (i := 2) rfl i_3 rfl rfl (by exact add_lit0 _ _) (by simp; omega) rfl ?_
  intro w hs
  dsimp only [sS, sZ, sA, sN] at hs
  refine Rq ?_
  rw [il_set' _ _ _ _ (by omega)] at hs
  -- the row
  refine Lm rfl (Ln rfl (Lf 5 u_134 rfl i_52 (Ll o_52 rfl (by exact hold hs (hrd.bx rfl) hrd.nb) ?_)))
  refine Lmm rfl rfl (Li u_52 i_3 rfl (natc_k _) (by omega) rfl ?_)
  refine L_store hs (i := 3) rfl i_3 rfl rfl (by exact add_lit0 _ _) (by simp; omega) rfl ?_
  intro w hs
  dsimp only [sS, sZ, sA, sN] at hs
  refine Rr (Lm rfl (La rfl (Rnl (Nx_block ?_))))
  rw [il_set' _ _ _ _ (by omega)] at hs
  have e1 : ∀ q, gi (R2.set hn (r : Int)) q = if q = hn then (r : Int) else gi R2 q := fun q => gset (by omega) q
  have e2 : ∀ q, gi (M2.set r (hn : Int)) q = if q = r then (hn : Int) else gi M2 q := fun q => gset (by omega) q
  obtain ⟨hA', hpp⟩ := hA.step (of'' := gi (R2.set hn (r : Int))) hT hh (by rw [Int.toNat_natCast, e1, if_pos rfl]; exact m3) (fun q hq => by rw [Int.toNat_natCast] at hq; rw [e1, if_neg hq])
  rw [Int.toNat_natCast] at hA' hpp
  have hMa' := m4 (gi (R2.set hn (r : Int))) (gi (M2.set r (hn : Int))) (by rw [e1, if_pos rfl]) (fun q hq => by rw [e1, if_neg hq]) (by rw [e2, if_pos rfl]) (fun q hq => by rw [e2, if_neg hq])
  refine Nq (back hn, M2.set r (hn : Int), R2.set hn (r : Int), w) [0, 5, 8] rfl ?_ ?_
  ·
   dsimp only
   exact ⟨by simp [hMl2], by simp [hRl2], hA', hMa', hs⟩
  show (if back hn < 0 then 0 else pos (back hn).toNat + 1) < if (hn : Int) < 0 then 0 else pos (hn : Int).toNat + 1
  rw [if_neg (show ¬(hn : Int) < 0 by omega), Int.toNat_natCast]
  split
  ·
   omega
  have := hpp (by omega); omega
 obtain rfl : h = -1 := Classical.byContradiction fun hne => by have := (hA.at' hne).1; omega
 have hOv := hA.over hT
 refine Wqq (Lm rfl (Cgeq rfl (dfalse (by omega)) ?_))
 refine Rt (Wf rfl (W_exit' (Ex_then_exit (Ex_loop_exit (Ex_block_hit (Nx_done0 rfl ?_))))))
 exact ⟨_, rfl, U2, V2, M2, R2, HS.dropR hs hO, hUl2, hVl2, hMl2, hRl2, hOv, ⟨fun z hz ho => hMa2.inv z hz (by omega) ho, fun q hq hqn => hMa2.up q (by omega) hqn⟩, hbU2, hbV2⟩
end Go.Proofs.YtffobakdngbadaaGreat
namespace Go.Proofs.YtffobakdngbadaaGreat
open Go Go.Lk Go.Pr
theorem tight_ok (y : Ly) (n i j : Nat) (C : Nat -> Nat -> Int) (U V M R : List Int) (N : List (Nat × Obj)) (wb w0 : World) (hN : Own wb N) (hrd : RdS wb y n C) (hs0 : HS wb w0 (y.L U V M R ++ N)) (hi : i < n) (hj : j < n) (hUl : U.length = n) (hVl : V.length = n)
  (hbU : ∀ r, r < n -> 0 <= gi U r /\ gi U r <= BB) (hbV : ∀ j, j < n -> -BB <= gi V j /\ gi V j <= 0) :
  Ret Tryz.prog 98 [.pointer (some ⟨y.B, 0, none⟩), .int .i64 i, .int .i64 j] w0 fun v w' => v = .bool (decide (C i j = gi U i + gi V j)) /\ HS wb w' (y.L U V M R ++ N) := by
 have hs := hs0
 obtain ⟨g1, cp1, hr1, hr2, hr3⟩ := hrd.row i hi
 have b2 : 0 <= U.getD i 0 /\ U.getD i 0 <= 4503599627370496 := hbU i hi
 have b3 : -4503599627370496 <= V.getD j 0 /\ V.getD j 0 <= 0 := hbV j hj
 refine calls_of_W Tryz.func98 rfl rfl rfl ?_
 by_cases hc : C i j = U.getD i 0 + V.getD j 0
 ·
  refine Wq (La rfl (Rt (Wsq (W_pht [0, 1, 2, 4, 7, 10, 11, 12, 14, 17, 18, 19, 21] [3, 5, 6, 8, 9, 13, 15, 16, 20, 22, 23, 24, 25, 26] [] (fun _ _ _ => False) Tryz.mixed (chkAll_of (by kernel_rfl)) (fun _ _ _ _ _ h => h) hs ?_))))
  refine Pm rfl (Pn rfl (Pfa 1 u_134 rfl i_85 (Pm rfl (Pm rfl (Pm rfl (Pn rfl (Pfa 2 u_134 rfl i_88 (Pm rfl (Pm rfl (Pn rfl (Pfa 3 u_134 rfl i_88 (Pm rfl (PL_end (Hv rfl (fun w hs => R_load o_85 rfl (by exact RdS.at hs hN (hrd.bx rfl) hrd.nb)) ?_))))))))))))))
  refine Hx u_85 i_88 rfl (natc_k _) (by omega) rfl ?_
  refine Hl o_88 rfl (fun w hs => (by exact RdS.at hs hN hr1 hrd.nc)) ?_
  refine Hx u_88 i_2 rfl (natc_k _) (by omega) rfl ?_
  refine Hl o_2 rfl (fun w hs => (by exact RdS.at hs hN (hr3 _ (by omega)) hr2)) ?_
  refine Hl o_88 rfl (fun w hs => (by exact RdS.at hs hN (hrd.bx rfl) hrd.nb)) ?_
  refine Hx u_88 i_2 rfl (natc_k _) (by omega) rfl ?_
  refine Hl o_2 rfl (fun w hs => (by exact hs.cellA (i := 0) rfl (il_get' (by omega)))) ?_
  refine Hl o_88 rfl (fun w hs => (by exact RdS.at hs hN (hrd.bx rfl) hrd.nb)) ?_
  refine Hx u_88 i_2 rfl (natc_k _) (by omega) rfl ?_
  refine Hl o_2 rfl (fun w hs => (by exact hs.cellA (i := 1) rfl (il_get' (by omega)))) ?_
  refine Hv rfl (fun w hs => R_add rfl rfl (wrp_i64 (by omega))) ?_
  refine Hv rfl (fun w hs => R_eql rfl rfl (dtrue (by omega))) ?_
  refine Hv rfl (fun w hs => R_assign rfl) ?_
  refine HL_tail ?_
  intro w hs
  refine Rt (Wret (Ex_done1 rfl rfl ?_))
  exact ⟨_, rfl, by rw [decide_eq_true hc], hs⟩
 refine Wq (La rfl (Rt (Wsq (W_pht [0, 1, 2, 4, 7, 10, 11, 12, 14, 17, 18, 19, 21] [3, 5, 6, 8, 9, 13, 15, 16, 20, 22, 23, 24, 25, 26] [] (fun _ _ _ => False) Tryz.mixed (chkAll_of (by kernel_rfl)) (fun _ _ _ _ _ h => h) hs ?_))))
 refine Pm rfl (Pn rfl (Pfa 1 u_134 rfl i_85 (Pm rfl (Pm rfl (Pm rfl (Pn rfl (Pfa 2 u_134 rfl i_88 (Pm rfl (Pm rfl (Pn rfl (Pfa 3 u_134 rfl i_88 (Pm rfl (PL_end (Hv rfl (fun w hs => R_load o_85 rfl (by exact RdS.at hs hN (hrd.bx rfl) hrd.nb)) ?_))))))))))))))
 refine Hx u_85 i_88 rfl (natc_k _) (by omega) rfl ?_
 refine Hl o_88 rfl (fun w hs => (by exact RdS.at hs hN hr1 hrd.nc)) ?_
 refine Hx u_88 i_2 rfl (natc_k _) (by omega) rfl ?_
 refine Hl o_2 rfl (fun w hs => (by exact RdS.at hs hN (hr3 _ (by omega)) hr2)) ?_
 refine Hl o_88 rfl (fun w hs => (by exact RdS.at hs hN (hrd.bx rfl) hrd.nb)) ?_
 refine Hx u_88 i_2 rfl (natc_k _) (by omega) rfl ?_
 refine Hl o_2 rfl (fun w hs => (by exact hs.cellA (i := 0) rfl (il_get' (by omega)))) ?_
 refine Hl o_88 rfl (fun w hs => (by exact RdS.at hs hN (hrd.bx rfl) hrd.nb)) ?_
 refine Hx u_88 i_2 rfl (natc_k _) (by omega) rfl ?_
 refine Hl o_2 rfl (fun w hs => (by exact hs.cellA (i := 1) rfl (il_get' (by omega)))) ?_
 refine Hv rfl (fun w hs => R_add rfl rfl (wrp_i64 (by omega))) ?_
 refine Hv rfl (fun w hs => R_eql rfl rfl (dfalse (by omega))) ?_
 refine Hv rfl (fun w hs => R_assign rfl) ?_
 refine HL_tail ?_
 intro w hs
 refine Rt (Wret (Ex_done1 rfl rfl ?_))
 exact ⟨_, rfl, by rw [decide_eq_false hc], hs⟩
def Cl (n : Nat) (C : Nat -> Nat -> Int) (U V : Nat -> Int) (of has : Nat -> Nat) (i goal : Nat) (S S' : List Bool) : Prop :=
 ∀ q, q < n -> gbo S' q = true -> gbo S q = false -> ∀ m, m < n -> C q m = U q + V m -> m ≠ has q -> m ≠ goal /\ (gbo S' (of m) = true ∨ of m <= i)
structure Sub (n i : Nat) (S S' : List Bool) : Prop where
 len : S'.length = n
 sub : ∀ q, gbo S q = true -> gbo S' q = true
 low : ∀ q, gbo S' q = true -> i < q
 cnt : S'.count false <= S.count false
theorem Sub.trans {n i : Nat} {S S' S'' : List Bool} (h : Sub n i S S') (h' : Sub n i S' S'') : Sub n i S S'' := ⟨h'.len, fun q hq => h'.sub q (h.sub q hq), h'.low, Nat.le_trans h'.cnt h.cnt⟩
theorem Cl.trans {n : Nat} {C : Nat -> Nat -> Int} {U V : Nat -> Int} {of has : Nat -> Nat} {i goal : Nat} {S S' S'' : List Bool} (h : Cl n C U V of has i goal S S') (h' : Cl n C U V of has i goal S' S'') (hs : Sub n i S' S'') : Cl n C U V of has i goal S S'' := fun q hq h1 h2 m hm ht hne => by
 cases h3 : gbo S' q with
 | true =>
  obtain ⟨h4, h5⟩ := h q hq h3 h2 m hm ht hne
  exact ⟨h4, h5.imp (hs.sub _) id⟩
 | false => exact h' q hq h1 h3 m hm ht hne
theorem Rot.re {n : Nat} {C : Nat -> Nat -> Int} {U V : Nat -> Int} {i : Nat} {of0 has0 of has : Nat -> Nat} {R R' : Nat -> Prop} {pos pos' : Nat -> Nat} {m : Nat} (h : Rot n C U V i of0 has0 R pos of has m) (hk : ∀ k, k < n -> R' k -> pos' k < pos' m -> of k = of0 k) : Rot n C U V i of0 has0 R' pos' of has m :=
 ⟨h.oh, h.ho, h.tight, hk, h.low⟩
theorem Rot.move {n : Nat} {C : Nat -> Nat -> Int} {U V : Nat -> Int} {i : Nat} {of0 has0 of has of' has' : Nat -> Nat} {R : Nat -> Prop} {pos : Nat -> Nat} {m r : Nat} (hP : Pf n C U V of0 has0) (h : Rot n C U V i of0 has0 R pos of has m) (hm : m < n) (hr : r < n) (hir : i < r) (hne : m ≠ has0 r) (hkeep : of (has0 r) = r) (ht : C r m = U r + V m)
  (h1 : of' m = r) (h2 : ∀ c, c ≠ m -> of' c = of c) (h3 : has' r = m) (h4 : ∀ q, q ≠ r -> has' q = has q) : Rot n C U V i of0 has0 (fun _ => False) (fun _ => 0) of' has' (has0 r) := by
 have e0 := (hP.ho r hr).2
 have hR : Rot n C U V i of0 has0 (fun c => c = has0 r) (fun c => if c = has0 r then 0 else 1) of has m := Rot.re h fun k _ hk _ => by rw [hk, hkeep, e0]
 have := hR.step (k := has0 r) (of' := of') (has' := has') hm (hP.ho r hr).1 rfl (by simp [hne]) (by rw [e0]; exact hir) (by rw [e0]; exact ht) (by rw [hkeep]; exact h1) h2 (by rw [hkeep]; exact h3) (by rw [hkeep]; exact h4)
 exact Rot.re this fun _ _ hk => absurd hk (fun h => h)
def AwayR (y : Ly) (n : Nat) (C : Nat -> Nat -> Int) (U V M R : List Int) (gs i : Nat) (S : List Bool) (r : Nat) (wb : World) (v : Value) (w' : World) : Prop :=
 (v = .bool false /\ ∃ S', HS wb w' (y.L U V M R ++ [(gs, Row 4 (bls S'))]) /\ Sub n i S S' /\ (gbo S' r = true ∨ r <= i) /\ Cl n C (gi U) (gi V) (toN R) (toN M) i (toN M i) S S') ∨
 (v = .bool true /\ ∃ S' M' R', HS wb w' (y.L U V M' R' ++ [(gs, Row 4 (bls S'))]) /\ InR n M' /\ InR n R' /\ gbo S r = false /\ Rot n C (gi U) (gi V) i (toN R) (toN M) (fun _ => False) (fun _ => 0) (toN R') (toN M') (toN M r) /\ ∀ c, c < n -> gbo S (toN R c) = true -> toN R' c = toN R c)
theorem count_set_true {S : List Bool} {r : Nat} (hr : r < S.length) (h : S.getD r false = false) : (S.set r true).count false + 1 = S.count false := by
 have h1 : S[r] = false := by simpa [List.getD, hr] using h
 rw [List.count_set hr, h1]
 have h2 : 0 < S.count false := List.count_pos_iff.2 (h1 ▸ List.getElem_mem hr)
 simp; omega
section
variable {y : Ly} {n i gs : Nat} {C : Nat -> Nat -> Int} {U V M R : List Int} {wb : World}
set_option maxHeartbeats 8000000 in
theorem away_ok (hgs : wb.heap.size <= gs) (hrd : RdS wb y n C) (hn2 : n <= 512) (hi : i < n) (hUl : U.length = n) (hVl : V.length = n) (hM : InR n M) (hR : InR n R)
  (hbU : ∀ r, r < n -> 0 <= gi U r /\ gi U r <= BB) (hbV : ∀ j, j < n -> -BB <= gi V j /\ gi V j <= 0) (hPf : Pf n C (gi U) (gi V) (toN R) (toN M)) (goal : Nat) (hgoal : goal = toN M i) :
  ∀ (f : Nat) (S : List Bool) (r : Nat) (w0 : World), S.count false <= f -> S.length = n -> (∀ q, gbo S q = true -> i < q) -> r < n -> HS wb w0 (y.L U V M R ++ [(gs, Row 4 (bls S))]) ->
  Ret Tryz.prog 99 [.pointer (some ⟨y.B, 0, none⟩), .int .i64 r, .int .i64 goal, .int .i64 i, .slice (some ⟨gs, 0, none⟩) n n] w0 (AwayR y n C U V M R gs i S r wb) := by
 have hO : ∀ {S : List Bool}, Own wb [(gs, Row 4 (bls S))] := Own.cons hgs Own.nil
 have hMl := hM.len
 have hRl := hR.len
 intro f
 induction f with
 | zero =>
  intro S r w0 hcnt hSl hlow hr hs
  have hSr : S.getD r false = true := by
   cases h : S.getD r false with
   | true => rfl
   | false => have := count_set_true (by omega) h; omega
  have hxr : (bls S)[r]? = some (.bool true) := by rw [<- hSr]; exact bls_get (by omega)
  refine calls_of_W Tryz.func99 rfl rfl rfl (Wq (La rfl (Rqq (Lmm rfl rfl (Li u_139 i_4 rfl (natc_k _) (by omega) rfl ?_)))))
  refine Ll o_4 rfl (by exact hs.cellA (i := 4) rfl hxr) ?_
  refine Lm rfl (Rs rfl (Rs rfl (Rs rfl (Lpt rfl (Rt (Wt rfl (Wq (La rfl (Rt (Wret (Ex_then_ret (Ex_done1 rfl rfl ?_))))))))))))
  exact ⟨_, rfl, .inl ⟨rfl, S, hs, ⟨hSl, fun _ h => h, hlow, Nat.le_refl _⟩, .inl hSr, fun q _ h1 h2 => by rw [h1] at h2; cases h2⟩⟩
 | succ f IH =>
  intro S r w0 hcnt hSl hlow hr hs
  refine calls_of_W Tryz.func99 rfl rfl rfl ?_
  cases hSr : S.getD r false
  ·
   have hxr : (bls S)[r]? = some (.bool false) := by rw [<- hSr]; exact bls_get (by omega)
   by_cases hri : r <= i
   ·
    refine Wq (La rfl (Rqq (Lmm rfl rfl (Li u_139 i_4 rfl (natc_k _) (by omega) rfl ?_))))
    refine Ll o_4 rfl (by exact hs.cellA (i := 4) rfl hxr) ?_
    refine Lm rfl (Gm rfl rfl (Gm rfl rfl (Rw rfl (Cleq rfl (dtrue (by omega)) ?_))))
    refine Lpf rfl (Rt (Wt rfl (Wq (La rfl (Rt (Wret (Ex_then_ret (Ex_done1 rfl rfl ?_))))))))
    exact ⟨_, rfl, .inl ⟨rfl, S, hs, ⟨hSl, fun _ h => h, hlow, Nat.le_refl _⟩, .inr hri, fun q _ h1 h2 => by rw [h1] at h2; cases h2⟩⟩
   refine Wq (La rfl (Rqq (Lmm rfl rfl (Li u_139 i_4 rfl (natc_k _) (by omega) rfl ?_))))
   refine Ll o_4 rfl (by exact hs.cellA (i := 4) rfl hxr) ?_
   refine Lm rfl (Gm rfl rfl (Gm rfl rfl (Rw rfl (Cleq rfl (dfalse (by omega)) ?_))))
   refine Lpf rfl (Rt (Wf rfl (Ws (Wq (Lmm rfl rfl (Li u_139 i_4 rfl (natc_k _) (by omega) rfl ?_))))))
   refine L_store hs (i := 4) rfl i_4 rfl rfl (by exact add_lit0 _ _) (by simp; omega) rfl ?_
   intro w hs
   dsimp only [sS, sZ, sA, sN] at hs
   refine Rqq (La rfl (Rt (W_block ?_)))
   rw [bls_set] at hs
   have hc1 := count_set_true (S := S) (by omega) hSr
   have hg1 : ∀ q, gbo (S.set r true) q = if q = r then true else gbo S q := fun q => gset (by omega) q
   have hS1 : Sub n i S (S.set r true) := ⟨by simp [hSl], fun q hq => by rw [hg1]; split; rfl; exact hq, fun q hq => by rw [hg1] at hq; split at hq; omega; exact hlow q hq, by omega⟩
   obtain ⟨S1, hS1e⟩ : ∃ S1, S1 = S.set r true := ⟨_, rfl⟩
   rw [<- hS1e] at hs hc1 hg1 hS1
   obtain ⟨hme, hmn⟩ := hM.nat hr
   refine W_loop3 (fun (j : Nat) (S2 : List Bool) (w : World) => [(0, .pointer (some ⟨y.B, 0, none⟩)), (1, .int .i64 r), (2, .int .i64 goal), (3, .int .i64 i), (4, .slice (some ⟨gs, 0, none⟩) n n), (11, .int .i64 j)]) (fun j S2 w => w) (fun j S2 w => (j <= n) /\ (Sub n i S1 S2) /\ (Cl n C (gi U) (gi V) (toN R) (toN M) i (toN M i) S1 S2) /\ (∀ m, m < j -> C r m = gi U r + gi V m -> m ≠ toN M r -> m ≠ toN M i /\ (gbo S2 (toN R m) = true ∨ toN R m <= i)) /\ (HS wb w (y.L U V M R ++ [(gs, Row 4 (bls S2))]))) (fun j S2 w => n - j) (0) (S1) (w) (is := [0, 1, 2, 3, 4, 11]) rfl rfl ?_ ?_
   ·
    exact ⟨Nat.zero_le _, ⟨hS1.len, fun _ h => h, hS1.low, Nat.le_refl _⟩, fun q _ h1 h2 => (by rw [h1] at h2; cases h2), fun _ h => absurd h (Nat.not_lt_zero _), hs⟩
   clear hs
   intro j S2 w hI
   show W _ _ _ _ [(0, .pointer (some ⟨y.B, 0, none⟩)), (1, .int .i64 r), (2, .int .i64 goal), (3, .int .i64 i), (4, .slice (some ⟨gs, 0, none⟩) n n), (11, .int .i64 j)] w
   obtain ⟨hj, hS2, hCl, hrow, hs⟩ := hI
   by_cases hlt : j < n
   ·
    obtain ⟨hRe, hRn⟩ := hR.nat hlt
    refine Wqq (Lmm rfl rfl (Ln rfl (Lf 0 u_134 rfl i_3 (Ll o_3 rfl (by exact RdS.at hs hO (hrd.bx rfl) hrd.nb) ?_))))
    refine Clss rfl (dtrue (by omega)) ?_
    refine Rt (Wt rfl (Ws (Wsq (W_block (Wqq (Lmm rfl rfl (Lm rfl (Lc f_98 rfl (tight_ok y n r j C U V M R _ wb w hO hrd hs hr hlt hUl hVl hbU hbV) ?_))))))))
    rintro _ w1 ⟨rfl, hs⟩
    by_cases htt : C r j = gi U r + gi V j
    ·
     rw [decide_eq_true htt]
     by_cases hjm : j = toN M r
     ·
      refine Lnot rfl (Lm rfl (Gm rfl rfl (Gm rfl rfl (Rw rfl (Ln rfl (Rw rfl (Lf 4 u_134 rfl i_52 (Rw rfl (Ll o_52 rfl (by exact RdS.at hs hO (hrd.bx rfl) hrd.nb) ?_)))))))))
      refine Gm rfl rfl (Rw rfl (Li u_52 i_3 rfl (natc_k _) (by omega) rfl ?_))
      refine Rw rfl (Ll o_3 rfl (by exact hs.cellA (i := 2) rfl (il_get' (by omega))) ?_)
      rw [hme]
      refine Rw rfl (Ceql rfl (dtrue (by omega)) ?_)
      refine Lpf rfl (Rt (Wt rfl (W_exit' (Ex_then_exit (Ex_block_hit (Nt (Wr (Lm rfl (Cadd rfl (wrp_i64 (by omega)) ?_)))))))))
      refine La rfl (Rnl (Nq (j + 1, S2, w1) [0, 1, 2, 3, 4, 11] rfl ?_ ?_))
      ·
       dsimp only
       refine ⟨by omega, hS2, hCl, fun m hm ht hne => ?_, hs⟩
       exact hrow m (by omega) ht hne
      omega
     refine Lnot rfl (Lm rfl (Gm rfl rfl (Gm rfl rfl (Rw rfl (Ln rfl (Rw rfl (Lf 4 u_134 rfl i_52 (Rw rfl (Ll o_52 rfl (by exact RdS.at hs hO (hrd.bx rfl) hrd.nb) ?_)))))))))
     refine Gm rfl rfl (Rw rfl (Li u_52 i_3 rfl (natc_k _) (by omega) rfl ?_))
     refine Rw rfl (Ll o_3 rfl (by exact hs.cellA (i := 2) rfl (il_get' (by omega))) ?_)
     rw [hme]
     refine Rw rfl (Ceql rfl (dfalse (by omega)) ?_)
     refine Lpf rfl (Rt (Wf rfl ?_))
     by_cases hjg : j = goal
     ·
      have hRot := hPf.rot hi (R := fun _ => False) (pos := fun _ => 0)
      rw [<- hgoal, <- hjg] at hRot
      obtain ⟨q1, q2, q3⟩ := hM.set hr hlt
      obtain ⟨o1, o2, o3⟩ := hR.set hlt hr
      have hmv := Rot.move hPf hRot hlt hr (by omega) hjm (hPf.ho r hr).2 htt o2 o3 q2 q3
      refine Ws (Wq (Lmm rfl rfl (Ceql rfl (dtrue (by omega)) ?_)))
      refine La rfl (Rqq (Lm rfl (Lnot rfl (Rt (Wf rfl (Ws (Wq (Lm rfl (Rt (Wt rfl (Wq (Lm rfl (Ln rfl (Lf 4 u_134 rfl i_52 (Ll o_52 rfl (by exact RdS.at hs hO (hrd.bx rfl) hrd.nb) ?_)))))))))))))))
      refine Lmm rfl rfl (Li u_52 i_3 rfl (natc_k _) (by omega) rfl ?_)
      refine L_store hs (i := 2) rfl i_3 rfl rfl (by exact add_lit0 _ _) (by simp; omega) rfl ?_
      intro w hs
      dsimp only [sS, sZ, sA, sN] at hs
      refine Rq ?_
      rw [il_set' _ _ _ _ (by omega)] at hs
      refine Lm rfl (Ln rfl (Lf 5 u_134 rfl i_52 (Ll o_52 rfl (by exact RdS.at hs hO (hrd.bx rfl) hrd.nb) ?_)))
      refine Lmm rfl rfl (Li u_52 i_3 rfl (natc_k _) (by omega) rfl ?_)
      refine L_store hs (i := 3) rfl i_3 rfl rfl (by exact add_lit0 _ _) (by simp; omega) rfl ?_
      intro w hs
      dsimp only [sS, sZ, sA, sN] at hs
      refine Rq (La rfl (Rt (Wret (Ex_block_ret (Ex_then_ret (Ex_loop_ret (Ex_block_ret (Ex_then_ret (Ex_done1 rfl rfl ?_)))))))))
      rw [il_set' _ _ _ _ (by omega)] at hs
      refine ⟨_, rfl, .inr ⟨rfl, S2, M.set r (j : Int), R.set j (r : Int), hs, q1, o1, hSr, hmv, fun c hc hSc => ?_⟩⟩
      refine o3 c fun hcj => ?_
      have h5 : toN R c = i := by rw [hcj, hjg, hgoal]; exact (hPf.ho i hi).2
      rw [h5] at hSc
      exact absurd (hlow i hSc) (Nat.lt_irrefl i)
     refine Ws (Wq (Lmm rfl rfl (Ceql rfl (dfalse (by omega)) ?_)))
     refine La rfl (Rqq (Lm rfl (Lnot rfl (Rt (Wt rfl (Wr (Lmm rfl rfl (Ln rfl (Lf 5 u_134 rfl i_52 (Ll o_52 rfl (by exact RdS.at hs hO (hrd.bx rfl) hrd.nb) ?_))))))))))
     refine Lm rfl (Li u_52 i_3 rfl (natc_k _) (by omega) rfl ?_)
     refine Ll o_3 rfl (by exact hs.cellA (i := 3) rfl (il_get' (by omega))) ?_
     refine Lmm rfl rfl (Lm rfl ?_)
     rw [hRe]
     refine Lc f_99 rfl (IH S2 (toN R j) w1 (by have := hS2.cnt; omega) hS2.len hS2.low hRn hs) ?_
     rintro _ w2 (⟨rfl, S3, hs, hS3, hS3r, hCl3⟩ | ⟨rfl, S3, M3, R3, hs, hM3, hR3, hn3, hRot3, hk3⟩)
     ·
      refine La rfl (Rq (Lm rfl (Rt (Wf rfl (W_skip' (Nx_block (Nt (Wr (Lm rfl (Cadd rfl (wrp_i64 (by omega)) ?_))))))))))
      refine La rfl (Rnl (Nq (j + 1, S3, w2) [0, 1, 2, 3, 4, 11] rfl ?_ ?_))
      ·
       dsimp only
       refine ⟨by omega, hS2.trans hS3, hCl.trans hCl3 hS3, fun m hm ht hne => ?_, hs⟩
       by_cases hmj : m = j
       ·
        rw [hmj]; exact ⟨by rw [<- hgoal]; exact hjg, hS3r⟩
       obtain ⟨h5, h6⟩ := hrow m (by omega) ht hne
       exact ⟨h5, h6.imp (hS3.sub _) id⟩
      omega
     have hM3l := hM3.len
     have hR3l := hR3.len
     obtain ⟨q1, q2, q3⟩ := hM3.set hr hlt
     obtain ⟨o1, o2, o3⟩ := hR3.set hlt hr
     have e1 : toN M (toN R j) = j := (hPf.oh j hlt).2
     rw [e1] at hRot3
     have hS2r : gbo S2 r = true := hS2.sub r (by rw [hg1, if_pos rfl])
     have e2 : toN R (toN M r) = r := (hPf.ho r hr).2
     have hmv := Rot.move hPf hRot3 hlt hr (by omega) hjm (by rw [hk3 _ hmn (by rw [e2]; exact hS2r), e2]) htt o2 o3 q2 q3
     refine La rfl (Rq (Lm rfl (Rt (Wt rfl (Wq (Lm rfl (Ln rfl (Lf 4 u_134 rfl i_52 (Ll o_52 rfl (by exact RdS.at hs hO (hrd.bx rfl) hrd.nb) ?_)))))))))
     refine Lmm rfl rfl (Li u_52 i_3 rfl (natc_k _) (by omega) rfl ?_)
     refine L_store hs (i := 2) rfl i_3 rfl rfl (by exact add_lit0 _ _) (by simp; omega) rfl ?_
     intro w hs
     dsimp only [sS, sZ, sA, sN] at hs
     refine Rq ?_
     rw [il_set' _ _ _ _ (by omega)] at hs
     refine Lm rfl (Ln rfl (Lf 5 u_134 rfl i_52 (Ll o_52 rfl (by exact RdS.at hs hO (hrd.bx rfl) hrd.nb) ?_)))
     refine Lmm rfl rfl (Li u_52 i_3 rfl (natc_k _) (by omega) rfl ?_)
     refine L_store hs (i := 3) rfl i_3 rfl rfl (by exact add_lit0 _ _) (by simp; omega) rfl ?_
     intro w hs
     dsimp only [sS, sZ, sA, sN] at hs
     refine Rq (La rfl (Rt (Wret (Ex_block_ret (Ex_then_ret (Ex_loop_ret (Ex_block_ret (Ex_then_ret (Ex_done1 rfl rfl ?_)))))))))
     rw [il_set' _ _ _ _ (by omega)] at hs
     refine ⟨_, rfl, .inr ⟨rfl, S3, M3.set r (j : Int), R3.set j (r : Int), hs, q1, o1, hSr, hmv, fun c hc hSc => ?_⟩⟩
     have hSc2 : gbo S2 (toN R c) = true := hS2.sub _ (by rw [hg1]; split; rfl; exact hSc)
     have hcj : c ≠ j := fun hcj => by rw [hcj, hn3] at hSc2; cases hSc2
     rw [o3 c hcj]
     exact hk3 c hc hSc2
    rw [decide_eq_false htt]
    refine Lnot rfl (Lm rfl (Rs rfl (Rs rfl (Rs rfl (Rs rfl (Rs rfl (Rs rfl (Rs rfl (Rs rfl (Rs rfl (Lpt rfl (Rt (Wt rfl (W_exit' (Ex_then_exit (Ex_block_hit (Nt (Wr (Lm rfl (Cadd rfl (wrp_i64 (by omega)) ?_))))))))))))))))))))
    refine La rfl (Rnl (Nq (j + 1, S2, w1) [0, 1, 2, 3, 4, 11] rfl ?_ ?_))
    ·
     dsimp only
     refine ⟨by omega, hS2, hCl, fun m hm ht hne => ?_, hs⟩
     have hmj : m ≠ j := fun he => htt (he ▸ ht)
     exact hrow m (by omega) ht hne
    omega
   obtain rfl : n = j := by omega
   refine Wqq (Lmm rfl rfl (Ln rfl (Lf 0 u_134 rfl i_3 (Ll o_3 rfl (by exact RdS.at hs hO (hrd.bx rfl) hrd.nb) ?_))))
   refine Clss rfl (dfalse (by omega)) ?_
   refine Rt (Wf rfl (W_exit' (Ex_then_exit (Ex_loop_exit (Ex_block_hit (Nt (Wq (La rfl (Rt (Wret (Ex_done1 rfl rfl ?_)))))))))))
   refine ⟨_, rfl, .inl ⟨rfl, S2, hs, hS1.trans hS2, .inl (hS2.sub r (by rw [hg1, if_pos rfl])), fun q hq h1 h2 m hm ht hne => ?_⟩⟩
   by_cases hqr : q = r
   ·
    rw [hqr] at ht hne; exact hrow m hm ht hne
   exact hCl q hq h1 (by rw [hg1, if_neg hqr]; exact h2) m hm ht hne
  have hxr : (bls S)[r]? = some (.bool true) := by rw [<- hSr]; exact bls_get (by omega)
  refine Wq (La rfl (Rqq (Lmm rfl rfl (Li u_139 i_4 rfl (natc_k _) (by omega) rfl ?_))))
  refine Ll o_4 rfl (by exact hs.cellA (i := 4) rfl hxr) ?_
  refine Lm rfl (Rs rfl (Rs rfl (Rs rfl (Lpt rfl (Rt (Wt rfl (Wq (La rfl (Rt (Wret (Ex_then_ret (Ex_done1 rfl rfl ?_))))))))))))
  exact ⟨_, rfl, .inl ⟨rfl, S, hs, ⟨hSl, fun _ h => h, hlow, Nat.le_refl _⟩, .inl hSr, fun q _ h1 h2 => by rw [h1] at h2; cases h2⟩⟩
end
end Go.Proofs.YtffobakdngbadaaGreat
namespace Go.Proofs.YtffobakdngbadaaGreat
open Go Go.Lk Go.Pr
set_option maxHeartbeats 8000000 in
theorem rfirst_ok (y : Ly) (n rows : Nat) (C : Nat -> Nat -> Int) (U V M R : List Int) (w0 : World) (hn2 : n <= 512) (hr : rows <= n) (hrd : RdS w0 y n C) (hG : HS w0 w0 (y.L U V M R)) (hUl : U.length = n) (hVl : V.length = n) (hM : InR n M) (hR : InR n R)
  (hbU : ∀ r, r < n -> 0 <= gi U r /\ gi U r <= BB) (hbV : ∀ j, j < n -> -BB <= gi V j /\ gi V j <= 0) (hPf : Pf n C (gi U) (gi V) (toN R) (toN M)) :
  Ret Tryz.prog 82 [.pointer (some ⟨y.B, 0, none⟩), .int .i64 rows] w0 fun _ w' => ∃ M' R', HS w0 w' (y.L U V M' R') /\ InR n M' /\ InR n R' /\ Pf n C (gi U) (gi V) (toN R') (toN M') /\ LM n C (gi U) (gi V) rows (toN M') := by
 have hs : HS w0 w0 (y.L U V M R ++ []) := by rw [List.append_nil]; exact hG
 clear hG
 refine calls_of_W Tryz.func82 rfl rfl rfl (Wq (La rfl (Rt (W_block ?_))))
 refine W_loop4 (fun (i : Nat) (M : List Int) (R : List Int) (w : World) => [(0, .pointer (some ⟨y.B, 0, none⟩)), (1, .int .i64 rows), (4, .int .i64 i)]) (fun i M R w => w) (fun i M R w => (i <= rows) /\ (InR n M) /\ (InR n R) /\ (Pf n C (gi U) (gi V) (toN R) (toN M)) /\ (LM n C (gi U) (gi V) i (toN M)) /\ (HS w0 w (y.L U V M R ++ []))) (fun i M R w => rows - i) (0) (M) (R) (_) (is := [0, 1, 4]) rfl rfl ?_ ?_
 ·
  exact ⟨Nat.zero_le _, hM, hR, hPf, LM.zero, hs⟩
 clear hs hM hR hPf
 intro i M R w hI
 show W _ _ _ _ [(0, .pointer (some ⟨y.B, 0, none⟩)), (1, .int .i64 rows), (4, .int .i64 i)] w
 obtain ⟨hi, hM, hR, hPf, hLM, hs⟩ := hI
 by_cases hlt : i < rows
 ·
  have hin : i < n := by omega
  refine Wqq (Lmm rfl rfl (Clss rfl (dtrue (by omega)) ?_))
  refine Rt (Wt rfl (Ws (Wsq (W_cut3 (fun (M : List Int) (R : List Int) (w : World) => [(0, .pointer (some ⟨y.B, 0, none⟩)), (1, .int .i64 rows), (4, .int .i64 i)]) (fun M R w => w) (fun M R w => (InR n M) /\ (InR n R) /\ (Pf n C (gi U) (gi V) (toN R) (toN M)) /\ (LM n C (gi U) (gi V) (i + 1) (toN M)) /\ (HS w0 w (y.L U V M R ++ []))) ?_ ?_))))
  ·
   refine W_block (Wq (La rfl (Rt (W_block ?_))))
   refine W_loop4 (fun (j : Nat) (M : List Int) (R : List Int) (w : World) => [(0, .pointer (some ⟨y.B, 0, none⟩)), (1, .int .i64 rows), (4, .int .i64 i), (5, .int .i64 j)]) (fun j M R w => w) (fun j M R w => (InR n M) /\ (InR n R) /\ (Pf n C (gi U) (gi V) (toN R) (toN M)) /\ (LM n C (gi U) (gi V) i (toN M)) /\ ((j <= toN M i /\ Nb n C (gi U) (gi V) i j (toN M)) ∨ (j = toN M i + 1 /\ Nb n C (gi U) (gi V) i (toN M i) (toN M))) /\ (HS w0 w (y.L U V M R ++ []))) (fun j M R w => n + 1 - j) (0) (M) (R) (w) (is := [0, 1, 4, 5]) rfl rfl ?_ ?_
   ·
    exact ⟨hM, hR, hPf, hLM, .inl ⟨Nat.zero_le _, Nb.zero⟩, hs⟩
   clear hs hM hR hPf hLM
   intro j M R w hI
   show W _ _ _ _ [(0, .pointer (some ⟨y.B, 0, none⟩)), (1, .int .i64 rows), (4, .int .i64 i), (5, .int .i64 j)] w
   obtain ⟨hM, hR, hPf, hLM, hNb, hs⟩ := hI
   have hMl := hM.len
   have hRl := hR.len
   obtain ⟨hMe, hMn⟩ := hM.nat hin
   by_cases hlt2 : j < toN M i
   ·
    obtain ⟨hj0, hNb⟩ : j <= toN M i /\ Nb n C (gi U) (gi V) i j (toN M) := hNb.resolve_right (by omega)
    have hjn : j < n := by omega
    obtain ⟨hRe, hRn⟩ := hR.nat hjn
    refine Wqq (Lmm rfl rfl (Ln rfl (Lf 4 u_134 rfl i_52 (Ll o_52 rfl (by exact RdS.at hs Own.nil (hrd.bx rfl) hrd.nb) ?_))))
    refine Lm rfl (Li u_52 i_3 rfl (natc_k _) (by omega) rfl ?_)
    refine Ll o_3 rfl (by exact hs.cellA (i := 2) rfl (il_get' (by omega))) ?_
    rw [hMe]
    refine Clss rfl (dtrue (by omega)) ?_
    refine Rt (Wt rfl (Ws (Wsq (W_block (Wqq (Lmm rfl rfl (Lm rfl (Lc f_98 rfl (tight_ok y n i j C U V M R [] w0 w Own.nil hrd hs hin hjn hUl hVl hbU hbV) ?_))))))))
    rintro _ w1 ⟨rfl, hs⟩
    by_cases htt : C i j = gi U i + gi V j
    ·
     rw [decide_eq_true htt]
     refine Lnot rfl (Rt (Wf rfl (Ws (Wq (Lm rfl (Ln rfl (Lf 0 u_134 rfl i_3 (Ll o_3 rfl (by exact RdS.at hs Own.nil (hrd.bx rfl) hrd.nb) ?_))))))))
     refine L_make1 (c := n) rfl hs u_139 i_4 rfl rfl rfl rfl (Nat.le_refl _) (by omega) (by omega) rfl ?_
     intro gs w hgs _ hs
     rw [List.append_nil, bls_rep] at hs
     have hO : ∀ {S : List Bool}, Own w0 [(gs, Row 4 (bls S))] := Own.cons hgs Own.nil
     refine La rfl (Rt (Wsq (W_pht [0, 1, 2, 3, 5, 8, 9, 10, 12, 15, 16] [4, 6, 7, 11, 13, 14] [17, 18] (fun _ _ _ => False) Tryz.mixed (chkAll_of (by kernel_rfl)) (fun _ _ _ _ _ h => h) hs ?_)))
     refine Pm rfl (Pm rfl (Pn rfl (Pfa 5 u_134 rfl i_52 (Pm rfl (Pm rfl (Pn rfl (Pfa 4 u_134 rfl i_52 (Pm rfl (Pm rfl (Pm rfl (PL_end (Hv rfl (fun w hs => R_load o_52 rfl (by exact RdS.at hs hO (hrd.bx rfl) hrd.nb)) ?_))))))))))))
     refine Hx u_52 i_3 rfl (natc_k _) (by omega) rfl ?_
     refine Hl o_3 rfl (fun w hs => (by exact hs.cellA (i := 3) rfl (il_get' (by omega)))) ?_
     refine Hl o_52 rfl (fun w hs => (by exact RdS.at hs hO (hrd.bx rfl) hrd.nb)) ?_
     refine Hx u_52 i_3 rfl (natc_k _) (by omega) rfl ?_
     refine Hl o_3 rfl (fun w hs => (by exact hs.cellA (i := 2) rfl (il_get' (by omega)))) ?_
     refine HL_tail ?_
     intro w hs
     rw [hRe, hMe]
     refine Lc f_99 rfl (away_ok hgs hrd hn2 hin hUl hVl hM hR hbU hbV hPf (toN M i) rfl n (List.replicate n false) (toN R j) w (Nat.le_trans List.count_le_length (by simp)) (by simp) (fun q hq => by simp only [gbo, List.getD, List.getElem?_replicate] at hq; split at hq <;> simp at hq) hRn hs) ?_
     rintro _ w2 (⟨rfl, S', hs, hS', hS'r, hCl⟩ | ⟨rfl, S', M', R', hs, hM', hR', hn', hRot, hk'⟩)
     ·
      have hno : ∀ K, TB n C (gi U) (gi V) K -> (∀ q, q < i -> K q = toN M q) -> K i ≠ j := fun K hK hlow => by
       refine hPf.no_turn hin hjn (fun k => gbo S' (toN R k) = true ∨ toN R k < i) ?_ ?_ ?_ hK hlow
       ·
        rcases hS'r with h5 | h5
        ·
         exact .inl h5
        right
        rcases Nat.lt_or_ge (toN R j) i with h6 | h6
        ·
         exact h6
        have h7 : toN R j = i := by omega
        have := (hPf.oh j hjn).2
        rw [h7] at this; omega
       ·
        rw [(hPf.ho i hin).2]
        rintro (h5 | h5)
        ·
         exact absurd (hS'.low i h5) (Nat.lt_irrefl i)
        omega
       intro k hk hRk hik m hm ht
       have h5 : gbo S' (toN R k) = true := hRk.resolve_right (by omega)
       by_cases hmk : m = toN M (toN R k)
       ·
        rw [hmk, (hPf.oh k hk).2]; exact .inl h5
       obtain ⟨h6, h7⟩ := hCl (toN R k) (hPf.oh k hk).1 h5 (by
        show (List.replicate n false).getD _ false = false
        simp only [List.getD, List.getElem?_replicate]; split <;> rfl) m hm ht hmk
       rcases h7 with h7 | h7
       ·
        exact .inl h7
       right
       rcases Nat.lt_or_ge (toN R m) i with h8 | h8
       ·
        exact h8
       have h9 : toN R m = i := by omega
       exact absurd (by rw [<- h9, (hPf.oh m hm).2]) h6
      refine La rfl (Rq (Lm rfl (Rt (Wf rfl (W_skip' (Nx_block (Nt (Wr (Lm rfl (Cadd rfl (wrp_i64 (by omega)) ?_))))))))))
      refine La rfl (Rnl (Nq (j + 1, M, R, w2) [0, 1, 4, 5] rfl ?_ ?_))
      ·
       dsimp only
       exact ⟨hM, hR, hPf, hLM, .inl ⟨by omega, hNb.next hno⟩, by rw [List.append_nil]; exact hs.dropR hO⟩
      omega
     have hMl' := hM'.len
     have hRl' := hR'.len
     rw [(hPf.oh j hjn).2] at hRot
     obtain ⟨q1, q2, q3⟩ := hM'.set hin hjn
     obtain ⟨o1, o2, o3⟩ := hR'.set hjn hin
     have hfin := hRot.fin hPf.feas hin hjn htt o2 o3 q2 q3
     have hlow : ∀ q, q < i -> toN (M'.set i (j : Int)) q = toN M q := fun q hq => by rw [q3 q (by omega)]; exact hRot.low q hq
     refine La rfl (Rq (Lm rfl (Rt (Wt rfl (Wq (Lm rfl (Ln rfl (Lf 4 u_134 rfl i_52 (Ll o_52 rfl (by exact RdS.at hs hO (hrd.bx rfl) hrd.nb) ?_)))))))))
     refine Lmm rfl rfl (Li u_52 i_3 rfl (natc_k _) (by omega) rfl ?_)
     refine L_store hs (i := 2) rfl i_3 rfl rfl (by exact add_lit0 _ _) (by simp; omega) rfl ?_
     intro w hs
     dsimp only [sS, sZ, sA, sN] at hs
     refine Rr ?_
     rw [il_set' _ _ _ _ (by omega)] at hs
     refine Lm rfl (Ln rfl (Lf 5 u_134 rfl i_52 (Ll o_52 rfl (by exact RdS.at hs hO (hrd.bx rfl) hrd.nb) ?_)))
     refine Lmm rfl rfl (Li u_52 i_3 rfl (natc_k _) (by omega) rfl ?_)
     refine L_store hs (i := 3) rfl i_3 rfl rfl (by exact add_lit0 _ _) (by simp; omega) rfl ?_
     intro w hs
     dsimp only [sS, sZ, sA, sN] at hs
     refine Rnl (Nx_block (Nt (Wr (Lm rfl (Cadd rfl (wrp_i64 (by omega)) ?_)))))
     refine La rfl (Rnl ?_)
     rw [il_set' _ _ _ _ (by omega)] at hs
     refine Nq (j + 1, M'.set i (j : Int), R'.set j (i : Int), w) [0, 1, 4, 5] rfl ?_ ?_
     ·
      dsimp only
      exact ⟨q1, o1, hfin, hLM.congr hlow, .inr ⟨by rw [q2], by rw [q2]; exact hNb.congr hlow⟩, by rw [List.append_nil]; exact hs.dropR hO⟩
     omega
    rw [decide_eq_false htt]
    refine Lnot rfl (Rt (Wt rfl (W_exit' (Ex_then_exit (Ex_block_hit (Nt (Wr (Lm rfl (Cadd rfl (wrp_i64 (by omega)) ?_)))))))))
    refine La rfl (Rnl (Nq (j + 1, M, R, w1) [0, 1, 4, 5] rfl ?_ ?_))
    ·
     dsimp only
     exact ⟨hM, hR, hPf, hLM, .inl ⟨by omega, hNb.next (fun K hK _ he => htt (by have := hK.2 i hin; rw [he] at this; exact this))⟩, hs⟩
    omega
   have hNb' : Nb n C (gi U) (gi V) i (toN M i) (toN M) := by
    rcases hNb with ⟨h5, h6⟩ | ⟨_, h6⟩
    ·
     rw [show j = toN M i by omega] at h6; exact h6
    exact h6
   refine Wqq (Lmm rfl rfl (Ln rfl (Lf 4 u_134 rfl i_52 (Ll o_52 rfl (by exact RdS.at hs Own.nil (hrd.bx rfl) hrd.nb) ?_))))
   refine Lm rfl (Li u_52 i_3 rfl (natc_k _) (by omega) rfl ?_)
   refine Ll o_3 rfl (by exact hs.cellA (i := 2) rfl (il_get' (by omega))) ?_
   rw [hMe]
   refine Clss rfl (dfalse (by omega)) ?_
   refine Rt (Wf rfl (W_exit' (Ex_then_exit (Ex_loop_exit (Ex_block_hit (Nx_block (Nx_cutP (M, R, w) (is := [0, 1, 4]) (I' := (fun (M : List Int) (R : List Int) (w : World) => (InR n M) /\ (InR n R) /\ (Pf n C (gi U) (gi V) (toN R) (toN M)) /\ (LM n C (gi U) (gi V) (i + 1) (toN M)) /\ (HS w0 w (y.L U V M R ++ []))) (M) (R) (w)) rfl rfl rfl ?_)))))))
   exact ⟨hM, hR, hPf, hLM.next hNb', hs⟩
  clear hs hM hR hPf hLM
  intro M R w hI
  show W _ _ _ _ [(0, .pointer (some ⟨y.B, 0, none⟩)), (1, .int .i64 rows), (4, .int .i64 i)] w
  obtain ⟨hM, hR, hPf, hLM, hs⟩ := hI
  refine Wr (Lm rfl (Cadd rfl (wrp_i64 (by omega)) ?_))
  refine La rfl (Rnl (Nq (i + 1, M, R, w) [0, 1, 4] rfl ?_ ?_))
  ·
   dsimp only
   exact ⟨by omega, hM, hR, hPf, hLM, hs⟩
  omega
 obtain rfl : rows = i := by omega
 refine Wqq (Lmm rfl rfl (Clss rfl (dfalse (by omega)) ?_))
 refine Rt (Wf rfl (W_exit' (Ex_then_exit (Ex_loop_exit (Ex_block_hit (Nx_done0 rfl ?_))))))
 exact ⟨_, rfl, M, R, by rw [List.append_nil] at hs; exact hs, hM, hR, hPf, hLM⟩
end Go.Proofs.YtffobakdngbadaaGreat