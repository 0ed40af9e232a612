/-
  A part of the proof: laws for walks, and plain laws, over any program of the model. Each theorem holds under its own premises alone.
-/
import Derived.Test.YtffobakdngbadaaGreatKit
import Derived.Test.YtffobakdngbadaaGreatP5
import Derived.Test.YtffobakdngbadaaGreatKitY
import Derived.Test.YtffobakdngbadaaGreatKitP
import Derived.Test.YtffobakdngbadaaGreatP11
namespace Go.Proofs.YtffobakdngbadaaGreat
open Go Go.Lk Go.Pr
inductive RB (p : Value -> List Int -> List (Nat × Obj) -> Prop) : List Value -> List (List Int) -> List (Nat × Obj) -> Prop
 | nil : RB p [] [] []
 | cons {v : Value} {r : List Int} {M : List (Nat × Obj)} {vs : List Value} {rs : List (List Int)} {Ms : List (Nat × Obj)} (h : p v r M) (t : RB p vs rs Ms) : RB p (v :: vs) (r :: rs) (M ++ Ms)
def npB (w0 : World) (v : Value) (r : List Int) (M : List (Nat × Obj)) : Prop := Bl w0 2 1 v r.length (il r) M
def p77 (w0 : World) (v : Value) (r : List Int) (M : List (Nat × Obj)) : Prop := ∃ g cap sp, v = .slice (some ⟨g, 0, none⟩) r.length cap /\ M = [(g, Row 2 (il r ++ .int .i64 77 :: sp))] /\ w0.heap.size <= g /\ r.length + 1 + sp.length = cap
section
variable {p q : Value -> List Int -> List (Nat × Obj) -> Prop} {vs : List Value} {rs : List (List Int)} {Ms : List (Nat × Obj)} {w0 : World}
theorem RB.imp (h : RB p vs rs Ms) (hpq : ∀ v r M, p v r M -> q v r M) : RB q vs rs Ms := by
 induction h with
 | nil => exact .nil
 | cons h1 _ ih => exact .cons (hpq _ _ _ h1) ih
theorem RB.snoc (h : RB p vs rs Ms) {v : Value} {r : List Int} {M : List (Nat × Obj)} (hv : p v r M) : RB p (vs ++ [v]) (rs ++ [r]) (Ms ++ M) := by
 induction h with
 | nil => simpa using RB.cons hv .nil
 | cons h1 _ ih => simpa [List.append_assoc] using RB.cons h1 ih
theorem RB.len (h : RB p vs rs Ms) : vs.length = rs.length := by induction h <;> simp [*]
theorem RB.own (h : RB (npB w0) vs rs Ms) : Own w0 Ms := by
 induction h with
 | nil => exact Own.nil
 | cons h1 _ ih => exact (Bl.own h1).app ih
theorem RB.mono {w : World} (h : RB (npB w) vs rs Ms) (hle : w0.heap.size <= w.heap.size) : RB (npB w0) vs rs Ms := h.imp fun _ _ _ h1 => Bl.mono h1 hle
theorem p77.mono {w : World} {v : Value} {r : List Int} {M : List (Nat × Obj)} (h : p77 w v r M) (hle : w0.heap.size <= w.heap.size) : p77 w0 v r M := by
 obtain ⟨g, cap, sp, h1, h2, h3, h4⟩ := h
 exact ⟨g, cap, sp, h1, h2, Nat.le_trans hle h3, h4⟩
theorem RB.at (h : RB p vs rs Ms) : ∀ i, i < rs.length -> ∃ v M Mr, vs[i]? = some v /\ p v (rs.getD i []) M /\ Ms.Perm (Mr ++ M) /\ ∀ v' r' M', p v' r' M' -> ∃ Ms', RB p (vs.set i v') (rs.set i r') Ms' /\ Ms'.Perm (Mr ++ M') := by
 induction h with
 | nil => intro i hi; simp at hi
 | @cons v r M vs rs Ms h1 t ih =>
  intro i hi
  cases i with
  | zero => exact ⟨v, M, Ms, by simp, by simpa using h1, List.perm_append_comm, fun v' r' M' h' => ⟨M' ++ Ms, by simpa using RB.cons h' t, List.perm_append_comm⟩⟩
  | succ i =>
   obtain ⟨v1, M1, Mr, h2, h3, h4, h5⟩ := ih i (by simpa using hi)
   refine ⟨v1, M1, M ++ Mr, by simpa using h2, by simpa using h3, by rw [List.append_assoc]; exact List.Perm.append_left M h4, fun v' r' M' h' => ?_⟩
   obtain ⟨Ms', h6, h7⟩ := h5 v' r' M' h'
   exact ⟨M ++ Ms', by simpa using RB.cons h1 h6, by rw [List.append_assoc]; exact List.Perm.append_left M h7⟩
theorem RB.row {w : World} {L : List (Nat × Obj)} (h : RB (npB w0) vs rs Ms) (hs : HS w0 w (L ++ Ms)) : ∀ i, i < rs.length -> ∃ ai ci, vs[i]? = some (.slice ai (rs.getD i []).length ci) /\ (rs.getD i []).length <= ci /\ SlC w ai (il (rs.getD i [])) := by
 intro i hi
 obtain ⟨v, M, Mr, h1, h2, h3, _⟩ := h.at i hi
 obtain ⟨a, c, rfl, hac⟩ := Bl.slice h2
 refine ⟨a, c, h1, hac, ?_⟩
 exact Bl.slc (L := L ++ Mr) h2 (hs.mem_perm (by rw [List.append_assoc]; exact List.Perm.append_left L h3))
theorem RB.rowsI {w : World} {L : List (Nat × Obj)} {a : Option Addr} (h : RB (npB w0) vs rs Ms) (hs : HS w0 w (L ++ Ms)) (ha : SlC w a vs) (hl : ∀ i, i < rs.length -> (rs.getD i []).length <= 17592186043904) : RowsI w a rs vs :=
 ⟨ha, h.len, fun i hi => let ⟨ai, ci, h1, h2, h3⟩ := h.row hs i hi; ⟨ai, ci, h1, h2, hl i hi, h3⟩⟩
end
structure Ly where
 B : Nat
 gC : Nat
 cC : Nat
 u : Nat
 cu : Nat
 v : Nat
 cv : Nat
 m : Nat
 cm : Nat
 o : Nat
 co : Nat
 su : List Value
 sv : List Value
 sm : List Value
 so : List Value
abbrev Ly.row (y : Ly) (n : Nat) : List Value := [.int .i64 n, .slice (some ⟨y.gC, 0, none⟩) n y.cC, .slice (some ⟨y.u, 0, none⟩) n y.cu, .slice (some ⟨y.v, 0, none⟩) n y.cv, .slice (some ⟨y.m, 0, none⟩) n y.cm, .slice (some ⟨y.o, 0, none⟩) n y.co]
abbrev Ly.ks (y : Ly) : List Nat := [y.u, y.v, y.m, y.o]
abbrev Ly.L (y : Ly) (U V M R : List Int) : List (Nat × Obj) := [(y.u, Row 2 (il U ++ y.su)), (y.v, Row 2 (il V ++ y.sv)), (y.m, Row 3 (il M ++ y.sm)), (y.o, Row 3 (il R ++ y.so))]
structure RdS (w0 : World) (y : Ly) (n : Nat) (C : Nat -> Nat -> Int) : Prop where
 box : w0.heap[y.B]? = some (Row 134 (y.row n))
 nb : y.B ∉ y.ks
 nc : y.gC ∉ y.ks
 row : ∀ r, r < n -> ∃ g cap, w0.cell? ((Addr.mk y.gC 0 none).add r) = some (.slice (some ⟨g, 0, none⟩) n cap) /\ g ∉ y.ks /\ ∀ j, j < n -> w0.cell? ((Addr.mk g 0 none).add j) = some (.int .i64 (C r j))
theorem RdS.at {w0 w : World} {y : Ly} {U V M R : List Int} {N : List (Nat × Obj)} (hs : HS w0 w (y.L U V M R ++ N)) (ho : Own w0 N) {b j : Nat} {x : Value} (hc : w0.cell? ((Addr.mk b 0 none).add j) = some x) (hb : b ∉ y.ks) : w.cell? ((Addr.mk b 0 none).add j) = some x := by
 refine hs.oldcell hc ?_
 rw [Lk.block_add, List.map_append, List.mem_append, not_or]
 refine ⟨hb, ho.notin ?_⟩
 have := World.block_lt_of_cell? w0 _ hc
 rwa [Lk.block_add] at this
theorem RdS.bx {w0 : World} {y : Ly} {n : Nat} {C : Nat -> Nat -> Int} (h : RdS w0 y n C) {j : Nat} {x : Value} (hv : (y.row n)[j]? = some x) : w0.cell? ((Addr.mk y.B 0 none).add j) = some x := by
 rw [jaM]; exact Lk.cell_of_row h.box hv
theorem RdS.old {w0 w : World} {y : Ly} {n : Nat} {C : Nat -> Nat -> Int} {U V M R : List Int} {N : List (Nat × Obj)} (h : RdS w0 y n C) (hs : HS w0 w (y.L U V M R ++ N)) (ho : Own w0 N) : RdS w y n C := by
 refine ⟨?_, h.nb, h.nc, fun r hr => ?_⟩
 ·
  have hlt := (Array.getElem?_eq_some_iff.1 h.box).1
  rw [hs.old hlt (by rw [List.map_append, List.mem_append, not_or]; exact ⟨h.nb, ho.notin hlt⟩)]
  exact h.box
 obtain ⟨g, cap, h1, h2, h3⟩ := h.row r hr
 exact ⟨g, cap, RdS.at hs ho h1 h.nc, h2, fun j hj => RdS.at hs ho (h3 j hj) h2⟩
structure SqM (n i : Nat) (of mt : Nat -> Int) : Prop where
 inv : ∀ j : Nat, j < n -> 0 <= of j -> mt (of j).toNat = (j : Int)
 up : ∀ q, i <= q -> q < n -> mt q = -1
abbrev EnL (y : Ly) (U V M R : List Int) (gd gf ge : Nat) (D F : List Int) (E : List Bool) : List (Nat × Obj) := y.L U V M R ++ [(gd, Row 2 (il D)), (gf, Row 3 (il F)), (ge, Row 4 (bls E))]
set_option maxHeartbeats 16000000 in
theorem enter_ok (y : Ly) (n i : Nat) (C : Nat -> Nat -> Int) (U V M R : List Int) (w0 : World) (hC : ∀ r j, r < n -> j < n -> 0 <= C r j /\ C r j <= 4503599627370496) (h2 : n <= 512) (hin : i < n) (hrd : RdS w0 y n C)
  (hG : HS w0 w0 (y.L U V M R)) (hUl : U.length = n) (hVl : V.length = n) (hMl : M.length = n) (hRl : R.length = n) (hSq : Sq n C i (gi R) (gi U) (gi V)) (hMa : SqM n i (gi R) (gi M)) :
  Ret Tryz.prog 97 [.pointer (some ⟨y.B, 0, none⟩), .int .i64 i] w0 fun _ w' => ∃ U' V' M' R', HS w0 w' (y.L U' V' M' R') /\ U'.length = n /\ V'.length = n /\ M'.length = n /\ R'.length = n /\ Sq n C (i + 1) (gi R') (gi U') (gi V') /\ SqM n (i + 1) (gi R') (gi M') /\ (∀ r, r < n -> 0 <= gi U' r /\ gi U' r <= BB) /\ ∀ j, j < n -> -BB <= gi V' j /\ gi V' j <= 0 := by
 have hs := hG
 obtain ⟨g1, cp1, hr1, hr2, hr3⟩ := hrd.row i hin
 have hui : gi U i = 0 := hSq.uz i (Nat.le_refl _)
 have hTr0 := hSq.enter (fun j hj => (hC i j hin hj).1) (slack := fun _ => 4611686018427387904) (back := fun _ => -1) (done := fun _ => false) (fun _ _ => rfl) (fun _ _ => rfl)
 obtain ⟨hbU, hbV⟩ := hTr0.bounds hin hC
 clear hTr0
 refine ja7 Tryz.func97 rfl rfl rfl (Wq (Lm rfl (Ln rfl (Lf 0 jbB rfl i_3 ?_))))
 refine Ll o_3 rfl (by rw [<- List.append_nil (y.L U V M R)] at hs; exact RdS.at hs Own.nil (hrd.bx rfl) hrd.nb) ?_
 refine jdM (c := n) rfl hs jbK i_2 rfl rfl rfl rfl (Nat.le_refl _) (by omega) (by omega) rfl ?_
 intro gd w hgd _ hs
 refine La rfl (Rq (Lm rfl (Ln rfl (Lf 0 jbB rfl i_3 (Ll o_3 rfl (by exact RdS.at hs (Own.cons hgd Own.nil) (hrd.bx rfl) hrd.nb) ?_)))))
 refine jdM (c := n) rfl hs jbW i_3 rfl rfl rfl rfl (Nat.le_refl _) (by omega) (by omega) rfl ?_
 intro gf w hgf _ hs
 rw [List.append_assoc] at hs
 refine La rfl (Rq (Lm rfl (Ln rfl (Lf 0 jbB rfl i_3 (Ll o_3 rfl (by exact RdS.at hs (Own.cons hgd (Own.cons hgf Own.nil)) (hrd.bx rfl) hrd.nb) ?_)))))
 refine jdM (c := n) rfl hs jfC i_4 rfl rfl rfl rfl (Nat.le_refl _) (by omega) (by omega) rfl ?_
 intro ge w hge _ hs
 simp only [jgV, jrF] at hs
 replace hs : HS w0 w (EnL y U V M R gd gf ge (List.replicate n 0) (List.replicate n 0) (List.replicate n false)) := hs
 have hO : ∀ {D F : List Int} {E : List Bool}, Own w0 [(gd, Row 2 (il D)), (gf, Row 3 (il F)), (ge, Row 4 (bls E))] := Own.cons hgd (Own.cons hgf (Own.cons hge Own.nil))
 have hold : ∀ {w : World} {U V M R D F : List Int} {E : List Bool}, HS w0 w (EnL y U V M R gd gf ge D F E) -> ∀ {b j : Nat} {x : Value}, w0.cell? ((Addr.mk b 0 none).add j) = some x -> b ∉ y.ks -> w.cell? ((Addr.mk b 0 none).add j) = some x := fun hs _ _ _ hc hb => RdS.at hs hO hc hb
 refine La rfl (Rqq (La rfl (Rt (ja4 (jcK (fun (j : Nat) (D : List Int) (F : List Int) (w : World) => [(0, .pointer (some ⟨y.B, 0, none⟩)), (1, .int .i64 i), (4, .slice (some ⟨gd, 0, none⟩) n n), (5, .slice (some ⟨gf, 0, none⟩) n n), (6, .slice (some ⟨ge, 0, none⟩) n n), (7, .int .i64 j)]) (fun j D F w => w) (fun j D F w => (j <= n) /\ (D.length = n) /\ (F.length = n) /\ (∀ z, z < j -> gi D z = C i z - gi U i - gi V z) /\ (∀ z, z < j -> gi F z = (i : Int)) /\ (HS w0 w (EnL y U V M R gd gf ge D F (List.replicate n false)))) (fun j D F w => n - j) (0) (List.replicate n 0) (List.replicate n 0) (w) (is := [0, 1, 4, 5, 6, 7]) rfl rfl ?_ ?_)))))
 ·
  exact ⟨Nat.zero_le _, by simp, by simp, fun _ h => absurd h (Nat.not_lt_zero _), fun _ h => absurd h (Nat.not_lt_zero _), hs⟩
 clear hs
 intro j D F w hI
 show W _ _ _ _ [(0, .pointer (some ⟨y.B, 0, none⟩)), (1, .int .i64 i), (4, .slice (some ⟨gd, 0, none⟩) n n), (5, .slice (some ⟨gf, 0, none⟩) n n), (6, .slice (some ⟨ge, 0, none⟩) n n), (7, .int .i64 j)] w
 obtain ⟨hj, hDl, hFl, hD, hF, hs⟩ := hI
 by_cases hlt : j < n
 ·
  have b1 := hC i j hin hlt
  have b2 : 0 <= U.getD i 0 /\ U.getD i 0 <= 4503599627370496 := hbU i hin
  have b3 : -4503599627370496 <= V.getD j 0 /\ V.getD j 0 <= 0 := hbV j hlt
  refine Wqq (Lmm rfl rfl (Ln rfl (Lf 0 jbB rfl i_3 (Ll o_3 rfl (by exact hold hs (hrd.bx rfl) hrd.nb) ?_))))
  refine jaZ rfl (jaF (by omega)) ?_
  refine Rt (Wt rfl (Ws (Wsq (ja4 (Wsq (jcH [0, 1, 2, 3, 4, 6, 9, 12, 13, 14, 16, 20, 21, 22, 24] [5, 7, 8, 10, 11, 15, 17, 18, 19, 23, 25, 26, 27, 28] [29] (fun _ _ _ => False) Tryz.mixed (jcQ (by kernel_rfl)) (fun _ _ _ _ _ h => h) hs ?_))))))
  refine Pm rfl (Pm rfl (Pm rfl (Pn rfl (Pfa 1 jbB rfl i_85 (Pm rfl (Pm rfl (Pm rfl (Pn rfl (Pfa 2 jbB rfl jd1 (Pm rfl (Pm rfl (Pn rfl (Pfa 3 jbB rfl jd1 (Pm rfl (jbH (Hv rfl (fun w hs => jaN o_85 rfl (by exact hold hs (hrd.bx rfl) hrd.nb)) ?_))))))))))))))))
  refine Hx jd4 jd1 rfl (ja6 _) (by omega) rfl ?_
  refine Hl jdR rfl (fun w hs => (by exact hold hs hr1 hrd.nc)) ?_
  refine Hx jbK i_2 rfl (ja6 _) (by omega) rfl ?_
  refine Hl o_2 rfl (fun w hs => (by exact hold hs (hr3 _ (by omega)) hr2)) ?_
  refine Hl jdR rfl (fun w hs => (by exact hold hs (hrd.bx rfl) hrd.nb)) ?_
  refine Hx jbK i_2 rfl (ja6 _) (by omega) rfl ?_
  refine Hl o_2 rfl (fun w hs => (by exact hs.cellA (i := 0) rfl (jbZ (by omega)))) ?_
  refine Hv rfl (fun w hs => jkS rfl rfl (ja3 (by omega))) ?_
  refine Hl jdR rfl (fun w hs => (by exact hold hs (hrd.bx rfl) hrd.nb)) ?_
  refine Hx jbK i_2 rfl (ja6 _) (by omega) rfl ?_
  refine Hl o_2 rfl (fun w hs => (by exact hs.cellA (i := 1) rfl (jbZ (by omega)))) ?_
  refine Hv rfl (fun w hs => jkS rfl rfl (ja3 (by omega))) ?_
  refine Hx jbK i_2 rfl (ja6 _) (by omega) rfl ?_
  refine jb2 ?_
  intro w hs
  refine jaH hs (i := 4) rfl i_2 rfl rfl (by exact jaM _ _) (by simp; omega) rfl ?_
  intro w hs
  dsimp only [sS, sZ, sA, sN] at hs
  refine Rr (Lmm rfl rfl (Lm rfl (Li jbW i_3 rfl (ja6 _) (by omega) rfl ?_)))
  refine jaH hs (i := 5) rfl i_3 rfl rfl (by exact jaM _ _) (by simp; omega) rfl ?_
  intro w hs
  dsimp only [sS, sZ, sA, sN] at hs
  refine Rnl (jaB (Nt (Wr (Lm rfl (jbG rfl (ja3 (by omega)) ?_)))))
  refine La rfl (Rnl ?_)
  rw [jc3, jc3] at hs
  refine Nq (j + 1, D.set j (C i j - gi U i - gi V j), F.set j i, w) [0, 1, 4, 5, 6, 7] rfl ?_ ?_
  ·
   dsimp only
   refine ⟨by omega, by simp [hDl], by simp [hFl], fun z hz => ?_, fun z hz => ?_, hs⟩
   ·
    rw [gi, jfW (by omega)]
    split
    ·
     rename_i h5; rw [h5]
    exact hD z (by omega)
   rw [gi, jfW (by omega)]
   split
   ·
    rfl
   exact hF z (by omega)
  omega
 obtain rfl : n = j := by omega
 refine Wqq (Lmm rfl rfl (Ln rfl (Lf 0 jbB rfl i_3 (Ll o_3 rfl (by exact hold hs (hrd.bx rfl) hrd.nb) ?_))))
 refine jaZ rfl (jaA (by omega)) ?_
 refine Rt (Wf rfl ?_)
 have hEn := hSq.en hin (Int.le_refl _) hC (dist := gi D) (frm := gi F) (done := gbo (List.replicate n false)) (fun z hz => grep hz) hD hF
 clear hD hF
 refine jaK (ja0 (ja8 (ja1 (Nt (Wq (La rfl (Rq (La rfl (Rt (Wsq ?_))))))))))
 refine W_cut6 (fun (D : List Int) (F : List Int) (E : List Bool) (k : Nat) (t : Nat) (w : World) => [(0, .pointer (some ⟨y.B, 0, none⟩)), (1, .int .i64 i), (4, .slice (some ⟨gd, 0, none⟩) n n), (5, .slice (some ⟨gf, 0, none⟩) n n), (6, .slice (some ⟨ge, 0, none⟩) n n), (8, .int .i64 k), (9, .int .i64 (gi D k))]) (fun D F E k t w => w) (fun D F E k t w => (D.length = n) /\ (F.length = n) /\ (E.length = n) /\ (k < n) /\ (gbo E k = true) /\ (gi R k = -1) /\ (Ch n C i (gi R) (gi U) (gi V) (gi D) (gi F) (gbo E) k t) /\ (HS w0 w (EnL y U V M R gd gf ge D F E))) ?_ ?_
 ·
  refine ja4 ?_
  refine jpE (fun (D : List Int) (F : List Int) (E : List Bool) (rho : Int) (reach : Int) (t : Nat) (w : World) => [(0, .pointer (some ⟨y.B, 0, none⟩)), (1, .int .i64 i), (4, .slice (some ⟨gd, 0, none⟩) n n), (5, .slice (some ⟨gf, 0, none⟩) n n), (6, .slice (some ⟨ge, 0, none⟩) n n), (8, .int .i64 (-1)), (9, .int .i64 reach)]) (fun D F E rho reach t w => w) (fun D F E rho reach t w => (D.length = n) /\ (F.length = n) /\ (E.length = n) /\ (En n C i (gi R) (gi U) (gi V) (gi D) (gi F) (gbo E) rho t) /\ (HS w0 w (EnL y U V M R gd gf ge D F E))) (fun D F E rho reach t w => n + 1 - t) (D) (F) (List.replicate n false) (0) (0) (0) (w) (is := [0, 1, 4, 5, 6, 8, 9]) rfl rfl ?_ ?_
  ·
   exact ⟨hDl, hFl, by simp, hEn, hs⟩
  clear hs hEn hDl hFl
  intro D F E rho reach t w hI
  show W _ _ _ _ [(0, .pointer (some ⟨y.B, 0, none⟩)), (1, .int .i64 i), (4, .slice (some ⟨gd, 0, none⟩) n n), (5, .slice (some ⟨gf, 0, none⟩) n n), (6, .slice (some ⟨ge, 0, none⟩) n n), (8, .int .i64 (-1)), (9, .int .i64 reach)] w
  obtain ⟨hDl, hFl, hEl, hEn, hs⟩ := hI
  obtain ⟨⟨f0, hf0, hf0d⟩, htn⟩ := hEn.some hin
  obtain ⟨hrho, hDb⟩ := hEn.bd hin hui hC
  refine Wqq (Lm rfl (jaZ rfl (jaF (by omega)) ?_))
  refine Rt (Wt rfl (Ws (ja4 (Wq (La rfl (Rqq (La rfl (Rt (ja4 ?_)))))))))
  refine jcT (fun (j : Nat) (k : Int) (w : World) => [(0, .pointer (some ⟨y.B, 0, none⟩)), (1, .int .i64 i), (4, .slice (some ⟨gd, 0, none⟩) n n), (5, .slice (some ⟨gf, 0, none⟩) n n), (6, .slice (some ⟨ge, 0, none⟩) n n), (8, .int .i64 (-1)), (9, .int .i64 reach), (10, .int .i64 k), (11, .int .i64 j)]) (fun j k w => w) (fun j k w => (j <= n) /\ ((k = -1 /\ ∀ z, z < j -> gbo E z = true) ∨ ∃ kn : Nat, k = (kn : Int) /\ kn < j /\ gbo E kn = false /\ ∀ z, z < j -> gbo E z = false -> gi D kn <= gi D z) /\ (HS w0 w (EnL y U V M R gd gf ge D F E))) (fun j k w => n - j) (0) (-1) (w) (is := [0, 1, 4, 5, 6, 8, 9, 10, 11]) rfl rfl ?_ ?_
  ·
   exact ⟨Nat.zero_le _, .inl ⟨rfl, fun _ h => absurd h (Nat.not_lt_zero _)⟩, hs⟩
  clear hs
  intro j k w hI
  show W _ _ _ _ [(0, .pointer (some ⟨y.B, 0, none⟩)), (1, .int .i64 i), (4, .slice (some ⟨gd, 0, none⟩) n n), (5, .slice (some ⟨gf, 0, none⟩) n n), (6, .slice (some ⟨ge, 0, none⟩) n n), (8, .int .i64 (-1)), (9, .int .i64 reach), (10, .int .i64 k), (11, .int .i64 j)] w
  obtain ⟨hj, hk, hs⟩ := hI
  by_cases hlt2 : j < n
  ·
   cases hEj : E.getD j false
   ·
    have hxj : (bls E)[j]? = some (.bool false) := by rw [<- hEj]; exact jfN (by omega)
    have hxd : gbo E j = false := hEj
    rcases hk with ⟨rfl, hk⟩ | ⟨kn, rfl, hkn, hkd, hkm⟩
    ·
     refine Wqq (Lmm rfl rfl (Ln rfl (Lf 0 jbB rfl i_3 (Ll o_3 rfl (by exact hold hs (hrd.bx rfl) hrd.nb) ?_))))
     refine jaZ rfl (jaF (by omega)) ?_
     refine Rt (Wt rfl (Ws (Wsq (ja4 (Wsq (jcH [0, 1, 2] [3, 4, 5, 6, 7, 8, 9, 10, 11, 12, 13, 14, 15, 16, 17, 18, 19] [] (fun _ _ _ => False) Tryz.mixed (jcQ (by kernel_rfl)) (fun _ _ _ _ _ h => h) hs ?_))))))
     refine Pm rfl (Pm rfl (Pv rfl (fun w => jdC jfC i_4 rfl rfl (ja6 _) (by omega) rfl) ?_))
     refine jbH (Hv rfl (fun w hs => jaN o_4 rfl (by exact hs.cellA (i := 6) rfl hxj)) ?_)
     refine Hv rfl (fun w hs => R_not rfl) ?_
     refine Hm rfl (Hw rfl rfl (Hm rfl (Hw rfl rfl (Hv rfl (fun w hs => jpT rfl rfl (jaF (by omega))) ?_))))
     refine Hw rfl rfl (Hm rfl (jaU rfl rfl rfl rfl (jaU rfl rfl rfl rfl (jaU rfl rfl rfl rfl (jaU rfl rfl rfl rfl (jaU rfl rfl rfl rfl (jaU rfl rfl rfl rfl (jaU rfl rfl rfl rfl (jaU rfl rfl rfl rfl (jaU rfl rfl rfl rfl (Hw rfl rfl (Hv rfl (fun w hs => jf7 rfl rfl) ?_))))))))))))
     refine Hv rfl (fun w hs => jf7 rfl rfl) ?_
     refine jb2 ?_
     intro w hs
     refine Rt (Wt rfl (Wr (Lm rfl (La rfl (Rnl (jaB (Nt (Wr (Lm rfl (jbG rfl (ja3 (by omega)) ?_))))))))))
     refine La rfl (Rnl (Nq (j + 1, (j : Int), w) [0, 1, 4, 5, 6, 8, 9, 10, 11] rfl ?_ ?_))
     ·
      dsimp only
      refine ⟨by omega, .inr ⟨j, rfl, by omega, hxd, fun z hz hzd => ?_⟩, hs⟩
      by_cases hzj : z = j
      ·
       rw [hzj]; exact Int.le_refl _
      rw [hk z (by omega)] at hzd; cases hzd
     omega
    by_cases hcm : D.getD j 0 < D.getD kn 0
    ·
     refine Wqq (Lmm rfl rfl (Ln rfl (Lf 0 jbB rfl i_3 (Ll o_3 rfl (by exact hold hs (hrd.bx rfl) hrd.nb) ?_))))
     refine jaZ rfl (jaF (by omega)) ?_
     refine Rt (Wt rfl (Ws (Wsq (ja4 (Wsq (jcH [0, 1, 2] [3, 4, 5, 6, 7, 8, 9, 10, 11, 12, 13, 14, 15, 16, 17, 18, 19] [] (fun _ _ _ => False) Tryz.mixed (jcQ (by kernel_rfl)) (fun _ _ _ _ _ h => h) hs ?_))))))
     refine Pm rfl (Pm rfl (Pv rfl (fun w => jdC jfC i_4 rfl rfl (ja6 _) (by omega) rfl) ?_))
     refine jbH (Hv rfl (fun w hs => jaN o_4 rfl (by exact hs.cellA (i := 6) rfl hxj)) ?_)
     refine Hv rfl (fun w hs => R_not rfl) ?_
     refine Hm rfl (Hw rfl rfl (Hm rfl (Hw rfl rfl (Hv rfl (fun w hs => jpT rfl rfl (jaA (by omega))) ?_))))
     refine Hw rfl rfl (Hm rfl (Hw rfl rfl (Hm rfl (Hw rfl rfl (Hm rfl (Hw rfl rfl (Hx jbK i_2 rfl (ja6 _) (by omega) rfl ?_)))))))
     refine Hw rfl rfl (Hv rfl (fun w hs => jaN o_2 rfl (by exact hs.cellA (i := 4) rfl (jaV (by omega)))) ?_)
     refine Hw rfl rfl (Hm rfl (Hw rfl rfl (Hm rfl (Hw rfl rfl (Hx jbK i_2 rfl (ja6 _) (by omega) rfl ?_)))))
     refine Hw rfl rfl (Hv rfl (fun w hs => jaN o_2 rfl (by exact hs.cellA (i := 4) rfl (jaV (by omega)))) ?_)
     refine Hw rfl rfl (Hv rfl (fun w hs => jpT rfl rfl (jaF (by omega))) ?_)
     refine Hw rfl rfl (Hv rfl (fun w hs => jf8 rfl rfl) ?_)
     refine Hv rfl (fun w hs => jf7 rfl rfl) ?_
     refine jb2 ?_
     intro w hs
     refine Rt (Wt rfl (Wr (Lm rfl (La rfl (Rnl (jaB (Nt (Wr (Lm rfl (jbG rfl (ja3 (by omega)) ?_))))))))))
     refine La rfl (Rnl (Nq (j + 1, (j : Int), w) [0, 1, 4, 5, 6, 8, 9, 10, 11] rfl ?_ ?_))
     ·
      dsimp only
      refine ⟨by omega, .inr ⟨j, rfl, by omega, hxd, fun z hz hzd => ?_⟩, hs⟩
      by_cases hzj : z = j
      ·
       rw [hzj]; exact Int.le_refl _
      have h5 := hkm z (by omega) hzd
      have h6 : gi D j < gi D kn := hcm
      omega
     omega
    refine Wqq (Lmm rfl rfl (Ln rfl (Lf 0 jbB rfl i_3 (Ll o_3 rfl (by exact hold hs (hrd.bx rfl) hrd.nb) ?_))))
    refine jaZ rfl (jaF (by omega)) ?_
    refine Rt (Wt rfl (Ws (Wsq (ja4 (Wsq (jcH [0, 1, 2] [3, 4, 5, 6, 7, 8, 9, 10, 11, 12, 13, 14, 15, 16, 17, 18, 19] [] (fun _ _ _ => False) Tryz.mixed (jcQ (by kernel_rfl)) (fun _ _ _ _ _ h => h) hs ?_))))))
    refine Pm rfl (Pm rfl (Pv rfl (fun w => jdC jfC i_4 rfl rfl (ja6 _) (by omega) rfl) ?_))
    refine jbH (Hv rfl (fun w hs => jaN o_4 rfl (by exact hs.cellA (i := 6) rfl hxj)) ?_)
    refine Hv rfl (fun w hs => R_not rfl) ?_
    refine Hm rfl (Hw rfl rfl (Hm rfl (Hw rfl rfl (Hv rfl (fun w hs => jpT rfl rfl (jaA (by omega))) ?_))))
    refine Hw rfl rfl (Hm rfl (Hw rfl rfl (Hm rfl (Hw rfl rfl (Hm rfl (Hw rfl rfl (Hx jbK i_2 rfl (ja6 _) (by omega) rfl ?_)))))))
    refine Hw rfl rfl (Hv rfl (fun w hs => jaN o_2 rfl (by exact hs.cellA (i := 4) rfl (jaV (by omega)))) ?_)
    refine Hw rfl rfl (Hm rfl (Hw rfl rfl (Hm rfl (Hw rfl rfl (Hx jbK i_2 rfl (ja6 _) (by omega) rfl ?_)))))
    refine Hw rfl rfl (Hv rfl (fun w hs => jaN o_2 rfl (by exact hs.cellA (i := 4) rfl (jaV (by omega)))) ?_)
    refine Hw rfl rfl (Hv rfl (fun w hs => jpT rfl rfl (jaA (by omega))) ?_)
    refine Hw rfl rfl (Hv rfl (fun w hs => jf8 rfl rfl) ?_)
    refine Hv rfl (fun w hs => jf7 rfl rfl) ?_
    refine jb2 ?_
    intro w hs
    refine Rt (Wf rfl (jaY (jaB (Nt (Wr (Lm rfl (jbG rfl (ja3 (by omega)) ?_)))))))
    refine La rfl (Rnl (Nq (j + 1, (kn : Int), w) [0, 1, 4, 5, 6, 8, 9, 10, 11] rfl ?_ ?_))
    ·
     dsimp only
     refine ⟨by omega, .inr ⟨kn, rfl, by omega, hkd, fun z hz hzd => ?_⟩, hs⟩
     by_cases hzj : z = j
     ·
      rw [hzj]
      have h6 : ¬gi D j < gi D kn := hcm
      omega
     exact hkm z (by omega) hzd
    omega
   have hxj : (bls E)[j]? = some (.bool true) := by rw [<- hEj]; exact jfN (by omega)
   have hxd : gbo E j = true := hEj
   refine Wqq (Lmm rfl rfl (Ln rfl (Lf 0 jbB rfl i_3 (Ll o_3 rfl (by exact hold hs (hrd.bx rfl) hrd.nb) ?_))))
   refine jaZ rfl (jaF (by omega)) ?_
   refine Rt (Wt rfl (Ws (Wsq (ja4 (Wsq (jcH [0, 1, 2] [3, 4, 5, 6, 7, 8, 9, 10, 11, 12, 13, 14, 15, 16, 17, 18, 19] [] (fun _ _ _ => False) Tryz.mixed (jcQ (by kernel_rfl)) (fun _ _ _ _ _ h => h) hs ?_))))))
   refine Pm rfl (Pm rfl (Pv rfl (fun w => jdC jfC i_4 rfl rfl (ja6 _) (by omega) rfl) ?_))
   refine jbH (Hv rfl (fun w hs => jaN o_4 rfl (by exact hs.cellA (i := 6) rfl hxj)) ?_)
   refine Hv rfl (fun w hs => R_not rfl) ?_
   refine Hm rfl (jaU rfl rfl rfl rfl (jaU rfl rfl rfl rfl (jaU rfl rfl rfl rfl (jf9 rfl rfl rfl (jf9 rfl rfl rfl (jf9 rfl rfl rfl (jf9 rfl rfl rfl (jf9 rfl rfl rfl (jf9 rfl rfl rfl (jf9 rfl rfl rfl (jf9 rfl rfl rfl (jf9 rfl rfl rfl (jaU rfl rfl rfl rfl (Hv rfl (fun w hs => jf8 rfl rfl) ?_))))))))))))))
   refine jb2 ?_
   intro w hs
   refine Rt (Wf rfl (jaY (jaB (Nt (Wr (Lm rfl (jbG rfl (ja3 (by omega)) ?_)))))))
   refine La rfl (Rnl (Nq (j + 1, k, w) [0, 1, 4, 5, 6, 8, 9, 10, 11] rfl ?_ ?_))
   ·
    dsimp only
    refine ⟨by omega, ?_, hs⟩
    rcases hk with ⟨h5, h6⟩ | ⟨kn, h5, h6, h7, h8⟩
    ·
     refine .inl ⟨h5, fun z hz => ?_⟩
     by_cases hzj : z = j
     ·
      rw [hzj]; exact hxd
     exact h6 z (by omega)
    refine .inr ⟨kn, h5, by omega, h7, fun z hz hzd => ?_⟩
    have hzj : z ≠ j := fun he => by rw [he, hxd] at hzd; cases hzd
    exact h8 z (by omega) hzd
   omega
  obtain rfl : n = j := by omega
  rcases hk with ⟨h5, h6⟩ | ⟨kn, rfl, hkn, hkd, hkm⟩
  ·
   rw [h6 f0 hf0] at hf0d; cases hf0d
  obtain ⟨hCh, hrk⟩ := hEn.choose hin (Int.le_refl _) hC hkn hkd hkm
  have eE : (fun j => if j = kn then true else gbo E j) = gbo (E.set kn true) := by
   funext z
   show (if z = kn then true else gbo E z) = (E.set kn true).getD z false
   rw [jfW (by omega)]
  rw [eE] at hCh
  have hEl' : (E.set kn true).length = n := by simp [hEl]
  have hEk : gbo (E.set kn true) kn = true := by show (E.set kn true).getD kn false = true; rw [jfW (by omega), if_pos rfl]
  obtain ⟨E', hE'⟩ : ∃ E', E' = E.set kn true := ⟨_, rfl⟩
  rw [<- hE'] at hCh hEl' hEk
  obtain ⟨hDk, hDd, htn'⟩ := hCh.bd hin hui hbV hC
  have hDk' : 0 <= D.getD kn 0 /\ D.getD kn 0 <= 4503599627370496 := hDk
  have hRk := hSq.mat.ran kn hkn
  refine Wqq (Lmm rfl rfl (Ln rfl (Lf 0 jbB rfl i_3 (Ll o_3 rfl (by exact hold hs (hrd.bx rfl) hrd.nb) ?_))))
  refine jaZ rfl (jaA (by omega)) ?_
  refine Rt (Wf rfl (jaK (ja0 (ja8 (ja1 (Nt (Wq (Lmm rfl rfl (Li jfC i_4 rfl (ja6 _) (by omega) rfl ?_)))))))))
  refine jaH hs (i := 6) rfl i_4 rfl rfl (by exact jaM _ _) (by simp; omega) rfl ?_
  intro w hs
  dsimp only [sS, sZ, sA, sN] at hs
  refine Rq ?_
  rw [bls_set, <- hE'] at hs
  refine Lmm rfl rfl (Li jbK i_2 rfl (ja6 _) (by omega) rfl ?_)
  refine Ll o_2 rfl (by exact hs.cellA (i := 4) rfl (jaV (by omega))) ?_
  refine La rfl (Rq (Lm rfl (Ln rfl (Lf 5 jbB rfl jg2 (Ll jgQ rfl (by exact hold hs (hrd.bx rfl) hrd.nb) ?_)))))
  refine Lm rfl (Li jbW i_3 rfl (ja6 _) (by omega) rfl ?_)
  refine Ll o_3 rfl (by exact hs.cellA (i := 3) rfl (jbZ (by omega))) ?_
  refine La rfl (Rqq ?_)
  rcases hRk with hRk | hRk
  ·
   have hRk' : R.getD kn 0 = -1 := hRk
   rw [hRk']
   refine Lm rfl (jaZ rfl (jaF (by omega)) ?_)
   refine Rt (Wt rfl (Wq (Lm rfl (La rfl (Rt (jaK (ja0 (je5 rfl (ja8 (ja1 (jbD (D, F, E', kn, t + 1, w) (is := [0, 1, 4, 5, 6, 8, 9]) (I' := (fun (D : List Int) (F : List Int) (E : List Bool) (k : Nat) (t : Nat) (w : World) => (D.length = n) /\ (F.length = n) /\ (E.length = n) /\ (k < n) /\ (gbo E k = true) /\ (gi R k = -1) /\ (Ch n C i (gi R) (gi U) (gi V) (gi D) (gi F) (gbo E) k t) /\ (HS w0 w (EnL y U V M R gd gf ge D F E))) (D) (F) (E') (kn) (t + 1) (w)) rfl rfl rfl ?_)))))))))))
   exact ⟨hDl, hFl, hEl', hkn, hEk, hRk, hCh, hs⟩
  obtain ⟨r, hr, hri⟩ : ∃ r : Nat, gi R kn = (r : Int) /\ r < i := ⟨(gi R kn).toNat, by omega, by omega⟩
  have hRk' : R.getD kn 0 = (r : Int) := hr
  rw [hRk']
  have hrn : r < n := by omega
  obtain ⟨g2, cp2, hq1, hq2, hq3⟩ := hrd.row r hrn
  refine Lm rfl (jaZ rfl (jaA (by omega)) ?_)
  refine Rt (Wf rfl (Ws (Wq (La rfl (Rt (ja4 ?_))))))
  refine jcK (fun (j : Nat) (D' : List Int) (F' : List Int) (w : World) => [(0, .pointer (some ⟨y.B, 0, none⟩)), (1, .int .i64 i), (4, .slice (some ⟨gd, 0, none⟩) n n), (5, .slice (some ⟨gf, 0, none⟩) n n), (6, .slice (some ⟨ge, 0, none⟩) n n), (8, .int .i64 (-1)), (9, .int .i64 (D.getD kn 0)), (12, .int .i64 r), (13, .int .i64 j)]) (fun j D' F' w => w) (fun j D' F' w => (j <= n) /\ (D'.length = n) /\ (F'.length = n) /\ (∀ z, z < n -> (z < j -> gi D' z = if gbo E' z = false /\ gi D kn + C r z - gi U r - gi V z < gi D z then gi D kn + C r z - gi U r - gi V z else gi D z) /\ (j <= z -> gi D' z = gi D z)) /\ (∀ z, z < n -> (z < j -> gi F' z = if gbo E' z = false /\ gi D kn + C r z - gi U r - gi V z < gi D z then (r : Int) else gi F z) /\ (j <= z -> gi F' z = gi F z)) /\ (HS w0 w (EnL y U V M R gd gf ge D' F' E'))) (fun j D' F' w => n - j) (0) (D) (F) (w) (is := [0, 1, 4, 5, 6, 8, 9, 12, 13]) rfl rfl ?_ ?_
  ·
   exact ⟨Nat.zero_le _, hDl, hFl, fun z _ => ⟨fun h => absurd h (Nat.not_lt_zero _), fun _ => rfl⟩, fun z _ => ⟨fun h => absurd h (Nat.not_lt_zero _), fun _ => rfl⟩, hs⟩
  clear hs
  intro j D' F' w hI
  show W _ _ _ _ [(0, .pointer (some ⟨y.B, 0, none⟩)), (1, .int .i64 i), (4, .slice (some ⟨gd, 0, none⟩) n n), (5, .slice (some ⟨gf, 0, none⟩) n n), (6, .slice (some ⟨ge, 0, none⟩) n n), (8, .int .i64 (-1)), (9, .int .i64 (D.getD kn 0)), (12, .int .i64 r), (13, .int .i64 j)] w
  obtain ⟨hj, hDl', hFl', hD', hF', hs⟩ := hI
  by_cases hlt3 : j < n
  ·
   have b1 := hC r j hrn hlt3
   have b2 : 0 <= U.getD r 0 /\ U.getD r 0 <= 4503599627370496 := hbU r hrn
   have b3 : -4503599627370496 <= V.getD j 0 /\ V.getD j 0 <= 0 := hbV j hlt3
   have hDj : D'.getD j 0 = gi D j := (hD' j hlt3).2 (Nat.le_refl _)
   have hFj : F'.getD j 0 = gi F j := (hF' j hlt3).2 (Nat.le_refl _)
   cases hEj : E'.getD j false
   ·
    have hxj : (bls E')[j]? = some (.bool false) := by rw [<- hEj]; exact jfN (by omega)
    have hxd : gbo E' j = false := hEj
    by_cases hcm : D.getD kn 0 + C r j - U.getD r 0 - V.getD j 0 < D'.getD j 0
    ·
     have hcm' : gi D kn + C r j - gi U r - gi V j < gi D j := by rw [hDj] at hcm; exact hcm
     refine Wqq (Lmm rfl rfl (Ln rfl (Lf 0 jbB rfl i_3 (Ll o_3 rfl (by exact hold hs (hrd.bx rfl) hrd.nb) ?_))))
     refine jaZ rfl (jaF (by omega)) ?_
     refine Rt (Wt rfl (Ws (Wsq (ja4 (Wsq (jcH [0, 1, 2, 3, 5, 8, 12, 13, 14, 16, 20, 21, 22, 24] [4, 6, 7, 9, 10, 11, 15, 17, 18, 19, 23, 25, 26, 27, 28] [] (fun _ _ _ => False) Tryz.mixed (jcQ (by kernel_rfl)) (fun _ _ _ _ _ h => h) hs ?_))))))
     refine Pm rfl (Pm rfl (Pn rfl (Pfa 1 jbB rfl i_85 (Pm rfl (Pm rfl (Pm rfl (Pn rfl (Pfa 2 jbB rfl jd1 (Pm rfl (Pm rfl (Pn rfl (Pfa 3 jbB rfl jd1 (Pm rfl (jbH (Hv rfl (fun w hs => jaN o_85 rfl (by exact hold hs (hrd.bx rfl) hrd.nb)) ?_)))))))))))))))
     refine Hx jd4 jd1 rfl (ja6 _) (by omega) rfl ?_
     refine Hl jdR rfl (fun w hs => (by exact hold hs hq1 hrd.nc)) ?_
     refine Hx jbK i_2 rfl (ja6 _) (by omega) rfl ?_
     refine Hl o_2 rfl (fun w hs => (by exact hold hs (hq3 _ (by omega)) hq2)) ?_
     refine Hv rfl (fun w hs => jk6 rfl rfl (ja3 (by omega))) ?_
     refine Hl jdR rfl (fun w hs => (by exact hold hs (hrd.bx rfl) hrd.nb)) ?_
     refine Hx jbK i_2 rfl (ja6 _) (by omega) rfl ?_
     refine Hl o_2 rfl (fun w hs => (by exact hs.cellA (i := 0) rfl (jbZ (by omega)))) ?_
     refine Hv rfl (fun w hs => jkS rfl rfl (ja3 (by omega))) ?_
     refine Hl jdR rfl (fun w hs => (by exact hold hs (hrd.bx rfl) hrd.nb)) ?_
     refine Hx jbK i_2 rfl (ja6 _) (by omega) rfl ?_
     refine Hl o_2 rfl (fun w hs => (by exact hs.cellA (i := 1) rfl (jbZ (by omega)))) ?_
     refine Hv rfl (fun w hs => jkS rfl rfl (ja3 (by omega))) ?_
     refine Hv rfl (fun w hs => jbS rfl) ?_
     refine jb2 ?_
     intro w hs
     refine Rq (Lmm rfl rfl (Li jfC i_4 rfl (ja6 _) (by omega) rfl ?_))
     refine Ll o_4 rfl (by exact hs.cellA (i := 6) rfl hxj) ?_
     refine jcP rfl (Lm rfl (Gm rfl rfl (Gm rfl rfl (Gm rfl rfl (Rw rfl (Li jbK i_2 rfl (ja6 _) (by omega) rfl ?_))))))
     refine Rw rfl (Ll o_2 rfl (by exact hs.cellA (i := 4) rfl (jaV (by omega))) ?_)
     refine Rw rfl (jaZ rfl (jaF (by omega)) ?_)
     refine Lpt rfl (Rt (Wt rfl (Wq (Lmm rfl rfl (Lm rfl (Li jbK i_2 rfl (ja6 _) (by omega) rfl ?_))))))
     refine jaH hs (i := 4) rfl i_2 rfl rfl (by exact jaM _ _) (by simp; omega) rfl ?_
     intro w hs
     dsimp only [sS, sZ, sA, sN] at hs
     refine Rr (Lmm rfl rfl (Lm rfl (Li jbW i_3 rfl (ja6 _) (by omega) rfl ?_)))
     refine jaH hs (i := 5) rfl i_3 rfl rfl (by exact jaM _ _) (by simp; omega) rfl ?_
     intro w hs
     dsimp only [sS, sZ, sA, sN] at hs
     refine Rnl (jaB (Nt (Wr (Lm rfl (jbG rfl (ja3 (by omega)) ?_)))))
     refine La rfl (Rnl ?_)
     rw [jc3, jc3] at hs
     refine Nq (j + 1, D'.set j (gi D kn + C r j - gi U r - gi V j), F'.set j r, w) [0, 1, 4, 5, 6, 8, 9, 12, 13] rfl ?_ ?_
     ·
      dsimp only
      refine ⟨by omega, by simp [hDl'], by simp [hFl'], fun z hz => ?_, fun z hz => ?_, hs⟩
      ·
       show (z < j + 1 -> (D'.set j _).getD z 0 = _) /\ (j + 1 <= z -> (D'.set j _).getD z 0 = _)
       rw [jfW (by omega)]
       by_cases hzj : z = j
       ·
        subst hzj
        rw [if_pos rfl, if_pos ⟨hxd, hcm'⟩]
        exact ⟨fun _ => rfl, fun h => absurd h (by omega)⟩
       rw [if_neg hzj]; exact ⟨fun h => (hD' z hz).1 (by omega), fun h => (hD' z hz).2 (by omega)⟩
      show (z < j + 1 -> (F'.set j _).getD z 0 = _) /\ (j + 1 <= z -> (F'.set j _).getD z 0 = _)
      rw [jfW (by omega)]
      by_cases hzj : z = j
      ·
       subst hzj
       rw [if_pos rfl, if_pos ⟨hxd, hcm'⟩]
       exact ⟨fun _ => rfl, fun h => absurd h (by omega)⟩
      rw [if_neg hzj]; exact ⟨fun h => (hF' z hz).1 (by omega), fun h => (hF' z hz).2 (by omega)⟩
     omega
    have hcm' : ¬gi D kn + C r j - gi U r - gi V j < gi D j := by rw [hDj] at hcm; exact hcm
    refine Wqq (Lmm rfl rfl (Ln rfl (Lf 0 jbB rfl i_3 (Ll o_3 rfl (by exact hold hs (hrd.bx rfl) hrd.nb) ?_))))
    refine jaZ rfl (jaF (by omega)) ?_
    refine Rt (Wt rfl (Ws (Wsq (ja4 (Wsq (jcH [0, 1, 2, 3, 5, 8, 12, 13, 14, 16, 20, 21, 22, 24] [4, 6, 7, 9, 10, 11, 15, 17, 18, 19, 23, 25, 26, 27, 28] [] (fun _ _ _ => False) Tryz.mixed (jcQ (by kernel_rfl)) (fun _ _ _ _ _ h => h) hs ?_))))))
    refine Pm rfl (Pm rfl (Pn rfl (Pfa 1 jbB rfl i_85 (Pm rfl (Pm rfl (Pm rfl (Pn rfl (Pfa 2 jbB rfl jd1 (Pm rfl (Pm rfl (Pn rfl (Pfa 3 jbB rfl jd1 (Pm rfl (jbH (Hv rfl (fun w hs => jaN o_85 rfl (by exact hold hs (hrd.bx rfl) hrd.nb)) ?_)))))))))))))))
    refine Hx jd4 jd1 rfl (ja6 _) (by omega) rfl ?_
    refine Hl jdR rfl (fun w hs => (by exact hold hs hq1 hrd.nc)) ?_
    refine Hx jbK i_2 rfl (ja6 _) (by omega) rfl ?_
    refine Hl o_2 rfl (fun w hs => (by exact hold hs (hq3 _ (by omega)) hq2)) ?_
    refine Hv rfl (fun w hs => jk6 rfl rfl (ja3 (by omega))) ?_
    refine Hl jdR rfl (fun w hs => (by exact hold hs (hrd.bx rfl) hrd.nb)) ?_
    refine Hx jbK i_2 rfl (ja6 _) (by omega) rfl ?_
    refine Hl o_2 rfl (fun w hs => (by exact hs.cellA (i := 0) rfl (jbZ (by omega)))) ?_
    refine Hv rfl (fun w hs => jkS rfl rfl (ja3 (by omega))) ?_
    refine Hl jdR rfl (fun w hs => (by exact hold hs (hrd.bx rfl) hrd.nb)) ?_
    refine Hx jbK i_2 rfl (ja6 _) (by omega) rfl ?_
    refine Hl o_2 rfl (fun w hs => (by exact hs.cellA (i := 1) rfl (jbZ (by omega)))) ?_
    refine Hv rfl (fun w hs => jkS rfl rfl (ja3 (by omega))) ?_
    refine Hv rfl (fun w hs => jbS rfl) ?_
    refine jb2 ?_
    intro w hs
    refine Rq (Lmm rfl rfl (Li jfC i_4 rfl (ja6 _) (by omega) rfl ?_))
    refine Ll o_4 rfl (by exact hs.cellA (i := 6) rfl hxj) ?_
    refine jcP rfl (Lm rfl (Gm rfl rfl (Gm rfl rfl (Gm rfl rfl (Rw rfl (Li jbK i_2 rfl (ja6 _) (by omega) rfl ?_))))))
    refine Rw rfl (Ll o_2 rfl (by exact hs.cellA (i := 4) rfl (jaV (by omega))) ?_)
    refine Rw rfl (jaZ rfl (jaA (by omega)) ?_)
    refine Lpt rfl (Rt (Wf rfl (jaY (jaB (Nt (Wr (Lm rfl (jbG rfl (ja3 (by omega)) ?_))))))))
    refine La rfl (Rnl (Nq (j + 1, D', F', w) [0, 1, 4, 5, 6, 8, 9, 12, 13] rfl ?_ ?_))
    ·
     dsimp only
     refine ⟨by omega, hDl', hFl', fun z hz => ?_, fun z hz => ?_, hs⟩
     ·
      by_cases hzj : z = j
      ·
       subst hzj
       rw [if_neg (fun h => hcm' h.2)]
       exact ⟨fun _ => hDj, fun _ => hDj⟩
      exact ⟨fun h => (hD' z hz).1 (by omega), fun h => (hD' z hz).2 (by omega)⟩
     by_cases hzj : z = j
     ·
      subst hzj
      rw [if_neg (fun h => hcm' h.2)]
      exact ⟨fun _ => hFj, fun _ => hFj⟩
     exact ⟨fun h => (hF' z hz).1 (by omega), fun h => (hF' z hz).2 (by omega)⟩
    omega
   have hxj : (bls E')[j]? = some (.bool true) := by rw [<- hEj]; exact jfN (by omega)
   have hxd : gbo E' j = true := hEj
   have hno : ¬gbo E' j = false := by rw [hxd]; simp
   refine Wqq (Lmm rfl rfl (Ln rfl (Lf 0 jbB rfl i_3 (Ll o_3 rfl (by exact hold hs (hrd.bx rfl) hrd.nb) ?_))))
   refine jaZ rfl (jaF (by omega)) ?_
   refine Rt (Wt rfl (Ws (Wsq (ja4 (Wsq (jcH [0, 1, 2, 3, 5, 8, 12, 13, 14, 16, 20, 21, 22, 24] [4, 6, 7, 9, 10, 11, 15, 17, 18, 19, 23, 25, 26, 27, 28] [] (fun _ _ _ => False) Tryz.mixed (jcQ (by kernel_rfl)) (fun _ _ _ _ _ h => h) hs ?_))))))
   refine Pm rfl (Pm rfl (Pn rfl (Pfa 1 jbB rfl i_85 (Pm rfl (Pm rfl (Pm rfl (Pn rfl (Pfa 2 jbB rfl jd1 (Pm rfl (Pm rfl (Pn rfl (Pfa 3 jbB rfl jd1 (Pm rfl (jbH (Hv rfl (fun w hs => jaN o_85 rfl (by exact hold hs (hrd.bx rfl) hrd.nb)) ?_)))))))))))))))
   refine Hx jd4 jd1 rfl (ja6 _) (by omega) rfl ?_
   refine Hl jdR rfl (fun w hs => (by exact hold hs hq1 hrd.nc)) ?_
   refine Hx jbK i_2 rfl (ja6 _) (by omega) rfl ?_
   refine Hl o_2 rfl (fun w hs => (by exact hold hs (hq3 _ (by omega)) hq2)) ?_
   refine Hv rfl (fun w hs => jk6 rfl rfl (ja3 (by omega))) ?_
   refine Hl jdR rfl (fun w hs => (by exact hold hs (hrd.bx rfl) hrd.nb)) ?_
   refine Hx jbK i_2 rfl (ja6 _) (by omega) rfl ?_
   refine Hl o_2 rfl (fun w hs => (by exact hs.cellA (i := 0) rfl (jbZ (by omega)))) ?_
   refine Hv rfl (fun w hs => jkS rfl rfl (ja3 (by omega))) ?_
   refine Hl jdR rfl (fun w hs => (by exact hold hs (hrd.bx rfl) hrd.nb)) ?_
   refine Hx jbK i_2 rfl (ja6 _) (by omega) rfl ?_
   refine Hl o_2 rfl (fun w hs => (by exact hs.cellA (i := 1) rfl (jbZ (by omega)))) ?_
   refine Hv rfl (fun w hs => jkS rfl rfl (ja3 (by omega))) ?_
   refine Hv rfl (fun w hs => jbS rfl) ?_
   refine jb2 ?_
   intro w hs
   refine Rq (Lmm rfl rfl (Li jfC i_4 rfl (ja6 _) (by omega) rfl ?_))
   refine Ll o_4 rfl (by exact hs.cellA (i := 6) rfl hxj) ?_
   refine jcP rfl (Lm rfl (Rs rfl (Rs rfl (Rs rfl (Rs rfl (Rs rfl (Rs rfl (Lpf rfl (Rt (Wf rfl (jaY (jaB (Nt (Wr (Lm rfl (jbG rfl (ja3 (by omega)) ?_))))))))))))))))
   refine La rfl (Rnl (Nq (j + 1, D', F', w) [0, 1, 4, 5, 6, 8, 9, 12, 13] rfl ?_ ?_))
   ·
    dsimp only
    refine ⟨by omega, hDl', hFl', fun z hz => ?_, fun z hz => ?_, hs⟩
    ·
     by_cases hzj : z = j
     ·
      subst hzj
      rw [if_neg (fun h => hno h.1)]
      exact ⟨fun _ => hDj, fun _ => hDj⟩
     exact ⟨fun h => (hD' z hz).1 (by omega), fun h => (hD' z hz).2 (by omega)⟩
    by_cases hzj : z = j
    ·
     subst hzj
     rw [if_neg (fun h => hno h.1)]
     exact ⟨fun _ => hFj, fun _ => hFj⟩
    exact ⟨fun h => (hF' z hz).1 (by omega), fun h => (hF' z hz).2 (by omega)⟩
   omega
  obtain rfl : n = j := by omega
  refine Wqq (Lmm rfl rfl (Ln rfl (Lf 0 jbB rfl i_3 (Ll o_3 rfl (by exact hold hs (hrd.bx rfl) hrd.nb) ?_))))
  refine jaZ rfl (jaA (by omega)) ?_
  refine Rt (Wf rfl ?_)
  have hrt : (gi R kn).toNat = r := by omega
  have hEn' := hCh.scan hkn hEk (by omega) (dist' := gi D') (frm' := gi F') (fun z hz => by rw [hrt]; exact (hD' z hz).1 hz) (fun z hz => by rw [hrt, hr]; exact (hF' z hz).1 hz)
  refine jaK (ja0 (ja8 (ja1 (jaB (Nq (D', F', E', gi D kn, D.getD kn 0, t + 1, w) [0, 1, 4, 5, 6, 8, 9] rfl ?_ ?_)))))
  ·
   dsimp only
   exact ⟨hDl', hFl', hEl', hEn', hs⟩
  show n + 1 - (t + 1) < n + 1 - t
  omega
 clear hs hEn hDl hFl
 intro D F E k t w hI
 show W _ _ _ _ [(0, .pointer (some ⟨y.B, 0, none⟩)), (1, .int .i64 i), (4, .slice (some ⟨gd, 0, none⟩) n n), (5, .slice (some ⟨gf, 0, none⟩) n n), (6, .slice (some ⟨ge, 0, none⟩) n n), (8, .int .i64 k), (9, .int .i64 (gi D k))] w
 obtain ⟨hDl, hFl, hEl, hkn, hEk, hRk, hCh, hs⟩ := hI
 obtain ⟨hDk, hDd, _⟩ := hCh.bd hin hui hbV hC
 obtain ⟨reach, hreach⟩ : ∃ reach, reach = gi D k := ⟨_, rfl⟩
 rw [<- hreach] at hDk hDd
 rw [<- hreach]
 have hUi : 0 <= U.getD i 0 /\ U.getD i 0 <= 4503599627370496 := hbU i hin
 refine Wsq (jcH [0, 1, 2, 4, 5, 6, 7, 9, 12] [3, 8, 10, 11, 13, 14] [15] (fun _ _ _ => False) Tryz.mixed (jcQ (by kernel_rfl)) (fun _ _ _ _ _ h => h) hs ?_)
 refine Pm rfl (Pn rfl (Pfa 2 jbB rfl jd1 (Pm rfl (Pm rfl (Pn rfl (Pfa 2 jbB rfl jd1 (Pm rfl (Pm rfl (jbH (Hv rfl (fun w hs => jaN jdR rfl (by exact hold hs (hrd.bx rfl) hrd.nb)) ?_))))))))))
 refine Hl jdR rfl (fun w hs => (by exact hold hs (hrd.bx rfl) hrd.nb)) ?_
 refine Hx jbK i_2 rfl (ja6 _) (by omega) rfl ?_
 refine Hl o_2 rfl (fun w hs => (by exact hs.cellA (i := 0) rfl (jbZ (by omega)))) ?_
 refine Hv rfl (fun w hs => jk6 rfl rfl (ja3 (by omega))) ?_
 refine Hx jbK i_2 rfl (ja6 _) (by omega) rfl ?_
 refine jb2 ?_
 intro w hs
 refine jaH hs (i := 0) rfl i_2 rfl rfl (by exact jaM _ _) (by simp; omega) rfl ?_
 intro w hs
 dsimp only [sS, sZ, sA, sN] at hs
 refine Rqq (La rfl (Rt (ja4 ?_)))
 rw [jf2 _ _ _ _ (by omega)] at hs
 refine jcK (fun (j : Nat) (U2 : List Int) (V2 : List Int) (w : World) => [(0, .pointer (some ⟨y.B, 0, none⟩)), (1, .int .i64 i), (4, .slice (some ⟨gd, 0, none⟩) n n), (5, .slice (some ⟨gf, 0, none⟩) n n), (6, .slice (some ⟨ge, 0, none⟩) n n), (8, .int .i64 k), (9, .int .i64 reach), (15, .int .i64 j)]) (fun j U2 V2 w => w) (fun j U2 V2 w => (j <= n) /\ (U2.length = n) /\ (V2.length = n) /\ (gi U2 i = gi U i + reach) /\ (∀ z, z < j -> gbo E z = true -> z ≠ k -> gi U2 (gi R z).toNat = gi U (gi R z).toNat + (reach - gi D z)) /\ (∀ q, q ≠ i -> (∀ z, z < j -> gbo E z = true -> z ≠ k -> (gi R z).toNat ≠ q) -> gi U2 q = gi U q) /\ (∀ z, z < n -> (z < j -> gi V2 z = if gbo E z = true /\ z ≠ k then gi V z - (reach - gi D z) else gi V z) /\ (j <= z -> gi V2 z = gi V z)) /\ (HS w0 w (EnL y U2 V2 M R gd gf ge D F E))) (fun j U2 V2 w => n - j) (0) (U.set i (U.getD i 0 + reach)) (V) (w) (is := [0, 1, 4, 5, 6, 8, 9, 15]) rfl rfl ?_ ?_
 ·
  refine ⟨Nat.zero_le _, by simp [hUl], hVl, ?_, fun _ h => absurd h (Nat.not_lt_zero _), fun q hq _ => ?_, fun z _ => ⟨fun h => absurd h (Nat.not_lt_zero _), fun _ => rfl⟩, hs⟩
  ·
   show (U.set i _).getD i 0 = _
   rw [jfW (by omega), if_pos rfl]
  show (U.set i _).getD q 0 = _
  rw [jfW (by omega), if_neg hq]
 clear hs
 intro j U2 V2 w hI
 show W _ _ _ _ [(0, .pointer (some ⟨y.B, 0, none⟩)), (1, .int .i64 i), (4, .slice (some ⟨gd, 0, none⟩) n n), (5, .slice (some ⟨gf, 0, none⟩) n n), (6, .slice (some ⟨ge, 0, none⟩) n n), (8, .int .i64 k), (9, .int .i64 reach), (15, .int .i64 j)] w
 obtain ⟨hj, hUl2, hVl2, hU2i, hU2d, hU2o, hV2, hs⟩ := hI
 by_cases hlt : j < n
 ·
  cases hEj : E.getD j false
  ·
   have hxj : (bls E)[j]? = some (.bool false) := by rw [<- hEj]; exact jfN (by omega)
   have hxd : ¬gbo E j = true := by show ¬E.getD j false = true; rw [hEj]; simp
   refine Wqq (Lmm rfl rfl (Ln rfl (Lf 0 jbB rfl i_3 (Ll o_3 rfl (by exact hold hs (hrd.bx rfl) hrd.nb) ?_))))
   refine jaZ rfl (jaF (by omega)) ?_
   refine Rt (Wt rfl (Ws (Wsq (ja4 (Wq (Lmm rfl rfl (Li jfC i_4 rfl (ja6 _) (by omega) rfl ?_)))))))
   refine Ll o_4 rfl (by exact hs.cellA (i := 6) rfl hxj) ?_
   refine Lm rfl (Rs rfl (Rs rfl (Rs rfl (Lpf rfl (Rt (Wf rfl (jaY (jaB (Nt (Wr (Lm rfl (jbG rfl (ja3 (by omega)) ?_))))))))))))
   refine La rfl (Rnl (Nq (j + 1, U2, V2, w) [0, 1, 4, 5, 6, 8, 9, 15] rfl ?_ ?_))
   ·
    dsimp only
    refine ⟨by omega, hUl2, hVl2, hU2i, fun z hz hzd hzk => ?_, fun q hq h => hU2o q hq fun z hz => h z (by omega), fun z hz => ?_, hs⟩
    ·
     have hzj : z ≠ j := fun he => hxd (he ▸ hzd)
     exact hU2d z (by omega) hzd hzk
    by_cases hzj : z = j
    ·
     subst hzj
     rw [if_neg (fun h => hxd h.1)]
     exact ⟨fun _ => (hV2 z hz).2 (Nat.le_refl _), fun _ => (hV2 z hz).2 (Nat.le_refl _)⟩
    exact ⟨fun h => (hV2 z hz).1 (by omega), fun h => (hV2 z hz).2 (by omega)⟩
   omega
  have hxj : (bls E)[j]? = some (.bool true) := by rw [<- hEj]; exact jfN (by omega)
  have hxd : gbo E j = true := hEj
  by_cases hjk : j = k
  ·
   refine Wqq (Lmm rfl rfl (Ln rfl (Lf 0 jbB rfl i_3 (Ll o_3 rfl (by exact hold hs (hrd.bx rfl) hrd.nb) ?_))))
   refine jaZ rfl (jaF (by omega)) ?_
   refine Rt (Wt rfl (Ws (Wsq (ja4 (Wq (Lmm rfl rfl (Li jfC i_4 rfl (ja6 _) (by omega) rfl ?_)))))))
   refine Ll o_4 rfl (by exact hs.cellA (i := 6) rfl hxj) ?_
   refine Lm rfl (Gm rfl rfl (Gm rfl rfl (Rw rfl (jk7 rfl (jaA (by omega)) ?_))))
   refine Lpt rfl (Rt (Wf rfl (jaY (jaB (Nt (Wr (Lm rfl (jbG rfl (ja3 (by omega)) ?_))))))))
   refine La rfl (Rnl (Nq (j + 1, U2, V2, w) [0, 1, 4, 5, 6, 8, 9, 15] rfl ?_ ?_))
   ·
    dsimp only
    refine ⟨by omega, hUl2, hVl2, hU2i, fun z hz hzd hzk => ?_, fun q hq h => hU2o q hq fun z hz => h z (by omega), fun z hz => ?_, hs⟩
    ·
     exact hU2d z (by omega) hzd hzk
    by_cases hzj : z = j
    ·
     subst hzj
     rw [if_neg (fun h => h.2 hjk)]
     exact ⟨fun _ => (hV2 z hz).2 (Nat.le_refl _), fun _ => (hV2 z hz).2 (Nat.le_refl _)⟩
    exact ⟨fun h => (hV2 z hz).1 (by omega), fun h => (hV2 z hz).2 (by omega)⟩
   omega
  have hRj0 : 0 <= gi R j := hCh.dn hlt hxd hjk
  have hRj := hSq.mat.ran j hlt
  obtain ⟨r, hr, hri⟩ : ∃ r : Nat, gi R j = (r : Int) /\ r < i := ⟨(gi R j).toNat, by omega, by omega⟩
  have hr' : R.getD j 0 = (r : Int) := hr
  have hrn : r < n := by omega
  have hUr : U2.getD r 0 = gi U r := hU2o r (by omega) fun z hz hzd hzk he => by
   have h5 : gi R z = gi R j := by have := hCh.dn (show z < n by omega) hzd hzk; omega
   have := hSq.mat.inj z j (by omega) hlt h5 (by have := hCh.dn (show z < n by omega) hzd hzk; omega)
   omega
  have b2 : 0 <= gi U r /\ gi U r <= 4503599627370496 := hbU r hrn
  have hVj : V2.getD j 0 = gi V j := (hV2 j hlt).2 (Nat.le_refl _)
  have b3 : -4503599627370496 <= gi V j /\ gi V j <= 0 := hbV j hlt
  have b4 : -4503599627370496 <= reach - D.getD j 0 /\ reach - D.getD j 0 <= 4503599627370496 := hDd j hlt hxd
  refine Wqq (Lmm rfl rfl (Ln rfl (Lf 0 jbB rfl i_3 (Ll o_3 rfl (by exact hold hs (hrd.bx rfl) hrd.nb) ?_))))
  refine jaZ rfl (jaF (by omega)) ?_
  refine Rt (Wt rfl (Ws (Wsq (ja4 (Wq (Lmm rfl rfl (Li jfC i_4 rfl (ja6 _) (by omega) rfl ?_)))))))
  refine Ll o_4 rfl (by exact hs.cellA (i := 6) rfl hxj) ?_
  refine Lm rfl (Gm rfl rfl (Gm rfl rfl (Rw rfl (jk7 rfl (jaF (by omega)) ?_))))
  refine Lpt rfl (Rt (Wt rfl (Wsq (jcH [0, 1, 2, 4, 5, 6, 7, 9, 12, 13, 14, 15] [3, 8, 10, 11, 16, 17, 18, 19] [20] (fun _ _ _ => False) Tryz.mixed (jcQ (by kernel_rfl)) (fun _ _ _ _ _ h => h) hs ?_))))
  refine Pm rfl (Pn rfl (Pfa 3 jbB rfl jd1 (Pm rfl (Pm rfl (Pn rfl (Pfa 3 jbB rfl jd1 (Pm rfl (Pm rfl (Pm rfl (Pm rfl (Pv rfl (fun w => jdC jbK i_2 rfl rfl (ja6 _) (by omega) rfl) ?_)))))))))))
  refine jbH (Hv rfl (fun w hs => jaN jdR rfl (by exact hold hs (hrd.bx rfl) hrd.nb)) ?_)
  refine Hl jdR rfl (fun w hs => (by exact hold hs (hrd.bx rfl) hrd.nb)) ?_
  refine Hx jbK i_2 rfl (ja6 _) (by omega) rfl ?_
  refine Hl o_2 rfl (fun w hs => (by exact hs.cellA (i := 1) rfl (jbZ (by omega)))) ?_
  refine Hl o_2 rfl (fun w hs => (by exact hs.cellA (i := 4) rfl (jaV (by omega)))) ?_
  refine Hv rfl (fun w hs => jkS rfl rfl (ja3 (by omega))) ?_
  refine Hv rfl (fun w hs => jkS rfl rfl (ja3 (by omega))) ?_
  refine Hx jbK i_2 rfl (ja6 _) (by omega) rfl ?_
  refine jb2 ?_
  intro w hs
  refine jaH hs (i := 1) rfl i_2 rfl rfl (by exact jaM _ _) (by simp; omega) rfl ?_
  intro w hs
  dsimp only [sS, sZ, sA, sN] at hs
  refine Rq ?_
  rw [jf2 _ _ _ _ (by omega)] at hs
  refine Lm rfl (Ln rfl (Lf 5 jbB rfl jg2 (Ll jgQ rfl (by exact hold hs (hrd.bx rfl) hrd.nb) ?_)))
  refine Lm rfl (Li jbW i_3 rfl (ja6 _) (by omega) rfl ?_)
  refine Ll o_3 rfl (by exact hs.cellA (i := 3) rfl (jbZ (by omega))) ?_
  rw [hr']
  refine La rfl (Rt (jcH [0, 1, 2, 4, 5, 6, 7, 9, 12, 13, 14, 15] [3, 8, 10, 11, 16, 17, 18, 19] [20] (fun _ _ _ => False) Tryz.mixed (jcQ (by kernel_rfl)) (fun _ _ _ _ _ h => h) hs ?_))
  refine Pm rfl (Pn rfl (Pfa 2 jbB rfl jd1 (Pm rfl (Pm rfl (Pn rfl (Pfa 2 jbB rfl jd1 (Pm rfl (Pm rfl (Pm rfl (Pm rfl (Pv rfl (fun w => jdC jbK i_2 rfl rfl (ja6 _) (by omega) rfl) ?_)))))))))))
  refine jbH (Hv rfl (fun w hs => jaN jdR rfl (by exact hold hs (hrd.bx rfl) hrd.nb)) ?_)
  refine Hl jdR rfl (fun w hs => (by exact hold hs (hrd.bx rfl) hrd.nb)) ?_
  refine Hx jbK i_2 rfl (ja6 _) (by omega) rfl ?_
  refine Hl o_2 rfl (fun w hs => (by exact hs.cellA (i := 0) rfl (jbZ (by omega)))) ?_
  refine Hl o_2 rfl (fun w hs => (by exact hs.cellA (i := 4) rfl (jaV (by omega)))) ?_
  refine Hv rfl (fun w hs => jkS rfl rfl (ja3 (by omega))) ?_
  refine Hv rfl (fun w hs => jk6 rfl rfl (ja3 (by omega))) ?_
  refine Hx jbK i_2 rfl (ja6 _) (by omega) rfl ?_
  refine jb2 ?_
  intro w hs
  refine jaH hs (i := 0) rfl i_2 rfl rfl (by exact jaM _ _) (by simp; omega) rfl ?_
  intro w hs
  dsimp only [sS, sZ, sA, sN] at hs
  refine Rnl (jaB (Nt (Wr (Lm rfl (jbG rfl (ja3 (by omega)) ?_)))))
  refine La rfl (Rnl ?_)
  rw [jf2 _ _ _ _ (by omega)] at hs
  rw [hUr, hVj] at hs
  refine Nq (j + 1, U2.set r (gi U r + (reach - D.getD j 0)), V2.set j (gi V j - (reach - D.getD j 0)), w) [0, 1, 4, 5, 6, 8, 9, 15] rfl ?_ ?_
  ·
   dsimp only
   refine ⟨by omega, by simp [hUl2], by simp [hVl2], ?_, fun z hz hzd hzk => ?_, fun q hq h => ?_, fun z hz => ?_, hs⟩
   ·
    show (U2.set r _).getD i 0 = _
    rw [jfW (by omega), if_neg (by omega)]; exact hU2i
   ·
    show (U2.set r _).getD _ 0 = _
    rw [jfW (by omega)]
    by_cases hzj : z = j
    ·
     subst hzj
     rw [hr, Int.toNat_natCast, if_pos rfl]
    rw [if_neg fun he => hzj (by
     have h5 := hCh.dn (show z < n by omega) hzd hzk
     exact hSq.mat.inj z j (by omega) hlt (by omega) (by omega))]
    exact hU2d z (by omega) hzd hzk
   ·
    show (U2.set r _).getD q 0 = _
    rw [jfW (by omega), if_neg (fun he => h j (by omega) hxd hjk (by omega))]
    exact hU2o q hq fun z hz => h z (by omega)
   show (z < j + 1 -> (V2.set j _).getD z 0 = _) /\ (j + 1 <= z -> (V2.set j _).getD z 0 = _)
   rw [jfW (by omega)]
   by_cases hzj : z = j
   ·
    subst hzj
    rw [if_pos rfl, if_pos ⟨hxd, hjk⟩]
    exact ⟨fun _ => rfl, fun h => absurd h (by omega)⟩
   rw [if_neg hzj]; exact ⟨fun h => (hV2 z hz).1 (by omega), fun h => (hV2 z hz).2 (by omega)⟩
  omega
 obtain rfl : n = j := by omega
 rw [hreach] at hU2i hU2d hV2
 obtain ⟨slack, back, pos, hT, hfrm, hbU2, hbV2⟩ := hCh.fin hin hkn hEk hRk hC (U2 := gi U2) (V2 := gi V2) (fun z hz => (hV2 z hz).1 hz) hU2i hU2d hU2o
 have hA := hT.aug (by omega) (by rw [Int.toNat_natCast]; exact hRk)
 have hMa0 : Ma n i (gi R) (gi M) (k : Int) := ⟨fun z hz _ ho => hMa.inv z hz ho, fun _ => hMa.up i (Nat.le_refl _) hin, fun q hq hqn => hMa.up q (by omega) hqn⟩
 clear hU2i hU2d hV2 hU2o
 refine Wqq (Lmm rfl rfl (Ln rfl (Lf 0 jbB rfl i_3 (Ll o_3 rfl (by exact hold hs (hrd.bx rfl) hrd.nb) ?_))))
 refine jaZ rfl (jaA (by omega)) ?_
 refine Rt (Wf rfl (jaK (ja0 (ja8 (ja1 (Nt (ja4 (jcK (fun (h : Int) (M2 : List Int) (R2 : List Int) (w : World) => [(0, .pointer (some ⟨y.B, 0, none⟩)), (5, .slice (some ⟨gf, 0, none⟩) n n), (8, .int .i64 h)]) (fun h M2 R2 w => w) (fun h M2 R2 w => (M2.length = n) /\ (R2.length = n) /\ (Aug n C i (gi R) (gi U2) (gi V2) (gbo E) pos (gi R2) h) /\ (Ma n i (gi R2) (gi M2) h) /\ (HS w0 w (EnL y U2 V2 M2 R2 gd gf ge D F E))) (fun h M2 R2 w => if h < 0 then 0 else pos h.toNat + 1) ((k : Int)) (M) (R) (w) (is := [0, 5, 8]) rfl rfl ?_ ?_))))))))
 ·
  exact ⟨hMl, hRl, hA, hMa0, hs⟩
 clear hs hA hMa0
 intro h M2 R2 w hI
 show W _ _ _ _ [(0, .pointer (some ⟨y.B, 0, none⟩)), (5, .slice (some ⟨gf, 0, none⟩) n n), (8, .int .i64 h)] w
 obtain ⟨hMl2, hRl2, hA, hMa2, hs⟩ := hI
 by_cases hh : 0 <= h
 ·
  obtain ⟨hn, rfl⟩ := Int.eq_ofNat_of_zero_le hh
  obtain ⟨_, hhn, hhd⟩ := hA.at' (by omega)
  rw [Int.toNat_natCast] at hhn hhd
  obtain ⟨m1, m2, m3, m4⟩ := hA.mates hMa2 hT hin
  obtain ⟨r, hr⟩ : ∃ r, r = ro i (gi R) (back hn) := ⟨_, rfl⟩
  have hFr : F.getD hn 0 = (r : Int) := by rw [hr]; exact hfrm hn hhn hhd
  rw [<- hr] at m1 m2 m3 m4
  have m2' : M2.getD r 0 = back hn := m2
  refine Wqq (Lm rfl (jgM rfl (jaF (by omega)) ?_))
  refine Rt (Wt rfl (Ws (ja4 (Wq (Lmm rfl rfl (Li jbW i_3 rfl (ja6 _) (by omega) rfl ?_))))))
  refine Ll o_3 rfl (by exact hs.cellA (i := 5) rfl (jaV (by omega))) ?_
  rw [hFr]
  refine La rfl (Rq (Lm rfl (Ln rfl (Lf 4 jbB rfl jg2 (Ll jgQ rfl (by exact hold hs (hrd.bx rfl) hrd.nb) ?_)))))
  refine Lm rfl (Li jbW i_3 rfl (ja6 _) (by omega) rfl ?_)
  refine Ll o_3 rfl (by exact hs.cellA (i := 2) rfl (jbZ (by omega))) ?_
  rw [m2']
  refine La rfl (Rq (Lm rfl (Ln rfl (Lf 4 jbB rfl jg2 (Ll jgQ rfl (by exact hold hs (hrd.bx rfl) hrd.nb) ?_)))))
  refine Lmm rfl rfl (Li jbW i_3 rfl (ja6 _) (by omega) rfl ?_)
  refine jaH hs (i := 2) rfl i_3 rfl rfl (by exact jaM _ _) (by simp; omega) rfl ?_
  intro w hs
  dsimp only [sS, sZ, sA, sN] at hs
  refine Rq ?_
  rw [jf2 _ _ _ _ (by omega)] at hs
  -- the row
  refine Lm rfl (Ln rfl (Lf 5 jbB rfl jg2 (Ll jgQ rfl (by exact hold hs (hrd.bx rfl) hrd.nb) ?_)))
  refine Lmm rfl rfl (Li jbW i_3 rfl (ja6 _) (by omega) rfl ?_)
  refine jaH hs (i := 3) rfl i_3 rfl rfl (by exact jaM _ _) (by simp; omega) rfl ?_
  intro w hs
  dsimp only [sS, sZ, sA, sN] at hs
  refine Rr (Lm rfl (La rfl (Rnl (jaB ?_))))
  rw [jf2 _ _ _ _ (by omega)] at hs
  have e1 : ∀ q, gi (R2.set hn (r : Int)) q = if q = hn then (r : Int) else gi R2 q := fun q => jfW (by omega) q
  have e2 : ∀ q, gi (M2.set r (hn : Int)) q = if q = r then (hn : Int) else gi M2 q := fun q => jfW (by omega) q
  obtain ⟨hA', hpp⟩ := hA.step (of'' := gi (R2.set hn (r : Int))) hT hh (by rw [Int.toNat_natCast, e1, if_pos rfl]; exact m3) (fun q hq => by rw [Int.toNat_natCast] at hq; rw [e1, if_neg hq])
  rw [Int.toNat_natCast] at hA' hpp
  have hMa' := m4 (gi (R2.set hn (r : Int))) (gi (M2.set r (hn : Int))) (by rw [e1, if_pos rfl]) (fun q hq => by rw [e1, if_neg hq]) (by rw [e2, if_pos rfl]) (fun q hq => by rw [e2, if_neg hq])
  refine Nq (back hn, M2.set r (hn : Int), R2.set hn (r : Int), w) [0, 5, 8] rfl ?_ ?_
  ·
   dsimp only
   exact ⟨by simp [hMl2], by simp [hRl2], hA', hMa', hs⟩
  show (if back hn < 0 then 0 else pos (back hn).toNat + 1) < if (hn : Int) < 0 then 0 else pos (hn : Int).toNat + 1
  rw [if_neg (show ¬(hn : Int) < 0 by omega), Int.toNat_natCast]
  split
  ·
   omega
  have := hpp (by omega); omega
 obtain rfl : h = -1 := Classical.byContradiction fun hne => by have := (hA.at' hne).1; omega
 have hOv := hA.over hT
 refine Wqq (Lm rfl (jgM rfl (jaA (by omega)) ?_))
 refine Rt (Wf rfl (jaK (ja0 (ja8 (ja1 (jg0 rfl ?_))))))
 exact ⟨_, rfl, U2, V2, M2, R2, HS.dropR hs hO, hUl2, hVl2, hMl2, hRl2, hOv, ⟨fun z hz ho => hMa2.inv z hz (by omega) ho, fun q hq hqn => hMa2.up q (by omega) hqn⟩, hbU2, hbV2⟩
end Go.Proofs.YtffobakdngbadaaGreat