/-
  A part of the proof: laws for walks, and plain laws, over any program of the model. Each theorem holds under its own premises alone.
-/
import Derived.Test.YtffobakdngbadaaGreatKit
import Derived.Test.YtffobakdngbadaaGreatTZH
import Derived.Test.YtffobakdngbadaaGreatP11
namespace Go.Proofs.YtffobakdngbadaaGreat
open Go Go.Lk
structure DIn (w0 w : World) (N : Nat) (d : Dbk) (L A : Bks) (aL : Option Addr) (cL : Nat) : Prop where
 eA : A = d.bks ++ L
 vL : d.vL = .slice aL d.k.os.length cL
 own : Own w0 L -> Own w0 A
 row : d.row ∈ A
 sl : ∀ {w' : World} {L' : Bks}, HS w0 w' L' -> (∀ q ∈ A, q ∈ L') -> SlC w' aL (ocs d.k.os)
theorem Dbk.ok.din {w0 : World} (w : World) {N : Nat} {d : Dbk} (L : Bks) (hd : d.ok w0 N) : ∃ A aL cL, DIn w0 w N d L A aL cL /\ d.k.os.length <= cL := by
 have hbL := hd.bL
 obtain ⟨aL, cL, hvL, hc⟩ := hbL.slice
 refine ⟨d.bks ++ L, aL, cL, ⟨rfl, hvL, fun h => hd.own.app h, List.mem_append_left _ (List.mem_cons_self ..), fun h1 h2 => Bl.slcM (hvL ▸ hbL) h1 (fun p hp => h2 p (List.mem_append_left _ (List.mem_cons_of_mem _ (List.mem_append_left _ hp))))⟩, hc⟩
theorem jqW (w0 w : World) (N : Nat) (d : Dbk) (L : Bks) (id : Int) (hs : HS w0 w (d.bks ++ L)) (hd : d.ok w0 N) :
  Ret Tryz.prog 46 [bv d.B, .int .i64 id] w fun v w' => ((∃ j : Nat, j < d.k.os.length /\ v = .int .i64 j /\ (d.k.os.getD j on0).t.id = id) ∨ (v = .int .i64 (-1) /\ ∀ o ∈ d.k.os, o.t.id ≠ id)) /\ HS w0 w' (d.bks ++ L) := by
 have hcnt := hd.cnt
 obtain ⟨A, aL, cL, ⟨hA, hvL, _, hrow, hsl⟩, _⟩ := hd.din w L
 rw [<- hA] at hs ⊢
 refine ja7 Tryz.func46 rfl rfl rfl (Wq (La rfl (Rqq (La rfl (Rt (ja4 ?_))))))
 refine jd8 (fun (i : Nat) (w : World) => [(0, bv d.B), (1, .int .i64 id), (5, .int .i64 i)]) (fun i w => w) (fun i w => (i <= d.k.os.length) /\ (∀ j, j < i -> (d.k.os.getD j on0).t.id ≠ id) /\ (HS w0 w A)) (fun i w => d.k.os.length - i) (0) (_) (is := [0, 1, 5]) rfl rfl ?_ ?_
 ·
  exact ⟨Nat.zero_le _, fun j hj => absurd hj (Nat.not_lt_zero _), hs⟩
 clear hs
 intro i w hI
 show W _ _ _ _ [(0, bv d.B), (1, .int .i64 id), (5, .int .i64 i)] w
 obtain ⟨hi, hq, hs⟩ := hI
 by_cases hlt : i < d.k.os.length
 ·
  have hao : aL = some (aD aL) := (hsl hs (fun _ h => h)).ao (by rw [jd6]; omega)
  obtain ⟨x, hx⟩ : ∃ x, x = (d.k.os.getD i on0).t.id := ⟨_, rfl⟩
  have hc : w.cell? ((aD aL).add (i * 17 + 0)) = some (.int .i64 x) := (hsl hs (fun _ h => h)).2 _ _ (jm4 hlt (by rw [hx]; rfl))
  by_cases hid : x = id
  ·
   refine Wqq (Lmm rfl rfl (Ln rfl (Lf 6 jeK rfl jq7 ?_)))
   refine Ll o_68 rfl (by exact jb6 hs hrow (j := 6) (by rw [hvL]; rfl)) ?_
   refine Le jhS rfl (jaZ rfl (jaF (by omega)) ?_)
   refine Rt (Wt rfl (Ws (Wsq (ja4 (Wq (Lm rfl (Ln rfl (Lf 6 jeK rfl jq7 ?_))))))))
   refine Ll o_68 rfl (by exact jb6 hs hrow (j := 6) (by rw [hvL]; rfl)) ?_
   refine Lm rfl (LiN jhS je3 rfl (ja6 _) (by omega) hao ?_)
   refine Lf 0 jc9 rfl jcE (Lf 0 jcC rfl i_3 ?_)
   refine Ll o_3 rfl (by (rw [jaR, jaR]; exact hc)) ?_
   refine Lm rfl (jdS rfl (jaF (by omega)) ?_)
   refine Rt (Wt rfl (Wq (Lm rfl (La rfl (Rt (jaW (jaG (ja2 (jc0 (jaG (ja2 (ja9 rfl rfl ?_))))))))))))
   exact ⟨_, rfl, .inl ⟨i, hlt, rfl, by rw [<- hx]; exact hid⟩, hs⟩
  refine Wqq (Lmm rfl rfl (Ln rfl (Lf 6 jeK rfl jq7 ?_)))
  refine Ll o_68 rfl (by exact jb6 hs hrow (j := 6) (by rw [hvL]; rfl)) ?_
  refine Le jhS rfl (jaZ rfl (jaF (by omega)) ?_)
  refine Rt (Wt rfl (Ws (Wsq (ja4 (Wq (Lm rfl (Ln rfl (Lf 6 jeK rfl jq7 ?_))))))))
  refine Ll o_68 rfl (by exact jb6 hs hrow (j := 6) (by rw [hvL]; rfl)) ?_
  refine Lm rfl (LiN jhS je3 rfl (ja6 _) (by omega) hao ?_)
  refine Lf 0 jc9 rfl jcE (Lf 0 jcC rfl i_3 ?_)
  refine Ll o_3 rfl (by (rw [jaR, jaR]; exact hc)) ?_
  refine Lm rfl (jdS rfl (jaA (by omega)) ?_)
  refine Rt (Wf rfl (jaY (jaB (Nt (Wr (Lm rfl (jbG rfl (ja3 (by omega)) ?_)))))))
  refine La rfl (Rnl (Nq (i + 1, _) [0, 1, 5] rfl ?_ ?_))
  ·
   dsimp only
   refine ⟨by omega, fun j hj => ?_, hs⟩
   by_cases hji : j = i
   ·
    rw [hji, <- hx]; exact hid
   exact hq j (by omega)
  omega
 obtain rfl : d.k.os.length = i := by omega
 refine Wqq (Lmm rfl rfl (Ln rfl (Lf 6 jeK rfl jq7 ?_)))
 refine Ll o_68 rfl (by exact jb6 hs hrow (j := 6) (by rw [hvL]; rfl)) ?_
 refine Le jhS rfl (jaZ rfl (jaA (by omega)) ?_)
 refine Rt (Wf rfl (jaK (ja0 (ja8 (ja1 (Nt (Wq (La rfl (Rt (jaW (ja9 rfl rfl ?_)))))))))))
 refine ⟨_, rfl, .inr ⟨rfl, fun o ho => ?_⟩, hs⟩
 obtain ⟨j, hj, rfl⟩ := List.getElem_of_mem ho
 have := hq j hj
 rwa [List.getD_eq_getElem?_getD, List.getElem?_eq_getElem hj] at this
theorem dget_ok (w0 w : World) (N : Nat) (d : Dbk) (L : Bks) (id : Int) (hs : HS w0 w (d.bks ++ L)) (hd : d.ok w0 N) :
  Ret Tryz.prog 22 [bv d.B, .int .i64 id] w fun v w' => ((∃ o ∈ d.k.os, o.t.id = id /\ v = .tuple #[.agg o.t.cells.toArray, .bool true]) ∨ ((∀ o ∈ d.k.os, o.t.id ≠ id) /\ v = .tuple #[.agg trk0.cells.toArray, .bool false])) /\ HS w0 w' (d.bks ++ L) := by
 refine ja7 Tryz.func22 rfl rfl rfl (Wq ?_)
 refine jbL rfl hs jcE ?_; intro b4 w hb4 _ hs; replace hs := HS.push hs
 refine La rfl (Rq ?_)
 obtain ⟨L1, hL1⟩ : ∃ L1, L1 = L ++ [(b4, Row 51 trk0.cells)] := ⟨_, rfl⟩
 replace hs : HS w0 w (d.bks ++ L1) := by
  have h1 : HS w0 w ((b4, Row 51 trk0.cells) :: (d.bks ++ L)) := hs
  rw [hL1]
  exact HS.re h1 (fun c => by simp only [mpA, mpC, mpN, smA, smC, smN]; omega)
 refine Lmm rfl rfl (Lc f_46 rfl (jqW w0 w N d L1 id hs hd) ?_)
 rintro _ w1 ⟨hp, hs1⟩
 clear hs
 have hs : HS w0 w1 ((b4, Row 51 trk0.cells) :: (d.bks ++ L)) := by rw [hL1] at hs1; exact HS.re hs1 (fun c => by simp only [mpA, mpC, mpN, smA, smC, smN]; omega)
 clear hs1
 obtain ⟨A, aL, cL, ⟨hA, hvL, _, hrow, hsl⟩, _⟩ := hd.din w L
 rw [<- hA] at hs ⊢
 have hAm : ∀ {x : Nat × Obj}, ∀ q ∈ A, q ∈ x :: A := fun q hq => List.mem_cons_of_mem _ hq
 have hcnt := hd.cnt
 rcases hp with ⟨j, hj, rfl, hid⟩ | ⟨rfl, hno⟩
 ·
  have hao : aL = some (aD aL) := (hsl hs hAm).ao (by rw [jd6]; omega)
  refine La rfl (Rqq (Lm rfl (jaZ rfl (jaA (by omega)) ?_)))
  refine Rt (Wf rfl (Ws (Wq (Lm rfl (Ln rfl (Lf 6 jeK rfl jq7 ?_))))))
  refine Ll o_68 rfl (by exact jb6 hs (hAm _ hrow) (j := 6) (by rw [hvL]; rfl)) ?_
  refine Lm rfl (LiN jhS je3 rfl (ja6 _) (by omega) hao ?_)
  refine Lf 0 jc9 rfl jcE ?_
  refine jb7 rfl a_51 jcE rfl (by (rw [jaR]; exact on_trk (hsl hs hAm) hj rfl)) ?_
  refine jaQ hs (i := 0) rfl jcE rfl rfl (by rfl) (by simp [Trk.cells]) (by exact Trk.one _) ?_
  intro w hs
  dsimp only [sS, sZ, sA, sN] at hs
  refine La rfl (Rt (jaW (jkW rfl rfl rfl a_51 jcE (by exact jaE (cs := Trk.cells _) (hs.get (i := 0) rfl)) ?_)))
  exact ⟨_, rfl, .inl ⟨_, jc6 hj, hid, rfl⟩, HS.pop hs hb4⟩
 refine La rfl (Rqq (Lm rfl (jaZ rfl (jaF (by omega)) ?_)))
 refine Rt (Wt rfl (Wq (jbE rfl rfl (Pl.built Tryz.pl51 rfl) (jaQ hs (i := 0) rfl jcE rfl rfl (by rfl) (by simp [Trk.cells]) (by exact Trk.one trk0) ?_))))
 intro w hs
 dsimp only [sS, sZ, sA, sN] at hs
 refine La rfl (Rt (jaW (ja2 (jkW rfl rfl rfl a_51 jcE (by exact jaE (cs := trk0.cells) (hs.get (i := 0) rfl)) ?_))))
 exact ⟨_, rfl, .inr ⟨hno, rfl⟩, HS.pop hs hb4⟩
theorem dpast_ok (w0 w : World) (N : Nat) (d : Dbk) (L : Bks) (id : Int) (hs : HS w0 w (d.bks ++ L)) (hd : d.ok w0 N) :
  Ret Tryz.prog 24 [bv d.B, .int .i64 id] w fun v w' => ((∃ o ∈ d.k.os, o.t.id = id /\ v = .tuple #[o.vx, o.vy]) ∨ ((∀ o ∈ d.k.os, o.t.id ≠ id) /\ v = .tuple #[.slice none 0 0, .slice none 0 0])) /\ HS w0 w' (d.bks ++ L) := by
 refine ja7 Tryz.func24 rfl rfl rfl (Wq (La rfl (La rfl (Rq (Lmm rfl rfl (Lc f_46 rfl (jqW w0 w N d L id hs hd) ?_))))))
 rintro _ w1 ⟨hp, hs1⟩
 clear hs
 have hs := hs1
 clear hs1
 obtain ⟨A, aL, cL, ⟨hA, hvL, _, hrow, hsl⟩, _⟩ := hd.din w L
 rw [<- hA] at hs ⊢
 have hcnt := hd.cnt
 rcases hp with ⟨j, hj, rfl, hid⟩ | ⟨rfl, hno⟩
 ·
  have hao : aL = some (aD aL) := (hsl hs (fun _ h => h)).ao (by rw [jd6]; omega)
  obtain ⟨o, ho⟩ : ∃ o, o = d.k.os.getD j on0 := ⟨_, rfl⟩
  rw [<- ho] at hid
  refine La rfl (Rqq (Lm rfl (jaZ rfl (jaA (by omega)) ?_)))
  refine Rt (Wf rfl (Ws (Wsq (jcH [0, 1, 2, 4, 8, 9, 10, 12] [3, 5, 6, 7, 11, 13, 14, 15, 16, 17] [] (fun _ _ _ => False) Tryz.mixed (by kernel_rfl) (fun _ _ _ _ _ h => h) hs ?_))))
  refine Pm rfl (Pn rfl (Pfa 6 jeK rfl jq7 (Pm rfl (Pm rfl (Pn rfl (Pfa 6 jeK rfl jq7 (Pm rfl (jbH ?_))))))))
  refine Hl o_68 rfl (fun w hs => (by exact jb6 hs hrow (j := 6) (by rw [hvL]; rfl))) ?_
  refine Hv rfl (fun w hs => jfZ jhS je3 rfl rfl (ja6 _) (by omega) hao) ?_
  refine Hf 15 jc9 rfl jn1 ?_
  refine Hl o_55 rfl (fun w hs => (by (rw [jaR]; exact (hsl hs (fun _ h => h)).2 _ _ (jm4 (i := j) (q := 15) (v := o.vx) hj (by rw [<- ho]; rfl))))) ?_
  refine Hl o_68 rfl (fun w hs => (by exact jb6 hs hrow (j := 6) (by rw [hvL]; rfl))) ?_
  refine Hv rfl (fun w hs => jfZ jhS je3 rfl rfl (ja6 _) (by omega) hao) ?_
  refine Hf 16 jc9 rfl jn1 ?_
  refine Hl o_55 rfl (fun w hs => (by (rw [jaR]; exact (hsl hs (fun _ h => h)).2 _ _ (jm4 (i := j) (q := 16) (v := o.vy) hj (by rw [<- ho]; rfl))))) ?_
  refine Hv rfl (fun w hs => jbS rfl) ?_
  refine Hv rfl (fun w hs => jbS rfl) ?_
  refine jb2 ?_
  intro w hs
  refine Rt (jaW (jb9 rfl rfl rfl ?_))
  exact ⟨_, rfl, .inl ⟨o, by rw [ho]; exact jc6 hj, hid, rfl⟩, hs⟩
 refine La rfl (Rqq (Lm rfl (jaZ rfl (jaF (by omega)) ?_)))
 refine Rt (Wt rfl (Wq (La rfl (La rfl (Rt (jaW (ja2 (jb9 rfl rfl rfl ?_))))))))
 exact ⟨_, rfl, .inr ⟨hno, rfl⟩, hs⟩
theorem dtracks_ok (w0 w : World) (N : Nat) (d : Dbk) (L : Bks) (hs : HS w0 w (d.bks ++ L)) (hd : d.ok w0 N) :
  Ret Tryz.prog 27 [bv d.B] w fun v w' => ∃ M, HS w0 w' (d.bks ++ L ++ M) /\ Bl w0 51 15 v d.k.os.length (tcs (d.k.os.map On.t)) M := by
 obtain ⟨A, aL, cL, ⟨hA, hvL, _, hrow, hsl⟩, _⟩ := hd.din w L
 rw [<- hA] at hs ⊢
 have hcnt := hd.cnt
 refine ja7 Tryz.func27 rfl rfl rfl (Wq (La rfl (Rq (La rfl (Rqq (La rfl ?_))))))
 refine Rt (ja4 (jcK (fun (i : Nat) (v : Value) (M : Bks) (w : World) => [(0, bv d.B), (3, v), (4, .int .i64 i)]) (fun i v M w => w) (fun i v M w => (i <= d.k.os.length) /\ (HS w0 w (A ++ M)) /\ (Bl w0 51 15 v i (tcs ((d.k.os.take i).map On.t)) M)) (fun i v M w => d.k.os.length - i) (0) (_) ([]) (_) (is := [0, 3, 4]) rfl rfl ?_ ?_))
 ·
  exact ⟨Nat.zero_le _, by rw [List.append_nil]; exact hs, Bl.nil⟩
 clear hs
 intro i v M w hI
 show W _ _ _ _ [(0, bv d.B), (3, v), (4, .int .i64 i)] w
 obtain ⟨hi, hs, hb⟩ := hI
 have hAm : ∀ {R : Bks}, ∀ q ∈ A, q ∈ A ++ R := fun q hq => List.mem_append_left _ hq
 by_cases hlt2 : i < d.k.os.length
 ·
  obtain ⟨o, hoe⟩ : ∃ o, o = d.k.os.getD i on0 := ⟨_, rfl⟩
  have hao : aL = some (aD aL) := (hsl hs hAm).ao (by rw [jd6]; omega)
  refine Wqq (Lmm rfl rfl (Ln rfl (Lf 6 jeK rfl jq7 ?_)))
  refine Ll o_68 rfl (by exact jb6 hs (hAm _ hrow) (j := 6) (by rw [hvL]; rfl)) ?_
  refine Le jhS rfl (jaZ rfl (jaF (by omega)) ?_)
  refine Rt (Wt rfl (Ws (Wsq (ja4 (Wr (Lmm rfl rfl (Ln rfl (Lf 6 jeK rfl jq7 ?_))))))))
  refine Ll o_68 rfl (by exact jb6 hs (hAm _ hrow) (j := 6) (by rw [hvL]; rfl)) ?_
  refine Lm rfl (LiN jhS je3 rfl (ja6 _) (by omega) hao ?_)
  refine Lf 0 jc9 rfl jcE ?_
  refine jb7 rfl a_51 jcE rfl (by (rw [jaR]; exact on_trk (hsl hs hAm) hlt2 hoe)) ?_
  refine jb4 rfl hs jnA jcE rfl (by decide) rfl (by simp [Value.cells, Trk.cells]) ?_
  intro b23 w hb23 hnb23 hs
  have h0 : HS w0 w ((A ++ M) ++ [(b23, Row 51 o.t.cells)]) := by
   have := hs
   simp only [List.flatMap_cons, List.flatMap_nil, List.append_nil] at this
   exact this
  clear hs
  have hs := h0
  clear h0
  refine jb8 (L := A) rfl jnA jcE rfl hs hb23 hb rfl rfl rfl (Trk.one _) (by omega) (by omega) ?_
  intro v' w M' hs hb'
  refine La rfl (Rnl (jaB (Nt (Wr (Lm rfl (jbG rfl (ja3 (by omega)) ?_))))))
  refine La rfl (Rnl (Nq (i + 1, _, M', _) [0, 3, 4] rfl ?_ ?_))
  ·
   dsimp only
   refine ⟨by omega, hs, ?_⟩
   have e : (d.k.os.take (i + 1)).map On.t = (d.k.os.take i).map On.t ++ [o.t] := by
    rw [jcX (j := i) (x := o) (by rw [hoe, List.getElem?_eq_getElem hlt2, List.getD_eq_getElem?_getD, List.getElem?_eq_getElem hlt2]; rfl), List.map_append]; rfl
   rw [e, tcs_app, show tcs [o.t] = o.t.cells by simp [tcs]]
   exact hb'
  omega
 obtain rfl : d.k.os.length = i := by omega
 refine Wqq (Lmm rfl rfl (Ln rfl (Lf 6 jeK rfl jq7 ?_)))
 refine Ll o_68 rfl (by exact jb6 hs (hAm _ hrow) (j := 6) (by rw [hvL]; rfl)) ?_
 refine Le jhS rfl (jaZ rfl (jaA (by omega)) ?_)
 refine Rt (Wf rfl (jaK (ja0 (ja8 (ja1 (Nt (Wq (Lm rfl (La rfl (Rt (jaW (ja9 rfl rfl ?_))))))))))))
 rw [List.take_length] at hb
 exact ⟨_, rfl, M, hs, hb⟩
def jeQ (id : Int) (os : List On) : List On := os.filter fun o => !decide (o.t.id = id)
theorem out_at : ∀ {os : List On} {j : Nat}, (os.map fun o => o.t.id).Nodup -> j < os.length -> jeQ (os.getD j on0).t.id os = os.take j ++ os.drop (j + 1)
 | [], _, _, h => by simp at h
 | o :: os, 0, hn, _ => by
  rw [List.map_cons, List.nodup_cons] at hn
  show jeQ o.t.id (o :: os) = os
  unfold jeQ
  rw [List.filter_cons_of_neg (by simp), List.filter_eq_self]
  intro u hu
  have : u.t.id ≠ o.t.id := fun h => hn.1 (List.mem_map.2 ⟨u, hu, h⟩)
  simp [this]
 | o :: os, j + 1, hn, h => by
  rw [List.map_cons, List.nodup_cons] at hn
  have hj : j < os.length := by simpa using h
  have h1 : (os.getD j on0) ∈ os := jc6 hj
  have h2 : o.t.id ≠ (os.getD j on0).t.id := fun he => hn.1 (List.mem_map.2 ⟨_, h1, he.symm⟩)
  show jeQ (os.getD j on0).t.id (o :: os) = o :: (os.take j ++ os.drop (j + 1))
  rw [<- out_at hn.2 hj]
  unfold jeQ
  rw [List.filter_cons_of_pos (by rw [decide_eq_false h2]; rfl)]
theorem ocs_take (os : List On) (j : Nat) : (ocs os).take (j * 17) = ocs (os.take j) := by
 by_cases h : j <= os.length
 ·
  have e : ocs os = ocs (os.take j) ++ ocs (os.drop j) := by rw [<- jk2, List.take_append_drop]
  rw [e, List.take_left' (by rw [jd6, List.length_take]; omega)]
 rw [List.take_of_length_le (by rw [jd6]; omega), List.take_of_length_le (by omega)]
theorem ocs_drop (os : List On) (j : Nat) : (ocs os).drop (j * 17) = ocs (os.drop j) := by
 by_cases h : j <= os.length
 ·
  have e : ocs os = ocs (os.take j) ++ ocs (os.drop j) := by rw [<- jk2, List.take_append_drop]
  rw [e, List.drop_left' (by rw [jd6, List.length_take]; omega)]
 rw [List.drop_of_length_le (by rw [jd6]; omega), List.drop_of_length_le (by omega)]; rfl
theorem ocs_one' {w0 : World} {os : List On} (h : ∀ o ∈ os, o.okD w0) : ∀ v ∈ ocs os, v.oneCell' = true := fun v hv => by
 obtain ⟨o, ho, hv⟩ := List.mem_flatMap.1 hv
 exact (h o ho).one v hv
set_option maxHeartbeats 2000000 in
theorem ddrop_ok (w0 w : World) (N : Nat) (d : Dbk) (L : Bks) (id : Int) (hs : HS w0 w (d.bks ++ L)) (hd : d.ok w0 N) (hL : Own w0 L) :
  Ret Tryz.prog 21 [bv d.B, .int .i64 id] w fun v w' => ((∃ o ∈ d.k.os, o.t.id = id) /\ v = .int .i64 0 /\ ∃ d' : Dbk, d'.B = d.B /\ d'.k = { d.k with os := jeQ id d.k.os } /\ d'.ok w0 N /\ HS w0 w' (d'.bks ++ L)) ∨ ((∀ o ∈ d.k.os, o.t.id ≠ id) /\ v = .int .i64 190 /\ HS w0 w' (d.bks ++ L)) := by
 refine ja7 Tryz.func21 rfl rfl rfl (Wq (La rfl (Rq (Lmm rfl rfl (Lc f_46 rfl (jqW w0 w N d L id hs hd) ?_)))))
 rintro _ w1 ⟨hp, hs1⟩
 clear hs
 have hs := hs1
 clear hs1
 obtain ⟨A, aL, cL, ⟨hA, hvL, hAo, hrow, hsl⟩, hcL⟩ := hd.din w L
 have hcnt := hd.cnt
 rcases hp with ⟨j, hj, rfl, hid⟩ | ⟨rfl, hno⟩
 ·
  rw [<- hA] at hs
  have hAo := hAo hL
  have hao : aL = some (aD aL) := (hsl hs (fun _ h => h)).ao (by rw [jd6]; omega)
  have hc1 : ∀ {w' : World} {R : Bks}, HS w0 w' (A ++ R) -> jbF w' (aD aL) (ocs (d.k.os.take j)) := fun h z v hv => by
   have h1 := (hsl h (fun q hq => List.mem_append_left _ hq)).2 z v
   rw [<- ocs_take] at hv
   rw [List.getElem?_take] at hv
   split at hv
   ·
    exact h1 hv
   cases hv
  have hc2 : ∀ {w' : World} {R : Bks}, HS w0 w' (A ++ R) -> jbF w' ((aD aL).add ((j + 1) * 17)) (ocs (d.k.os.drop (j + 1))) := fun h z v hv => by
   have h1 := (hsl h (fun q hq => List.mem_append_left _ hq)).2 ((j + 1) * 17 + z) v
   rw [<- ocs_drop, List.getElem?_drop] at hv
   rw [jaR]
   exact h1 hv
  refine La rfl (Rqq (Lm rfl (jaZ rfl (jaA (by omega)) ?_)))
  refine Rt (Wf rfl (Ws (Wq (La rfl (Rq (Lmm rfl rfl (Ln rfl (Lf 6 jeK rfl jq7 ?_))))))))
  refine Ll o_68 rfl (by exact jb6 hs hrow (j := 6) (by rw [hvL]; rfl)) ?_
  refine Lm rfl (jaT rfl (jgH jhS je3 rfl rfl (show ((j : Nat) : Int) = ((j : Nat) : Int) from rfl) (by omega)) ?_)
  have hs1 : HS w0 w1 (A ++ []) := by rw [List.append_nil]; exact hs
  refine jn7 rfl jhS je3 rfl hs1 Bl.nil rfl (by rw [hao]; rfl) (show (ocs (d.k.os.take j)).length = j * 17 by rw [jd6, List.length_take]; omega) (hc1 hs1) (ocs_one' (fun o ho => hd.each o (List.mem_of_mem_take ho))) (by omega) (by omega) ?_
  intro v1 w2 M1 hs2 hb1
  clear hs hs1
  have hs := hs2
  clear hs2
  rw [Nat.zero_add, List.nil_append] at hb1
  obtain ⟨ad, had, hadc⟩ : ∃ ad, slA aL (j + 1) cL 17 = some ad /\ ∀ {w' : World} {R : Bks}, HS w0 w' (A ++ R) -> jbF w' ad (ocs (d.k.os.drop (j + 1))) := by
   unfold slA
   by_cases hcj : cL = j + 1
   ·
    rw [if_pos hcj, hao]
    refine ⟨_, rfl, fun h z v hv => ?_⟩
    rw [List.drop_of_length_le (by omega)] at hv
    cases hv
   rw [if_neg hcj, hao]
   exact ⟨_, rfl, fun h => by have := hc2 h; rwa [hao] at this⟩
  refine La rfl (Rq (Lmm rfl rfl (Lm rfl (Ln rfl (Lf 6 jeK rfl jq7 ?_)))))
  refine Ll o_68 rfl (by exact jb6 hs (List.mem_append_left _ hrow) (j := 6) (by rw [hvL]; rfl)) ?_
  refine Lm rfl (jbG rfl (ja3 (by omega)) ?_)
  refine jaT rfl (jgG jhS je3 rfl rfl (show ((j : Nat) : Int) + 1 = ((j + 1 : Nat) : Int) by omega) (by omega)) ?_
  refine jn7 rfl jhS je3 rfl hs hb1 rfl (by rw [<- had]; rfl) (show (ocs (d.k.os.drop (j + 1))).length = (d.k.os.length - (j + 1)) * 17 by rw [jd6, List.length_drop]) (hadc hs) (ocs_one' (fun o ho => hd.each o (List.mem_of_mem_drop ho))) (by omega) (by omega) ?_
  intro v2 w3 M2 hs2 hb2
  clear hs
  obtain ⟨av, cv, rfl, _⟩ := hb2.slice
  rw [<- jk2, show j + (d.k.os.length - (j + 1)) = (d.k.os.take j ++ d.k.os.drop (j + 1)).length by rw [List.length_append, List.length_take, List.length_drop]; omega] at hb2
  obtain ⟨os', hos'⟩ : ∃ os', os' = d.k.os.take j ++ d.k.os.drop (j + 1) := ⟨_, rfl⟩
  have hout : jeQ id d.k.os = os' := by rw [hos', <- hid]; exact out_at hd.nd hj
  have hln : j + (d.k.os.length - (j + 1)) = os'.length := by rw [hos', List.length_append, List.length_take, List.length_drop]; omega
  rw [<- hos'] at hb2
  rw [hln]
  obtain ⟨o, ho⟩ : ∃ o, o = d.k.os.getD j on0 := ⟨_, rfl⟩
  have hom : o ∈ d.k.os := by rw [ho]; exact jc6 hj
  have hsplit : d.k.os = d.k.os.take j ++ o :: d.k.os.drop (j + 1) := by rw [ho]; exact split_at hj
  have hob : obx d.k.os = obx (d.k.os.take j) ++ (oM o ++ obx (d.k.os.drop (j + 1))) := by
   have h1 := congrArg obx hsplit
   rw [jnU] at h1
   exact h1
  have hs : HS w0 w3 ((d.B, Row 70 (jcA d.k.r d.vL d.la d.any d.k.next)) :: ((d.ML ++ (obx (d.k.os.take j) ++ (oM o ++ obx (d.k.os.drop (j + 1))))) ++ (L ++ M2))) := by
   rw [hA] at hs2
   have h1 : HS w0 w3 (((d.B, Row 70 (jcA d.k.r d.vL d.la d.any d.k.next)) :: (d.ML ++ obx d.k.os)) ++ L ++ M2) := hs2
   rw [hob] at h1
   exact HS.re h1 (fun c => by simp only [mpA, mpC, mpN, smA, smC, smN]; omega)
  clear hs2
  refine Ln rfl (Lf 6 jeK rfl jq7 ?_)
  refine jaH hs (i := 0) rfl jq7 rfl rfl (show _ = Addr.mk d.B 6 none from rfl) (by exact (by decide : (6 : Nat) < 10)) rfl ?_; intro w hs
  refine Rq (La rfl (Rt (jaW (ja9 rfl rfl ?_))))
  have hsub : ∀ u ∈ os', u ∈ d.k.os := fun u hu => by
   rw [hos'] at hu
   rcases List.mem_append.1 hu with hu | hu
   ·
    exact List.mem_of_mem_take hu
   exact List.mem_of_mem_drop hu
  refine ⟨_, rfl, .inl ⟨⟨o, hom, by rw [ho]; exact hid⟩, rfl, ⟨d.B, { d.k with os := os' }, .slice av os'.length cv, M2, d.la, d.any⟩, rfl, by rw [hout], ?_, ?_⟩⟩
  ·
   exact ⟨hd.B, hb2, fun u hu => hd.each u (hsub u hu), by
    show (os'.map fun o => o.t.id).Nodup
    rw [<- hout]
    exact hd.nd.sublist (List.filter_sublist.map _), fun u hu => hd.low u (hsub u hu), hd.next1, hd.next2, fun u hu => hd.hist u (hsub u hu), hd.rul, by show os'.length <= 256; omega, hd.any⟩
  have h1 : HS w0 w ((d.B, Row 70 (jcA d.k.r (.slice av os'.length cv) d.la d.any d.k.next)) :: ((d.ML ++ (obx (d.k.os.take j) ++ (oM o ++ obx (d.k.os.drop (j + 1))))) ++ (L ++ M2))) := hs
  have h2 : HS w0 w ((d.ML ++ oM o) ++ (((d.B, Row 70 (jcA d.k.r (.slice av os'.length cv) d.la d.any d.k.next)) :: (M2 ++ (obx (d.k.os.take j) ++ obx (d.k.os.drop (j + 1))))) ++ L)) := HS.re h1 (fun c => by simp only [mpA, mpC, mpN, smA, smC, smN]; omega)
  have h3 := HS.dropL h2 (hd.bL.own.app (hd.each o hom).own)
  rw [<- jnU, <- hos'] at h3
  exact h3
 refine La rfl (Rqq (Lm rfl (jaZ rfl (jaF (by omega)) ?_)))
 refine Rt (Wt rfl (Wq (La rfl (Rt (jaW (ja2 (ja9 rfl rfl ?_)))))))
 exact ⟨_, rfl, .inr ⟨hno, rfl, hs⟩⟩
end Go.Proofs.YtffobakdngbadaaGreat
namespace Go.Proofs.YtffobakdngbadaaGreat
open Go Go.Lk Go.Pr
theorem capL_eq {xs ys : List Stt} {s t : Stt} (h : xs.map Stt.c = ys.map Stt.c) (e : s.c = t.c) : (jeX (xs ++ [s])).map Stt.c = (jeX (ys ++ [t])).map Stt.c := by
 have hl : xs.length = ys.length := by have := congrArg List.length h; rwa [List.length_map, List.length_map] at this
 unfold jeX
 rw [List.map_drop, List.map_drop, List.map_append, List.map_append, h, List.map_singleton, List.map_singleton, e, List.length_append, List.length_append, hl]; rfl
structure OEq (o u : On) : Prop where
 t : TEq o.t u.t
 xs : o.xs.map Stt.c = u.xs.map Stt.c
 ys : o.ys.map Stt.c = u.ys.map Stt.c
def PqE (p q : Pq) : Prop := cn p.x = cn q.x /\ cn p.y = cn q.y
def PltE (l m : Plt) : Prop := l.r = m.r /\ l.b = m.b
theorem AheadR.eq {time q : Nat} {o o' u u' : On} (h : AheadR time q o o') (h' : AheadR time q u u') (he : OEq o u) : OEq o' u' := by
 obtain ⟨x, y, hx, hy, rfl⟩ := h
 obtain ⟨x', y', hx', hy', rfl⟩ := h'
 have et : cn (fop .sub time o.t.last) = cn (fop .sub time u.t.last) := by rw [ja5 (x := time) rfl he.t.last]
 exact ⟨⟨he.t.id, he.t.kind, he.t.seen, he.t.steps, he.t.last, by show x.c = x'.c; rw [hx, hx', jd3 he.t.x et], by show y.c = y'.c; rw [hy, hy', jd3 he.t.y et]⟩, he.xs, he.ys⟩
theorem All2.two {α β γ δ : Type} {R : α -> β -> Prop} {S : γ -> δ -> Prop} {P : α -> γ -> Prop} {Q : β -> δ -> Prop} (hr : ∀ a b c d, R a b -> S c d -> P a c -> Q b d) :
  ∀ {l : List α} {m : List β} {l' : List γ} {m' : List δ}, All2 R l m -> All2 S l' m' -> All2 P l l' -> All2 Q m m'
 | _, _, _, _, .nil, h2, h3 => by cases h3; cases h2; exact .nil
 | _, _, _, _, .cons a1 h1, h2, h3 => by
  cases h3 with
  | cons c1 h3 =>
   cases h2 with
   | cons b1 h2 => exact .cons (hr _ _ _ _ a1 b1 c1) (All2.two hr h1 h2 h3)
theorem All2.filt {α β : Type} {R : α -> β -> Prop} {p : α -> Bool} {q : β -> Bool} (hp : ∀ a b, R a b -> p a = q b) : ∀ {l : List α} {m : List β}, All2 R l m -> All2 R (l.filter p) (m.filter q)
 | _, _, .nil => .nil
 | a :: _, b :: _, .cons h1 h => by
  rw [List.filter_cons, List.filter_cons, hp a b h1]
  split
  ·
   exact .cons h1 (All2.filt hp h)
  exact All2.filt hp h
theorem All2.app {α β : Type} {R : α -> β -> Prop} : ∀ {l : List α} {m : List β} {l' : List α} {m' : List β}, All2 R l m -> All2 R l' m' -> All2 R (l ++ l') (m ++ m')
 | _, _, _, _, .nil, h2 => h2
 | _, _, _, _, .cons a h1, h2 => .cons a (All2.app h1 h2)
theorem All2.map2 {α β γ : Type} {R : α -> β -> Prop} {f : α -> γ} {g : β -> γ} (h : ∀ a b, R a b -> f a = g b) : ∀ {l : List α} {m : List β}, All2 R l m -> l.map f = m.map g
 | _, _, .nil => rfl
 | _, _, .cons a h1 => by rw [List.map_cons, List.map_cons, h _ _ a, All2.map2 h h1]
theorem All2.refl {α : Type} {R : α -> α -> Prop} (h : ∀ a, R a a) : ∀ l : List α, All2 R l l
 | [] => .nil
 | a :: l => .cons (h a) (All2.refl h l)
theorem All2.zip {α β γ : Type} {R : α -> β -> Prop} : ∀ {l : List α} {m : List β} (ms : List γ), All2 R l m -> All2 (fun z w => R z.1 w.1 /\ z.2 = w.2) (l.zip ms) (m.zip ms)
 | _, _, _, .nil => by simpa using All2.nil
 | _, _, [], .cons _ _ => by simpa using All2.nil
 | _, _, x :: ms, .cons a h1 => .cons ⟨a, rfl⟩ (All2.zip ms h1)
theorem All2.left {α β : Type} {R : α -> β -> Prop} : ∀ {l : List α} {m : List β}, All2 R l m -> ∀ a ∈ l, ∃ b ∈ m, R a b
 | _, _, .nil, a, h => by cases h
 | _, _, .cons h1 h, a, ha => by
  rcases List.mem_cons.1 ha with rfl | ha
  ·
   exact ⟨_, List.mem_cons_self .., h1⟩
  obtain ⟨b, hb, hr⟩ := All2.left h a ha
  exact ⟨b, List.mem_cons_of_mem _ hb, hr⟩
theorem PtOk.eq {l m : Plt} {p q : Pq} (h : PtOk l p) (h' : PtOk m q) (he : PltE l m) : PqE p q := by
 obtain ⟨e1, e2⟩ := he
 have ex : ptX l = ptX m := by unfold ptX; rw [e1, e2]
 have ey : ptY l = ptY m := by unfold ptY; rw [e1, e2]
 exact ⟨by rw [h.1, h'.1, ex], by rw [h.2, h'.2, ey]⟩
theorem costRow_eq {r : Rul} {ps qs : List Pq} {o u : On} (hp : All2 PqE ps qs) (he : OEq o u) : jc2 r ps o = jc2 r qs u :=
 All2.map2 (fun _ _ h => jk4 he.t.x he.t.y h.1 h.2) hp
theorem costRows_eq {r : Rul} {ps qs : List Pq} {os us : List On} (hp : All2 PqE ps qs) (he : All2 OEq os us) : jbX r ps os = jbX r qs us :=
 All2.map2 (fun _ _ h => costRow_eq hp h) he
theorem All2.getE {ps qs : List Pq} (hp : All2 PqE ps qs) (i : Nat) : PqE (ps.getD i pq0) (qs.getD i pq0) := by
 by_cases h : i < ps.length
 ·
  exact hp.at h
 rw [List.getD_eq_getElem?_getD, List.getD_eq_getElem?_getD, List.getElem?_eq_none (by omega), List.getElem?_eq_none (by rw [hp.len]; omega)]; exact ⟨rfl, rfl⟩
theorem endT_eq {r : Rul} {t u : Trk} {time : Nat} (h : TEq t u) : TEq (endT r t time) (endT r u time) := by
 obtain ⟨h1, h2, h3, h4, h5, h6, h7⟩ := h
 exact ⟨h1, by show jeC r t.kind t.seen (t.steps + 1) = jeC r u.kind u.seen (u.steps + 1); rw [h2, h3, h4], h3, by show t.steps + 1 = u.steps + 1; rw [h4], rfl, h6, h7⟩
theorem HitR.eq {r : Rul} {time : Nat} {ps qs : List Pq} {z w : On × Int} {o u : On} (h : HitR r time ps z o) (h' : HitR r time qs w u) (hp : All2 PqE ps qs) (he : OEq z.1 w.1 /\ z.2 = w.2) : OEq o u := by
 obtain ⟨t, h1, _, _, h4, h5, h6⟩ := h
 obtain ⟨t', h1', _, _, h4', h5', h6'⟩ := h'
 obtain ⟨e, e2⟩ := he
 have ht : TEq t t' := by
  rw [e2] at h1
  split at h1
  ·
   rename_i hw
   rw [if_pos hw] at h1'
   obtain ⟨x, y, hx, hy, rfl⟩ := h1
   obtain ⟨x', y', hx', hy', rfl⟩ := h1'
   have hq := All2.getE hp w.2.toNat
   exact ⟨e.t.id, e.t.kind, by show jnS (jcF z.1.t.seen) = jnS (jcF w.1.t.seen); rw [e.t.seen], e.t.steps, e.t.last, by show x.c = x'.c; rw [hx, hx', jnD e.t.x hq.1], by show y.c = y'.c; rw [hy, hy', jnD e.t.y hq.2]⟩
  rename_i hw
  rw [if_neg hw] at h1'
  subst h1
  subst h1'
  exact ⟨e.t.id, e.t.kind, by show jcF z.1.t.seen = jcF w.1.t.seen; rw [e.t.seen], e.t.steps, e.t.last, e.t.x, e.t.y⟩
 exact ⟨by rw [h4, h4']; exact endT_eq ht, by rw [h5, h5']; exact capL_eq e.xs ht.x, by rw [h6, h6']; exact capL_eq e.ys ht.y⟩
theorem hits_eq : ∀ {zs ws : List (On × Int)} {told : List Int}, All2 (fun z w => OEq z.1 w.1 /\ z.2 = w.2) zs ws -> zs.foldl jmT told = ws.foldl jmT told
 | _, _, _, .nil => rfl
 | z :: _, u :: _, told, .cons ⟨a, b⟩ h => by
  have e : jmT told z = jmT told u := by unfold jmT; rw [b, a.t.id]
  rw [List.foldl_cons, List.foldl_cons, e]
  exact hits_eq h
structure NSE (s u : NS) : Prop where
 os : All2 OEq s.os u.os
 next : s.next = u.next
 told : s.told = u.told
theorem NewsTo.eq {r : Rul} {time : Nat} {ps qs : List Pq} {s s' : NS} {j : Nat} {u u' : NS} (hp : All2 PqE ps qs) (he : NSE s s') (h : NewsTo r time ps s j u) (h' : NewsTo r time qs s' j u') : NSE u u' := by
 induction j generalizing u u' with
 | zero => rw [h.zero_inv, h'.zero_inv]; exact he
 | succ j ih =>
  obtain ⟨v, hv, hc⟩ := h.succ_inv
  obtain ⟨v', hv', hc'⟩ := h'.succ_inv
  have e := ih hv hv'
  have hl := e.os.len
  rcases hc with ⟨hc, rfl⟩ | ⟨hc, o, h1, h2, h3, h4, rfl⟩
  ·
   rcases hc' with ⟨_, rfl⟩ | ⟨hc', _⟩
   ·
    exact e
   exact absurd (by rw [<- e.told, hl]; exact hc) hc'
  rcases hc' with ⟨hc', _⟩ | ⟨_, o', h1', h2', h3', h4', rfl⟩
  ·
   exact absurd (by rw [e.told, <- hl]; exact hc') hc
  have hq := All2.getE hp j
  have hn : TEq (jmR r v.next (ps.getD j pq0)) (jmR r v'.next (qs.getD j pq0)) := ⟨e.next, rfl, rfl, rfl, rfl, jgN hq.1, jgN hq.2⟩
  refine ⟨e.os.app (.cons ⟨by rw [h2, h2']; exact endT_eq hn, by rw [h3, h3', List.map_singleton, List.map_singleton, hn.x], by rw [h4, h4', List.map_singleton, List.map_singleton, hn.y]⟩ .nil), by show v.next + 1 = v'.next + 1; rw [e.next], by show v.told.set j v.next = v'.told.set j v'.next; rw [e.next, e.told]⟩
structure BEq (k k' : Bok) : Prop where
 r : k.r = k'.r
 os : All2 OEq k.os k'.os
 next : k.next = k'.next
 last : k.last = k'.last
theorem StepTo.uniq {k1 k2 k1' k2' : Bok} {time : Nat} {l1 l2 : List Plt} {told1 told2 : List Int} {os1 os2 : List On} {ps1 ps2 : List Pq} {ms1 ms2 : List Int} {os3 os4 : List On} (hb : BEq k1 k2) (hl : All2 PltE l1 l2)
  (h1 : StepTo k1 time l1 k1' told1 os1 ps1 ms1 os3) (h2 : StepTo k2 time l2 k2' told2 os2 ps2 ms2 os4) : BEq k1' k2' /\ told1 = told2 := by
 have hps : All2 PqE ps1 ps2 := All2.two (fun _ _ _ _ a b c => a.eq b c) h1.pts h2.pts hl
 have hf : All2 OEq (k1.os.filter jcB) (k2.os.filter jcB) := All2.filt (fun a b h => by unfold jcB; rw [h.t.kind]) hb.os
 have ho : All2 OEq os1 os2 := All2.two (fun _ _ _ _ a b c => a.eq (by rw [hb.r]; exact b) c) h1.ahead h2.ahead hf
 obtain ⟨_, _, hm1⟩ := h1.most
 obtain ⟨_, _, hm2⟩ := h2.most
 rw [hb.r, costRows_eq hps ho] at hm1
 obtain ⟨rfl, _⟩ := MostAns.uniq hm1 hm2
 have hz := ho.zip ms1
 have h3 : All2 OEq os3 os4 := All2.two (fun _ _ _ _ a b c => a.eq (by rw [hb.r]; exact b) hps c) h1.hits h2.hits hz
 have hn1 := h1.news
 have hn2 := h2.news
 have hll := hl.len
 rw [hb.r] at hn1
 rw [hll] at hn2
 have := hn1.eq hps (⟨h3, hb.next, hits_eq hz⟩ : NSE ⟨os3, k1.ck, k1.next, _⟩ ⟨os4, k2.ck, k2.next, _⟩) hn2
 exact ⟨⟨by rw [h1.samer, h2.samer, hb.r], this.os, this.next, by rw [h1.last, h2.last]⟩, this.told⟩
structure Once (k k' : Bok) (n : Nat) (told : List Int) : Prop where
 len : told.length = n
 ex : ∀ q, told.getD q 0 ≠ 0 -> ∃ o ∈ k'.os, o.t.id = told.getD q 0 /\ o.t.seen % 2 = 1
 inj : ∀ p q, p < q -> told.getD p 0 = told.getD q 0 -> told.getD q 0 = 0
 nw : ∀ q, told.getD q 0 ≠ 0 -> (∀ o ∈ k.os, o.t.id ≠ told.getD q 0) -> k.next <= told.getD q 0
 asc : ∀ p q, p < q -> k.next <= told.getD p 0 -> k.next <= told.getD q 0 -> told.getD p 0 < told.getD q 0
 low : ∀ q, told.getD q 0 < k'.next
end Go.Proofs.YtffobakdngbadaaGreat
namespace Go.Proofs.YtffobakdngbadaaGreat
open Go Go.Lk
theorem mdel_out : ∀ (os : List On) (id : Int), (os.map fun o => o.t.id).Nodup -> mdel id (os.map jc1) = (jeQ id os).map jc1
 | [], _, _ => rfl
 | o :: os, id, hn => by
  rw [List.map_cons, List.nodup_cons] at hn
  show (if (jc1 o).1 = id then os.map jc1 else jc1 o :: mdel id (os.map jc1)) = _
  unfold jeQ
  by_cases h : o.t.id = id
  ·
   rw [if_pos (show (jc1 o).1 = id from h), List.filter_cons_of_neg (by rw [decide_eq_true h]; decide)]
   have : os.filter (fun o => !decide (o.t.id = id)) = os := by
    rw [List.filter_eq_self]
    intro u hu
    have : u.t.id ≠ id := fun he => hn.1 (List.mem_map.2 ⟨u, hu, by rw [he, h]⟩)
    rw [decide_eq_false this]; rfl
   rw [this]
  rw [if_neg (show ¬ (jc1 o).1 = id from h), List.filter_cons_of_pos (by rw [decide_eq_false h]; rfl), List.map_cons, mdel_out os id hn.2]
  unfold jeQ; rfl
theorem jqY {id : Int} {os : List On} : ∀ o ∈ jeQ id os, o ∈ os := fun _ h => (List.mem_filter.1 h).1
theorem Bok.ok.out {w0 : World} {N : Nat} {k : Bok} (h : k.ok w0 N) (id : Int) : Bok.ok w0 N { k with os := jeQ id k.os } := by
 have hs : (jeQ id k.os).Sublist k.os := List.filter_sublist
 refine ⟨h.B, h.mb, fun o ho => h.each o (jqY o ho), ?_, fun o ho => h.low o (jqY o ho), h.next1, h.next2, fun o ho => h.hist o (jqY o ho), h.rul, Nat.le_trans hs.length_le h.cnt⟩
 have he := h.ents
 have hse : ((jeQ id k.os).map jc1).Sublist (k.os.map jc1) := hs.map _
 exact ⟨he.asc.sublist (hse.map _), fun x hx => he.rng x (hse.subset hx), fun x hx => he.born x (hse.subset hx), he.nd.sublist (hse.map _), Nat.le_trans hse.length_le he.len⟩
theorem drop_some (w0 w : World) (N : Nat) (k : Bok) (L : Bks) (o : On) (hs : HS w0 w (k.bks ++ L)) (hk : k.ok w0 N) (ho : o ∈ k.os) :
  Ret Tryz.prog 16 [bv k.B, .int .i64 o.t.id] w fun v w' => v = .int .i64 0 /\ HS w0 w' (Bok.bks { k with os := jeQ o.t.id k.os } ++ L) := by
 obtain ⟨id, hid⟩ : ∃ id, id = o.t.id := ⟨_, rfl⟩
 have hg := Bok.get hk ho
 have hnd : (k.os.map fun o => o.t.id).Nodup := by rw [<- k.ids]; exact hk.ents.keys
 rw [<- hid] at hg ⊢
 replace hs : HS w0 w (k.row :: (k.mb, jeY (Value.int .i64) pv k.ents k.ck) :: (obs k.os ++ L)) := hs
 refine ja7 Tryz.func16 rfl rfl rfl (Wq (La rfl (Rt (Wsq (ja4 (Wq (Lm rfl (jcV rfl u_28 rfl rfl (La rfl (Rt ?_))))))))))
 refine Wf rfl (Wq (Lm rfl (Ln rfl (Lf 6 jfS rfl i_63 (Ll o_63 rfl (by exact hs.cellA (i := 0) (j := 6) rfl rfl) ?_)))))
 refine Lm rfl ?_
 refine jf4 (k := id) (ev := pv) (z := .pointer none) rfl K3 jpY i_77 (hs.get (i := 1) rfl) rfl rfl ?_; rw [hg]
 refine jcV rfl u_77 rfl rfl (La rfl (Rt (Wf rfl (jaY (jaB (Nt (Wq (Lm rfl (Ln rfl (Lf 6 jfS rfl i_63 (Ll o_63 rfl (by exact hs.cellA (i := 0) (j := 6) rfl rfl) ?_)))))))))))
 refine Lm rfl ?_
 refine L_mdel hs (i := 1) (k := id) rfl K3 jpY rfl rfl ?_; intro w hs
 refine Rq (La rfl (Rt (jaW (ja9 rfl rfl ?_))))
 refine ⟨_, rfl, rfl, ?_⟩
 have h1 : HS w0 w (k.row :: (k.mb, jeY (Value.int .i64) pv (mdel id k.ents) k.ck) :: (obs k.os ++ L)) := hs
 rw [show mdel id k.ents = (jeQ id k.os).map jc1 from mdel_out k.os id hnd] at h1
 have h2 : HS w0 w (obs k.os ++ (k.row :: (k.mb, jeY (Value.int .i64) pv ((jeQ id k.os).map jc1) k.ck) :: L)) := HS.re h1 (fun c => by simp only [mpA, mpC, mpN, smA, smC, smN]; omega)
 have h3 : HS w0 w (obs (jeQ id k.os) ++ (k.row :: (k.mb, jeY (Value.int .i64) pv ((jeQ id k.os).map jc1) k.ck) :: L)) := HS.alive (p := fun o => !decide (o.t.id = id)) h2 hk.each
 have h4 : HS w0 w (k.row :: (k.mb, jeY (Value.int .i64) pv ((jeQ id k.os).map jc1) k.ck) :: (obs (jeQ id k.os) ++ L)) := HS.re h3 (fun c => by simp only [mpA, mpC, mpN, smA, smC, smN]; omega)
 exact h4
theorem scs_get : ∀ {ts : List Stt} {i q : Nat} {v : Value}, i < ts.length -> (ts.getD i stt0).cells[q]? = some v -> (scs ts)[i * 5 + q]? = some v
 | t :: ts, 0, q, v, _, h => by
  show (t.cells ++ scs ts)[0 * 5 + q]? = some v
  rw [Nat.zero_mul, Nat.zero_add]
  have hq : q < t.cells.length := (List.getElem?_eq_some_iff.1 h).1
  rw [List.getElem?_append_left hq]; exact h
 | t :: ts, i + 1, q, v, hi, h => by
  show (t.cells ++ scs ts)[(i + 1) * 5 + q]? = some v
  have hl : t.cells.length = 5 := rfl
  rw [List.getElem?_append_right (by omega), show (i + 1) * 5 + q - t.cells.length = i * 5 + q by omega]
  exact scs_get (by simpa using hi) h
theorem stt_at {w : World} {a : Option Addr} {ts : List Stt} (h : SlC w a (scs ts)) {i : Nat} (hi : i < ts.length) : jbF w ((aD a).add (i * 5)) (ts.getD i stt0).cells := h.sub fun _ _ hv => scs_get hi hv
theorem jkB (a b : Option Addr) (n c e : Nat) (xs ys : List Stt) (h : xs.map Stt.c = ys.map Stt.c) (w0 : World) (ha : SlC w0 a (scs xs)) (hb : SlC w0 b (scs ys)) (hn : xs.length = n) (hn2 : n <= 1000000) :
  Ret Tryz.prog 25 [.slice a n c, .slice b n e] w0 fun v w' => v = .bool true /\ HS w0 w' [] := by
 have hyl : ys.length = n := by
  have := congrArg List.length h
  rw [List.length_map, List.length_map] at this
  omega
 refine Ret.start fun w hs => ?_
 refine ja7 Tryz.func25 rfl rfl rfl (Wq (La rfl (Rqq (Lm rfl (Le jkX rfl (Lm rfl (Le jkX rfl (jk7 rfl (jaA (by omega)) ?_))))))))
 refine Rt (Wf rfl (Ws (Wqq (La rfl (Rt (ja4 (jd8 (fun (i : Nat) (w : World) => [(0, .slice a n c), (1, .slice b n e), (5, .int .i64 i)]) (fun i w => w) (fun i w => (i <= n) /\ (HS w0 w [])) (fun i w => n - i) (0) (_) (is := [0, 1, 5]) rfl rfl ?_ ?_)))))))
 ·
  exact ⟨Nat.zero_le _, hs⟩
 clear hs
 intro i w hI
 show W _ _ _ _ [(0, .slice a n c), (1, .slice b n e), (5, .int .i64 i)] w
 obtain ⟨hi, hs⟩ := hI
 by_cases hlt : i < n
 ·
  have ha' := (ha.old hs Own.nil).ao (by rw [jqN]; omega)
  have hb' := (hb.old hs Own.nil).ao (by rw [jqN]; omega)
  have hc : (xs.getD i stt0).c = (ys.getD i stt0).c := by
   have h1 := congrArg (fun l => l[i]?) h
   simp only [List.getElem?_map] at h1
   rw [List.getElem?_eq_getElem (by omega), List.getElem?_eq_getElem (by omega)] at h1
   rw [List.getD_eq_getElem?_getD, List.getElem?_eq_getElem (by omega), List.getD_eq_getElem?_getD, List.getElem?_eq_getElem (by omega)]
   exact Option.some.inj h1
  refine Wqq (Lmm rfl rfl (Le jkX rfl (jaZ rfl (jaF (by omega)) ?_)))
  refine Rt (Wt rfl (Ws (Wsq (ja4 (Wsq (jcH [0, 1, 2, 4, 5, 6] [3, 7] [8, 9] (fun _ _ _ => False) Tryz.mixed (by kernel_rfl) (fun _ _ _ _ _ h => h) hs ?_))))))
  refine Pm rfl (Pm rfl (Pv rfl (fun w => jfZ jkX jbP rfl rfl (ja6 _) (by omega) ha') ?_))
  refine Pm rfl (Pm rfl (Pv rfl (fun w => jfZ jkX jbP rfl rfl (ja6 _) (by omega) hb') ?_))
  refine jbH (Hv rfl (fun w hs => jcL jfY jbP rfl (by exact stt_at (i := i) (ha.old hs Own.nil) (by omega))) ?_)
  refine Hv rfl (fun w hs => jcL jfY jbP rfl (by exact stt_at (i := i) (hb.old hs Own.nil) (by omega))) ?_
  refine jb2 ?_
  intro w hs
  refine Lc f_47 rfl (jnG _ _ hc _) ?_
  rintro _ w1 ⟨rfl, hs'⟩
  replace hs := hs.nil hs'
  clear hs'
  refine jcP rfl (Rt (Wf rfl (jaY (jaB (Nt (Wr (Lm rfl (jbG rfl (ja3 (by omega)) ?_))))))))
  refine La rfl (Rnl (Nq (i + 1, _) [0, 1, 5] rfl ?_ ?_))
  ·
   dsimp only
   exact ⟨by omega, hs⟩
  omega
 obtain rfl : n = i := by omega
 refine Wqq (Lmm rfl rfl (Le jkX rfl (jaZ rfl (jaA (by omega)) ?_)))
 refine Rt (Wf rfl (jaK (ja0 (ja8 (ja1 (Nt (Wq (La rfl (Rt (jaW (ja9 rfl rfl ?_)))))))))))
 exact ⟨_, rfl, rfl, hs⟩
theorem jqP (a b : Option Addr) (n c e : Nat) (ts us : List Trk) (h : All2 TEq ts us) (w0 : World) (ha : SlC w0 a (tcs ts)) (hb : SlC w0 b (tcs us)) (hn : ts.length = n) (hn2 : n <= 1000000) :
  Ret Tryz.prog 26 [.slice a n c, .slice b n e] w0 fun v w' => v = .bool true /\ HS w0 w' [] := by
 have hul : us.length = n := by rw [h.len, hn]
 refine Ret.start fun w hs => ?_
 refine ja7 Tryz.func26 rfl rfl rfl (Wq (La rfl (Rqq (Lm rfl (Le jnA rfl (Lm rfl (Le jnA rfl (jk7 rfl (jaA (by omega)) ?_))))))))
 refine Rt (Wf rfl (Ws (Wqq (La rfl (Rt (ja4 (jd8 (fun (i : Nat) (w : World) => [(0, .slice a n c), (1, .slice b n e), (5, .int .i64 i)]) (fun i w => w) (fun i w => (i <= n) /\ (HS w0 w [])) (fun i w => n - i) (0) (_) (is := [0, 1, 5]) rfl rfl ?_ ?_)))))))
 ·
  exact ⟨Nat.zero_le _, hs⟩
 clear hs
 intro i w hI
 show W _ _ _ _ [(0, .slice a n c), (1, .slice b n e), (5, .int .i64 i)] w
 obtain ⟨hi, hs⟩ := hI
 by_cases hlt : i < n
 ·
  have ha' := (ha.old hs Own.nil).ao (by rw [jh2]; omega)
  have hb' := (hb.old hs Own.nil).ao (by rw [jh2]; omega)
  refine Wqq (Lmm rfl rfl (Le jnA rfl (jaZ rfl (jaF (by omega)) ?_)))
  refine Rt (Wt rfl (Ws (Wsq (ja4 (Wsq (jcH [0, 1, 2, 4, 5, 6] [3, 7] [8, 9] (fun _ _ _ => False) Tryz.mixed (by kernel_rfl) (fun _ _ _ _ _ h => h) hs ?_))))))
  refine Pm rfl (Pm rfl (Pv rfl (fun w => jfZ jnA jcE rfl rfl (ja6 _) (by omega) ha') ?_))
  refine Pm rfl (Pm rfl (Pv rfl (fun w => jfZ jnA jcE rfl rfl (ja6 _) (by omega) hb') ?_))
  refine jbH (Hv rfl (fun w hs => jcL a_51 jcE rfl (by exact trk_at (i := i) (ha.old hs Own.nil) (by omega))) ?_)
  refine Hv rfl (fun w hs => jcL a_51 jcE rfl (by exact trk_at (i := i) (hb.old hs Own.nil) (by omega))) ?_
  refine jb2 ?_
  intro w hs
  refine Lc f_23 rfl (jmD _ _ (h.at (by omega)) _) ?_
  rintro _ w1 ⟨rfl, hs'⟩
  replace hs := hs.nil hs'
  clear hs'
  refine La rfl (Rq (Lm rfl (jcP rfl (Rt (Wf rfl (jaY (jaB (Nt (Wr (Lm rfl (jbG rfl (ja3 (by omega)) ?_)))))))))))
  refine La rfl (Rnl (Nq (i + 1, _) [0, 1, 5] rfl ?_ ?_))
  ·
   dsimp only
   exact ⟨by omega, hs⟩
  omega
 obtain rfl : n = i := by omega
 refine Wqq (Lmm rfl rfl (Le jnA rfl (jaZ rfl (jaA (by omega)) ?_)))
 refine Rt (Wf rfl (jaK (ja0 (ja8 (ja1 (Nt (Wq (La rfl (Rt (jaW (ja9 rfl rfl ?_)))))))))))
 exact ⟨_, rfl, rfl, hs⟩
theorem Bok.ok.more {w0 : World} {n m : Nat} {k : Bok} (h : k.ok w0 n) (hnm : n <= m) : k.ok w0 m :=
 ⟨h.B, h.mb, h.each, h.ents, h.low, h.next1, h.next2, fun o ho => by have := h.hist o ho; omega, h.rul, h.cnt⟩
theorem Dbk.ok.more {w0 : World} {n m : Nat} {d : Dbk} (h : d.ok w0 n) (hnm : n <= m) : d.ok w0 m :=
 ⟨h.B, h.bL, h.each, h.nd, h.low, h.next1, h.next2, fun o ho => by have := h.hist o ho; omega, h.rul, h.cnt, h.any⟩
theorem Bl.fun1 {w0 : World} {al : Option Addr} {m cl : Nat} {xs : List Int} {M : Bks} (h : Bl w0 3 1 (.slice al m cl) m (il xs) M) :
  ∃ lf : List Int -> Bks, M = lf xs /\ (∀ ys, ys.length = m -> Bl w0 3 1 (.slice al m cl) m (il ys) (lf ys)) /\ (0 < m -> ∃ g sp, al = some ⟨g, 0, none⟩ /\ lf = fun ys => [(g, Row 3 (il ys ++ sp))]) := by
 obtain ⟨v, hv⟩ : ∃ v, v = Value.slice al m cl := ⟨_, rfl⟩
 obtain ⟨cs, hcs⟩ : ∃ cs, cs = il xs := ⟨_, rfl⟩
 rw [<- hv, <- hcs] at h
 cases h with
 | nil =>
  injection hv with h1 h2 h3
  subst h1 h3
  refine ⟨fun _ => [], rfl, fun ys hy => ?_, fun h => absurd h (by decide)⟩
  rw [List.eq_nil_of_length_eq_zero hy]; exact .nil
 | row hg hx hc hn =>
  rename_i g cap sp
  injection hv with h1 h2 h3
  subst h1 h3
  refine ⟨fun ys => [(g, Row 3 (il ys ++ sp))], by rw [hcs], fun ys hl => ?_, fun _ => ⟨g, sp, rfl, rfl⟩⟩
  refine .row hg (by rw [il_length, hl]; omega) ?_ hn
  rw [List.length_append, il_length, hl]
  rw [List.length_append, hx] at hc
  omega
def q77 : Plt := ⟨4635118810238550016, 0, 0, 0, 0⟩
def pm6 : Plt := ⟨13841813454723219456, 0, 0, 0, 0⟩
theorem jh6 (a b : List Plt) : pcs (a ++ b) = pcs a ++ pcs b := List.flatMap_append ..
theorem jqX (p : Plt) : pcs [p] = p.cells := by simp [pcs]
theorem pcs_put {xs ys : List Plt} {o o' : Plt} {sp : List Value} {i : Nat} (hi : xs.length = i) : (pcs (xs ++ o :: ys) ++ sp).take (i * 5) ++ o'.cells ++ (pcs (xs ++ o :: ys) ++ sp).drop (i * 5 + 5) = pcs (xs ++ o' :: ys) ++ sp := by
 have hl := jf1 xs
 rw [hi] at hl
 have e : pcs (xs ++ o :: ys) ++ sp = pcs xs ++ (o.cells ++ (pcs ys ++ sp)) := by
  rw [jh6, List.append_assoc]
  show pcs xs ++ ((o.cells ++ pcs ys) ++ sp) = _
  rw [List.append_assoc]
 have e' : pcs (xs ++ o' :: ys) ++ sp = pcs xs ++ (o'.cells ++ (pcs ys ++ sp)) := by
  rw [jh6, List.append_assoc]
  show pcs xs ++ ((o'.cells ++ pcs ys) ++ sp) = _
  rw [List.append_assoc]
 rw [e, e', List.take_left' hl, <- List.append_assoc (pcs xs) o.cells, List.drop_left' (by rw [List.length_append, hl]; rfl), List.append_assoc]
theorem pcs_one' (ps : List Plt) : ∀ v ∈ pcs ps, v.oneCell' = true := fun v hv => by
 obtain ⟨o, ho, hv⟩ := List.mem_flatMap.1 hv
 exact Plt.one o v hv
theorem set_split {α : Type} {xs : List α} {i : Nat} {o : α} (h : i < xs.length) : ∃ X Y o0, xs = X ++ o0 :: Y /\ X.length = i /\ xs.set i o = X ++ o :: Y := by
 refine ⟨xs.take i, xs.drop (i + 1), xs[i], ?_, List.length_take_of_le (by omega), ?_⟩
 ·
  rw [<- List.drop_eq_getElem_cons h, List.take_append_drop]
 rw [List.set_eq_take_append_cons_drop, if_pos h]
theorem pcs_set {xs : List Plt} {o : Plt} {sp : List Value} {i : Nat} (h : i < xs.length) : (pcs xs ++ sp).take (i * 5) ++ o.cells ++ (pcs xs ++ sp).drop (i * 5 + o.cells.length) = pcs (xs.set i o) ++ sp := by
 obtain ⟨X, Y, o0, e, hl, e'⟩ := set_split (o := o) h
 rw [e', e]
 exact pcs_put hl
theorem getD_set_ne {α : Type} {xs : List α} {i j : Nat} {o d : α} (h : i < j) : (xs.set i o).getD j d = xs.getD j d := by
 rw [List.getD_eq_getElem?_getD, List.getD_eq_getElem?_getD, List.getElem?_set_ne (by omega)]
theorem SlC.pre {w : World} {a : Option Addr} {xs ys : List Value} (h : SlC w a (xs ++ ys)) : SlC w a xs :=
 ⟨fun h1 => h.1 (by rw [List.length_append]; omega), fun j v hv => h.2 j v (by rw [List.getElem?_append_left (List.getElem?_eq_some_iff.1 hv).1]; exact hv)⟩
theorem Bl.rowOf {w0 : World} {E : TypeId} {sz : Nat} {a : Option Addr} {n c k : Nat} {xs : List Value} {M : Bks} (h : Bl w0 E sz (.slice a n c) k xs M) (hn : 0 < k) : ∃ g sp, a = some ⟨g, 0, none⟩ /\ w0.heap.size <= g /\ M = [(g, Row E (xs ++ sp))] := by
 obtain ⟨v, hv⟩ : ∃ v, v = Value.slice a n c := ⟨_, rfl⟩
 rw [<- hv] at h
 cases h with
 | nil => exact absurd hn (by decide)
 | row hg hx hc hn' =>
  injection hv with h1 h2 h3
  exact ⟨_, _, h1.symm, hg, rfl⟩
theorem Ret.imp' {P : Program} {f : FuncId} {l : List Value} {w : World} {R R' : Value -> World -> Prop} (h : Ret P f l w R) (hi : ∀ v w', R v w' -> R' v w') : Ret P f l w R' :=
 Calls.mono h fun _ w' ⟨v, e1, h1⟩ => ⟨v, e1, hi v w' h1⟩
def StpU (k : Bok) (time : Nat) (l : List Plt) (k' : Bok) (told : List Int) (er : Int) : Prop :=
 (er ≠ 0 /\ told = [] /\ k' = k) ∨ (er = 0 /\ told.length = l.length /\ ∃ os2 ps ms os3, StepTo k time l k' told os2 ps ms os3)
theorem PltE.refl (p : Plt) : PltE p p := ⟨rfl, rfl⟩
theorem StpU.uniq {k1 k2 k1' k2' : Bok} {time : Nat} {l : List Plt} {t1 t2 : List Int} {er : Int} (hb : BEq k1 k2) (h1 : StpU k1 time l k1' t1 er) (h2 : StpU k2 time l k2' t2 er) : BEq k1' k2' /\ t1 = t2 := by
 rcases h1 with ⟨e, rfl, rfl⟩ | ⟨e, _, _, _, _, _, s1⟩
 ·
  rcases h2 with ⟨_, rfl, rfl⟩ | ⟨e', _⟩
  ·
   exact ⟨hb, rfl⟩
  exact absurd e' e
 rcases h2 with ⟨e', _⟩ | ⟨_, _, _, _, _, _, s2⟩
 ·
  exact absurd e e'
 exact StepTo.uniq hb (All2.refl PltE.refl _) s1 s2
theorem ustep_ok (w0 w : World) (N n : Nat) (k : Bok) (time : Nat) (a : Option Addr) (c : Nat) (l : List Plt) (L : Bks) (hs : HS w0 w (k.bks ++ L)) (hI : StepIn w0 N n k time a l L) :
  Ret Tryz.prog 13 [bv k.B, .float .f64 time, .slice a n c] w fun v w' => ∃ k' vt Mt told, v = .tuple #[vt, .int .i64 (jeZ k.last time l)] /\ HS w0 w' (k'.bks ++ L ++ Mt) /\ Bl w0 3 1 vt told.length (il told) Mt /\ k'.ok w0 (N + 1) /\ k'.B = k.B /\ k'.r = k.r /\ k'.next <= k.next + 256 /\ StpU k time l k' told (jeZ k.last time l) := by
 refine Ret.imp' (step_ok w0 w N n k time a c l L hs hI) ?_
 rintro v w' (⟨h1, rfl, h3⟩ | ⟨h1, k', vt, Mt, told, os2, ps, ms, os3, rfl, h3, h4, h5, h6, h7⟩)
 ·
  exact ⟨k, _, [], [], rfl, by rw [List.append_nil]; exact h3, .nil, hI.book.more (by omega), rfl, rfl, by omega, .inl ⟨h1, rfl, rfl⟩⟩
 have hlp := ref_len h1
 have hn := hI.len
 have hx : k'.next <= k.next + (l.length : Int) := (h7.news.facts hI.book.next1).2.2.1
 exact ⟨k', vt, Mt, told, by rw [h1], h3, by rw [h5]; exact h4, h6, h7.sameB, h7.samer, by omega, .inr ⟨h1, by omega, os2, ps, ms, os3, h7⟩⟩
theorem udstep_ok (w0 w : World) (N n : Nat) (d : Dbk) (time : Nat) (a : Option Addr) (c : Nat) (l : List Plt) (L : Bks) (hs : HS w0 w (d.bks ++ L)) (hI : DStepIn w0 N n d time a l L) :
  Ret Tryz.prog 28 [bv d.B, .float .f64 time, .slice a n c] w fun v w' => ∃ (d' : Dbk) (vt : Value) (Mt : Bks) (told : List Int), v = .tuple #[vt, .int .i64 (jeZ d.k.last time l)] /\ HS w0 w' (d'.bks ++ L ++ Mt) /\ Bl w0 3 1 vt told.length (il told) Mt /\ d'.ok w0 (N + 1) /\ d'.B = d.B /\ StpU d.k time l d'.k told (jeZ d.k.last time l) := by
 refine Ret.imp' (dstep_ok w0 w N n d time a c l L hs hI) ?_
 rintro v w' (⟨h1, rfl, h3⟩ | ⟨h1, k', vt, Mt, told, os2, ps, ms, os3, rfl, h3, h4, h5, h6, h7, h8⟩)
 ·
  exact ⟨d, _, [], [], rfl, by rw [List.append_nil]; exact h3, .nil, hI.book.more (by omega), rfl, .inl ⟨h1, rfl, rfl⟩⟩
 have hn := hI.len
 exact ⟨k', vt, Mt, told, by rw [h1], h3, by rw [h5]; exact h4, h6, h7, .inr ⟨h1, by omega, os2, ps, ms, os3, h8⟩⟩
structure TwoIn (w0 : World) (N n : Nat) (k : Bok) (d : Dbk) (time : Nat) (a : Option Addr) (l : List Plt) (L : Bks) : Prop where
 ob : k.ok w0 N
 od : d.ok w0 N
 eq : BEq k d.k
 N : N + 1 <= 4096
 own : Own w0 L
 pl : ∀ w' L', HS w0 w' L' -> Own w0 L' -> (∀ p ∈ L, p ∈ L') -> SlC w' a (pcs l)
 len : l.length = n
 len2 : n <= 900000
 lt : ∀ i, i < n -> PltLt (l.getD i plt0)
 time : time < 18446744073709551616
 next : k.next + 256 <= 1000000
set_option maxHeartbeats 4000000 in
theorem lstep_ok (w0 w : World) (N n : Nat) (k : Bok) (d : Dbk) (time : Nat) (a : Option Addr) (c : Nat) (l : List Plt) (L : Bks) (hs : HS w0 w (k.bks ++ (d.bks ++ L))) (hI : TwoIn w0 N n k d time a l L) :
  Ret Tryz.prog 11 [bv k.B, bv d.B, .float .f64 time, .slice a n c] w fun v w' => v = .bool true /\ ∃ (k' : Bok) (d' : Dbk), k'.ok w0 (N + 1) /\ d'.ok w0 (N + 1) /\ BEq k' d'.k /\ k'.B = k.B /\ d'.B = d.B /\ k'.r = k.r /\ k'.next <= k.next + 256 /\ HS w0 w' (k'.bks ++ (d'.bks ++ L)) /\ ∃ told, StpU k time l k' told (jeZ k.last time l) := by
 have hk := hI.ob
 have hd := hI.od
 have hn := hI.len
 have hn2 := hI.len2
 obtain ⟨A, hA⟩ : ∃ A, A = k.bks ++ (d.bks ++ L) := ⟨_, rfl⟩
 have hAo : Own w0 A := by rw [hA]; exact hk.own.app (hd.own.app hI.own)
 have hLA : ∀ p ∈ L, p ∈ A := fun p hp => by rw [hA]; exact List.mem_append_right _ (List.mem_append_right _ hp)
 rw [<- hA] at hs
 refine ja7 Tryz.func11 rfl rfl rfl (Wq (La rfl (Rq (jb4 rfl hs jeA jg7 rfl (by decide) rfl (by simp [Value.cells]) ?_))))
 intro b16 w hb16 hnb16 hs
 simp only [List.flatMap_cons, List.flatMap_nil, jeT, jdL, jcS, je1, jd2, jcR, jdK, jeS, jeU, List.append_nil, List.set_cons_succ, List.set_cons_zero, List.cons_append, List.nil_append] at hs
 refine Lm rfl ?_
 replace hs : HS w0 w (A ++ [(b16, Row 42 ([] ++ []))]) := hs
 have hb : Bl w0 42 5 (.slice (some ⟨b16, 0, none⟩) 0 0) 0 [] [(b16, Row 42 ([] ++ []))] := Bl.row hb16 rfl rfl (Nat.le_refl _)
 refine L_appendS (L := A) rfl jeA jg7 rfl (by decide) hs hb rfl rfl (by rw [jf1, hn]) (hI.pl _ _ hs (hAo.app hb.own) (fun p hp => List.mem_append_left _ (hLA p hp))) (pcs_one' l) (by omega) (by omega) ?_
 intro v18 w M18 hs hb18
 clear hb
 rw [Nat.zero_add, List.nil_append] at hb18
 refine jbE rfl rfl (Pl.builtN Tryz.pl42 rfl) (jb4 rfl hs jeA jg7 rfl (by decide) rfl (by simp [Value.cells]) ?_)
 intro b20 w hb20 hnb20 hs
 replace hs : HS w0 w ((A ++ M18) ++ [(b20, Row 42 q77.cells)]) := by
  first
   | exact hs
   | (have := hs; simp only [List.flatMap_cons, List.flatMap_nil, List.append_nil] at this; exact this)
 refine jb8 (L := A) rfl jeA jg7 rfl hs hb20 hb18 rfl rfl rfl (Plt.one _) (by omega) (by omega) ?_
 intro v21 w M hs hbm
 obtain ⟨av, cv, rfl, hcv⟩ := hbm.slice
 have hbm' : Bl w0 42 5 (.slice av (n + 1) cv) (n + 1) (pcs (l ++ [q77])) M := by rw [jh6, jqX]; exact hbm
 clear hbm
 refine Lm rfl (Le jeA rfl (jaT rfl (jgH jeA jg7 rfl rfl rfl (by omega)) ?_))
 refine La rfl (Rq (Lmm rfl rfl (Lm rfl ?_)))
 obtain ⟨g, sp, rfl, hg, rfl⟩ := Bl.rowOf hbm' (Nat.succ_pos _)
 have hgo : Own w0 [(g, Row 42 (pcs (l ++ [q77]) ++ sp))] := hbm'.own
 obtain ⟨L1, hL1⟩ : ∃ L1, L1 = L ++ (k.bks ++ [(g, Row 42 (pcs (l ++ [q77]) ++ sp))]) := ⟨_, rfl⟩
 have hL1o : Own w0 L1 := by rw [hL1]; exact hI.own.app (hk.own.app hgo)
 replace hs : HS w0 w (d.bks ++ L1) := by rw [hL1]; rw [hA] at hs; exact HS.re hs (fun c => by simp only [mpA, mpC, mpN, smA, smC, smN]; omega)
 have hS := udstep_ok w0 w N n d time a c l L1 hs ⟨hd, hI.N, hL1o, fun w' L' h1 h2 h3 => hI.pl w' L' h1 h2 (fun p hp => h3 p (by rw [hL1]; exact List.mem_append_left _ hp)), hn, by omega, hI.lt, hI.time, by have := hI.eq.next; have := hI.next; omega⟩
 obtain ⟨er, her⟩ : ∃ er, er = jeZ d.k.last time l := ⟨_, rfl⟩
 rw [<- her] at hS
 refine Lc f_28 rfl (hS) ?_
 rintro _ w1 ⟨d', vw, Mw, want, rfl, hs1, hbw, hd', hdB, hdU⟩
 clear hs hS
 obtain ⟨aw, cw, rfl, _⟩ := hbw.slice
 refine Lm rfl (Lx rfl rfl (Lx rfl rfl (La rfl (La rfl (Rq (Lmm rfl rfl (Lm rfl ?_)))))))
 obtain ⟨L2, hL2⟩ : ∃ L2, L2 = d'.bks ++ (L ++ ((g, Row 42 (pcs (l ++ [q77]) ++ sp)) :: Mw)) := ⟨_, rfl⟩
 have hL2o : Own w0 L2 := by rw [hL2]; exact hd'.own.app (hI.own.app (Own.cons hg hbw.own))
 have hs : HS w0 w1 (k.bks ++ L2) := by rw [hL2]; rw [hL1] at hs1; exact HS.re hs1 (fun c => by simp only [mpA, mpC, mpN, smA, smC, smN]; omega)
 clear hs1
 have hgL2 : (g, Row 42 (pcs (l ++ [q77]) ++ sp)) ∈ L2 := by rw [hL2]; exact List.mem_append_right _ (List.mem_append_right _ (List.mem_cons_self ..))
 have hS := ustep_ok w0 w1 N n k time (some ⟨g, 0, none⟩) cv l L2 hs ⟨hk, hI.N, hL2o, fun w' L' h1 h2 h3 => SlC.pre (by rw [<- jh6]; exact Bl.slcM hbm' h1 (fun p hp => by obtain rfl := List.mem_singleton.1 hp; exact h3 _ hgL2)), hn, by omega, hI.lt, hI.time, hI.next⟩
 rw [show jeZ k.last time l = er by rw [her, hI.eq.last]] at hS
 refine Lc f_13 rfl (hS) ?_
 rintro _ w1 ⟨k', vg, Mg, got, rfl, hs1, hbg, hk', hkB, hkr, hknx, hkU⟩
 clear hs hS
 obtain ⟨ag, cg, rfl, _⟩ := hbg.slice
 obtain ⟨hbe, rfl⟩ := StpU.uniq hI.eq hkU hdU
 obtain ⟨t, ht⟩ : ∃ t, t = got.length := ⟨_, rfl⟩
 have ht2 : t <= 900000 := by
  rcases hkU with ⟨_, h, _⟩ | ⟨_, h, _⟩
  ·
   rw [h] at ht; rw [ht]; exact Nat.zero_le _
  omega
 rw [<- ht] at hbw hbg ⊢
 obtain ⟨lf, rfl, hlfB, hlfR⟩ := Bl.fun1 hbg
 obtain ⟨Z, hZ⟩ : ∃ Z, Z = Mw ++ (k'.bks ++ (d'.bks ++ L)) := ⟨_, rfl⟩
 have hZo : Own w0 Z := by rw [hZ]; exact hbw.own.app (hk'.own.app (hd'.own.app hI.own))
 have hs : HS w0 w1 ((g, Row 42 (pcs (l ++ [q77]) ++ sp)) :: (lf got ++ Z)) := by rw [hZ]; rw [hL2] at hs1; exact HS.re hs1 (fun c => by simp only [mpA, mpC, mpN, smA, smC, smN]; omega)
 clear hs1
 have hWs : ∀ {w' : World} {L' : Bks}, HS w0 w' L' -> (∀ p ∈ Z, p ∈ L') -> SlC w' aw (il got) := fun h1 h2 => Bl.slcM hbw h1 (fun p hp => h2 p (by rw [hZ]; exact List.mem_append_left _ hp))
 have hLZ : ∀ p ∈ L, p ∈ Z := fun p hp => by rw [hZ]; exact List.mem_append_right _ (List.mem_append_right _ (List.mem_append_right _ hp))
 have hqn : (l ++ [q77]).getD n plt0 = q77 := by rw [<- hn, List.getD_eq_getElem?_getD, List.getElem?_append_right (Nat.le_refl _), Nat.sub_self]; rfl
 have hgc : ∀ {w' : World} {R : Bks} {xs : List Plt} {i : Nat}, HS w0 w' ((g, Row 42 (pcs xs ++ sp)) :: R) -> i < xs.length -> w'.cell? ((Addr.mk g 0 none).add (i * 5 + 0)) = some (.float .f64 (xs.getD i plt0).r) := fun {w' R xs i} h1 h2 =>
  jb6 h1 (List.mem_cons_self ..) (by
   have h3 := jm3 (ts := xs) (i := i) (q := 0) (v := .float .f64 (xs.getD i plt0).r) h2 rfl
   rw [List.getElem?_append_left (List.getElem?_eq_some_iff.1 h3).1]; exact h3)
 have hll : (l ++ [q77]).length = n + 1 := by rw [List.length_append, hn]; rfl
 refine Lm rfl (Lx rfl rfl (Lx rfl rfl (La rfl (La rfl (Rqq (Lmm rfl rfl (jk7 rfl (jaA (by omega)) ?_)))))))
 refine Lm rfl (Gm rfl rfl (Rw rfl (Le jbW rfl (Gm rfl rfl (Rw rfl (Le jbW rfl (Rw rfl (jk7 rfl (jaA (by omega)) ?_))))))))
 refine Lpf rfl (Lm rfl (Gm rfl rfl (Gm rfl rfl (Rw rfl (Le jeA rfl (Rw rfl (jbG rfl (ja3 (by omega)) ?_)))))))
 refine Rw rfl (jaT rfl (jgH jeA jg7 rfl rfl rfl (by omega)) ?_)
 refine Gm rfl rfl (Rw rfl (Le jeA rfl (Rw rfl (LiN jeA jg7 rfl (ja6 n) (by exact Nat.lt_succ_self n) rfl ?_))))
 refine Rw rfl (Lf 0 jqM rfl jaS (Rw rfl ?_))
 refine Ll jb5 rfl (by (rw [jaR]; refine (hgc hs (by omega)).trans ?_; rw [hqn])) ?_
 refine Rw rfl ?_
 refine Cf rfl (fun _ => by rw [binOp_float_cmp_neq]; rfl) ?_
 refine Lpf rfl (Rt (Wf rfl (Ws (Wqq (La rfl (Rt (ja4 (jcT (fun (ys : List Int) (i : Nat) (w : World) => [(3, .slice a n c), (9, .slice (some ⟨g, 0, none⟩) n cv), (10, .slice aw t cw), (12, .slice ag t cg), (14, .int .i64 i)]) (fun ys i w => w) (fun ys i w => (i <= t) /\ (ys.length = t) /\ (∀ j, i <= j -> ys.getD j 0 = got.getD j 0) /\ (HS w0 w ((g, Row 42 (pcs (l ++ [q77]) ++ sp)) :: (lf ys ++ Z)))) (fun ys i w => t - i) (got) (0) (_) (is := [3, 9, 10, 12, 14]) rfl rfl ?_ ?_))))))))
 ·
  exact ⟨Nat.zero_le _, ht.symm, fun _ _ => rfl, hs⟩
 clear hs
 intro ys i w hI
 show W _ _ _ _ [(3, .slice a n c), (9, .slice (some ⟨g, 0, none⟩) n cv), (10, .slice aw t cw), (12, .slice ag t cg), (14, .int .i64 i)] w
 obtain ⟨hi, hyl, hyj, hs⟩ := hI
 by_cases hlt : i < t
 ·
  obtain ⟨gg, sp2, rfl, hlf⟩ := hlfR (by omega)
  have hws := hWs hs (fun p hp => List.mem_cons_of_mem _ (List.mem_append_right _ hp))
  have haoW : aw = some (aD aw) := hws.ao (by rw [il_length]; omega)
  rw [hlf] at hs
  replace hs : HS w0 w ((gg, Row 3 (il ys ++ sp2)) :: (g, Row 42 (pcs (l ++ [q77]) ++ sp)) :: Z) := HS.re hs (fun c => by simp only [mpA, mpC, mpN, smA, smC, smN]; omega)
  refine Wqq (Lmm rfl rfl (Le jbW rfl (jaZ rfl (jaF (by omega)) ?_)))
  refine Rt (Wt rfl (Ws (Wsq (ja4 (Wsq (Wsq (jcH [0, 1, 2, 4, 5, 6] [3, 7, 8] [] (fun _ _ _ => False) Tryz.mixed (by kernel_rfl) (fun _ _ _ _ _ h => h) hs ?_)))))))
  refine Pm rfl (Pm rfl (Pv rfl (fun w => jdC jbW i_3 rfl rfl (ja6 _) (by omega) rfl) ?_))
  refine Pm rfl (Pm rfl (Pv rfl (fun w => jdC jbW i_3 rfl rfl (ja6 _) (by omega) haoW) ?_))
  refine jbH ?_
  refine Hl o_3 rfl (fun w hs => (by (refine jb6 hs (List.mem_cons_self ..) (v := .int .i64 (got.getD i 0)) ?_; rw [List.getElem?_append_left (by rw [il_length]; omega), <- hyj i (Nat.le_refl _)]; exact jaV (by omega)))) ?_
  refine Hl o_3 rfl (fun w hs => (by exact (hWs hs (fun p hp => List.mem_cons_of_mem _ (List.mem_cons_of_mem _ hp))).2 _ _ (jaV (by omega)))) ?_
  refine Hv rfl (fun w hs => R_neq rfl rfl (jaA (by omega))) ?_
  refine jb2 ?_
  intro w hs
  refine Rt (Wf rfl (Ws (Wr (Lmm rfl rfl (Li jbW i_3 rfl (ja6 _) (by omega) rfl ?_)))))
  refine jaH hs (i := 0) rfl i_3 rfl rfl (by exact jaM _ _) (by simp; omega) rfl ?_
  intro w hs
  dsimp only [sS, sZ, sA, sN] at hs
  refine Rnl (jaB (Nt (Wr (Lm rfl (jbG rfl (ja3 (by omega)) ?_)))))
  refine La rfl (Rnl ?_)
  have hs1 : HS w0 w ((g, Row 42 (pcs (l ++ [q77]) ++ sp)) :: (lf (ys.set i (-5)) ++ Z)) := by
   rw [hlf]
   show HS w0 w ((g, Row 42 (pcs (l ++ [q77]) ++ sp)) :: ([(gg, Row 3 (il (ys.set i (-5)) ++ sp2))] ++ Z))
   rw [<- jf2 ys sp2 i (-5) (by omega)]
   exact HS.re hs (fun c => by simp only [mpA, mpC, mpN, smA, smC, smN]; omega)
  clear hs
  refine Nq (ys.set i (-5), i + 1, _) [3, 9, 10, 12, 14] rfl ?_ ?_
  ·
   dsimp only
   exact ⟨by omega, by rw [List.length_set]; exact hyl, fun j hj => by rw [getD_set_ne (by omega)]; exact hyj j (by omega), hs1⟩
  show t - (i + 1) < t - i; omega
 obtain ⟨V, hV⟩ : ∃ V, V = lf ys ++ Z := ⟨_, rfl⟩
 have hlo : Own w0 V := by rw [hV]; exact (hlfB ys hyl).own.app hZo
 have hZV : ∀ p ∈ Z, p ∈ V := fun p hp => by rw [hV]; exact List.mem_append_right _ hp
 rw [<- hV] at hs
 refine Wqq (Lmm rfl rfl (Le jbW rfl (jaZ rfl (jaA (by omega)) ?_)))
 refine Rt (Wf rfl (jaK (ja0 (ja8 (ja1 (Nt (Wqq (La rfl (Rt (ja4 (jcT (fun (xs : List Plt) (i : Nat) (w : World) => [(3, .slice a n c), (9, .slice (some ⟨g, 0, none⟩) n cv), (15, .int .i64 i)]) (fun xs i w => w) (fun xs i w => (i <= n) /\ (xs.length = n + 1) /\ (∀ j, i <= j -> xs.getD j plt0 = (l ++ [q77]).getD j plt0) /\ (HS w0 w ((g, Row 42 (pcs xs ++ sp)) :: V))) (fun xs i w => n - i) (l ++ [q77]) (0) (_) (is := [3, 9, 15]) rfl rfl ?_ ?_)))))))))))
 ·
  exact ⟨Nat.zero_le _, hll, fun _ _ => rfl, hs⟩
 clear hs
 intro xs i w hI
 show W _ _ _ _ [(3, .slice a n c), (9, .slice (some ⟨g, 0, none⟩) n cv), (15, .int .i64 i)] w
 obtain ⟨hi2, hxl, hxj, hs⟩ := hI
 by_cases hlt2 : i < n
 ·
  obtain ⟨r, hr⟩ : ∃ r, r = (l.getD i plt0).r := ⟨_, rfl⟩
  have hxr : (xs.getD i plt0).r = r := by rw [hr, hxj i (Nat.le_refl _), List.getD_eq_getElem?_getD, List.getElem?_append_left (by omega), <- List.getD_eq_getElem?_getD]
  have hlc : ∀ {w' : World}, HS w0 w' ((g, Row 42 (pcs xs ++ sp)) :: V) -> w'.cell? ((aD a).add (i * 5 + 0)) = some (.float .f64 r) := fun h1 =>
   (hI.pl _ _ h1 (Own.cons hg hlo) (fun p hp => List.mem_cons_of_mem _ (hZV p (hLZ p hp)))).2 _ _ (jm3 (ts := l) (i := i) (q := 0) (by omega) (by rw [hr]; rfl))
  have haoP : a = some (aD a) := (hI.pl _ _ hs (Own.cons hg hlo) (fun p hp => List.mem_cons_of_mem _ (hZV p (hLZ p hp)))).ao (by rw [jf1]; omega)
  refine Wqq (Lmm rfl rfl (Le jeA rfl (jaZ rfl (jaF (by omega)) ?_)))
  refine Rt (Wt rfl ?_)
  cases hE : FloatKind.f64.format.order r r == some .eq
  ·
   have hN : (FloatKind.f64.format.order r r != some .eq) = true := by show (!(FloatKind.f64.format.order r r == some .eq)) = true; rw [hE]; rfl
   refine Ws (Wsq (ja4 (Wsq (Wsq (jcH [0, 1, 2, 3, 5, 6, 7, 8] [4, 9, 10, 11, 12, 13, 14, 15, 16, 17, 18, 19, 20, 21, 22, 23] [] (fun _ _ _ => False) Tryz.mixed (by kernel_rfl) (fun _ _ _ _ _ h => h) hs ?_)))))
   refine Pm rfl (Pm rfl (Pv rfl (fun w => jfZ jeA jg7 rfl rfl (ja6 _) (by omega) rfl) ?_))
   refine Pfa 0 jqM rfl jaS (Pm rfl (Pm rfl (Pv rfl (fun w => jfZ jeA jg7 rfl rfl (ja6 _) (by omega) haoP) ?_)))
   refine Pfa 0 jqM rfl jaS (jbH ?_)
   refine Hl jb5 rfl (fun w hs => (by (rw [jaR]; refine (hgc hs (by omega)).trans ?_; rw [hxr]))) ?_
   refine Hl jb5 rfl (fun w hs => (by (rw [jaR]; exact hlc hs))) ?_
   refine Hv rfl (fun w hs => R_fcmp rfl rfl (fun _ => by rw [binOp_float_cmp_neq, hN]; rfl)) ?_
   refine Hm rfl (Hw rfl rfl (Hm rfl (Hw rfl rfl (Hm rfl (Hw rfl rfl (Hv rfl (fun w hs => jfZ jeA jg7 rfl rfl (ja6 _) (by omega) haoP) ?_))))))
   refine Hw rfl rfl (Hf 0 jqM rfl jaS (Hw rfl rfl ?_))
   refine Hl jb5 rfl (fun w hs => (by (rw [jaR]; exact hlc hs))) ?_
   refine Hw rfl rfl (Hm rfl (Hw rfl rfl (Hm rfl (Hw rfl rfl (Hv rfl (fun w hs => jfZ jeA jg7 rfl rfl (ja6 _) (by omega) haoP) ?_)))))
   refine Hw rfl rfl (Hf 0 jqM rfl jaS (Hw rfl rfl ?_))
   refine Hl jb5 rfl (fun w hs => (by (rw [jaR]; exact hlc hs))) ?_
   refine Hw rfl rfl ?_
   refine Hv rfl (fun w hs => R_fcmp rfl rfl (fun _ => by rw [binOp_float_cmp_eql, hE]; rfl)) ?_
   refine Hv rfl (fun w hs => jf7 rfl rfl) ?_
   refine jb2 ?_
   intro w hs
   refine Rt (Wf rfl (Ws (Wr (Lmm rfl rfl (jbE rfl rfl (Pl.builtN Tryz.pl42 rfl) (je7 112 (v' := .agg pm6.cells.toArray) rfl (rfl) (LiN jeA jg7 rfl (ja6 _) (by omega) rfl ?_)))))))
   refine jaQ hs (i := 0) rfl jg7 rfl rfl (by exact jaM _ _) (by rw [List.length_append, jf1]; show i * 5 + 5 <= _; omega) (by exact Plt.one _) ?_
   intro w hs
   dsimp only [sS, sZ, sA, sN] at hs
   refine Rnl (jaB (Nt (Wr (Lm rfl (jbG rfl (ja3 (by omega)) ?_)))))
   refine La rfl (Rnl ?_)
   have hs1 : HS w0 w ((g, Row 42 (pcs (xs.set i pm6) ++ sp)) :: V) := by
    have h1 : HS w0 w ((g, Row 42 ((pcs xs ++ sp).take (i * 5) ++ pm6.cells ++ (pcs xs ++ sp).drop (i * 5 + pm6.cells.length))) :: V) := hs
    rw [pcs_set (by omega)] at h1
    exact h1
   clear hs
   refine Nq (xs.set i pm6, i + 1, _) [3, 9, 15] rfl ?_ ?_
   ·
    dsimp only
    exact ⟨by omega, by rw [List.length_set]; exact hxl, fun j hj => by rw [getD_set_ne (by omega)]; exact hxj j (by omega), hs1⟩
   show n - (i + 1) < n - i; omega
  have hN : (FloatKind.f64.format.order r r != some .eq) = false := by show (!(FloatKind.f64.format.order r r == some .eq)) = false; rw [hE]; rfl
  refine Ws (Wsq (ja4 (Wsq (Wsq (jcH [0, 1, 2, 3, 5, 6, 7, 8] [4, 9, 10, 11, 12, 13, 14, 15, 16, 17, 18, 19, 20, 21, 22, 23] [] (fun _ _ _ => False) Tryz.mixed (by kernel_rfl) (fun _ _ _ _ _ h => h) hs ?_)))))
  refine Pm rfl (Pm rfl (Pv rfl (fun w => jfZ jeA jg7 rfl rfl (ja6 _) (by omega) rfl) ?_))
  refine Pfa 0 jqM rfl jaS (Pm rfl (Pm rfl (Pv rfl (fun w => jfZ jeA jg7 rfl rfl (ja6 _) (by omega) haoP) ?_)))
  refine Pfa 0 jqM rfl jaS (jbH ?_)
  refine Hl jb5 rfl (fun w hs => (by (rw [jaR]; refine (hgc hs (by omega)).trans ?_; rw [hxr]))) ?_
  refine Hl jb5 rfl (fun w hs => (by (rw [jaR]; exact hlc hs))) ?_
  refine Hv rfl (fun w hs => R_fcmp rfl rfl (fun _ => by rw [binOp_float_cmp_neq, hN]; rfl)) ?_
  refine Hm rfl (jaU rfl rfl rfl rfl (jaU rfl rfl rfl rfl (jaU rfl rfl rfl rfl (jaU rfl rfl rfl rfl (jaU rfl rfl rfl rfl (jaU rfl rfl rfl rfl (jaU rfl rfl rfl rfl (jaU rfl rfl rfl rfl (jaU rfl rfl rfl rfl (jaU rfl rfl rfl rfl (jaU rfl rfl rfl rfl (Hv rfl (fun w hs => jf8 rfl rfl) ?_))))))))))))
  refine jb2 ?_
  intro w hs
  refine Rt (Wf rfl (Ws (Wr (Lmm rfl rfl (jbE rfl rfl (Pl.builtN Tryz.pl42 rfl) (je7 112 (v' := .agg pm6.cells.toArray) rfl (rfl) (LiN jeA jg7 rfl (ja6 _) (by omega) rfl ?_)))))))
  refine jaQ hs (i := 0) rfl jg7 rfl rfl (by exact jaM _ _) (by rw [List.length_append, jf1]; show i * 5 + 5 <= _; omega) (by exact Plt.one _) ?_
  intro w hs
  dsimp only [sS, sZ, sA, sN] at hs
  refine Rnl (jaB (Nt (Wr (Lm rfl (jbG rfl (ja3 (by omega)) ?_)))))
  refine La rfl (Rnl ?_)
  have hs1 : HS w0 w ((g, Row 42 (pcs (xs.set i pm6) ++ sp)) :: V) := by
   have h1 : HS w0 w ((g, Row 42 ((pcs xs ++ sp).take (i * 5) ++ pm6.cells ++ (pcs xs ++ sp).drop (i * 5 + pm6.cells.length))) :: V) := hs
   rw [pcs_set (by omega)] at h1
   exact h1
  clear hs
  refine Nq (xs.set i pm6, i + 1, _) [3, 9, 15] rfl ?_ ?_
  ·
   dsimp only
   exact ⟨by omega, by rw [List.length_set]; exact hxl, fun j hj => by rw [getD_set_ne (by omega)]; exact hxj j (by omega), hs1⟩
  show n - (i + 1) < n - i; omega
 refine Wqq (Lmm rfl rfl (Le jeA rfl (jaZ rfl (jaA (by omega)) ?_)))
 refine Rt (Wf rfl (jaK (ja0 (ja8 (ja1 (Nt (Wq (La rfl (Rt (jaW (ja9 rfl rfl ?_)))))))))))
 rw [hV, hZ] at hs
 have hs1 : HS w0 w ((((g, Row 42 (pcs xs ++ sp)) :: (lf ys ++ Mw))) ++ (k'.bks ++ (d'.bks ++ L))) := HS.re hs (fun c => by simp only [mpA, mpC, mpN, smA, smC, smN]; omega)
 exact ⟨_, rfl, rfl, k', d', hk', hd', hbe, hkB, hdB, hkr, hknx, HS.dropL hs1 (Own.cons hg ((hlfB ys hyl).own.app hbw.own)), _, by rw [hI.eq.last, <- her]; exact hkU⟩
end Go.Proofs.YtffobakdngbadaaGreat