/-
  A part of the proof: laws for walks, and plain laws, over any program of the model. Each theorem holds under its own premises alone.
-/
import Derived.Test.YtffobakdngbadaaGreatKit
import Derived.Test.YtffobakdngbadaaGreatP2
import Derived.Test.YtffobakdngbadaaGreatKitY
namespace Go.Proofs.YtffobakdngbadaaGreat
open Go Go.Lk Go.Pr
abbrev gi (l : List Int) (j : Nat) : Int := l.getD j 0
def cf (n : Nat) (C : List Int) (r j : Nat) : Int := C.getD (r * n + j) 0
abbrev BB : Int := 4503599627370496
structure CostOk (n : Nat) (C : List Int) : Prop where
 len : C.length = n * n
 rng : ∀ r j, r < n -> j < n -> 0 <= cf n C r j /\ cf n C r j <= BB
theorem idx_lt {n r j : Nat} (hr : r < n) (hj : j < n) : r * n + j < n * n := by
 have := Nat.mul_le_mul_right n (show r + 1 <= n by omega)
 rw [Nat.succ_mul] at this
 omega
theorem jpR (n j : Nat) : gi (List.replicate n 0) j = 0 := by
 simp only [gi, List.getD, List.getElem?_replicate]
 split <;> rfl
abbrev gbo (l : List Bool) (j : Nat) : Bool := l.getD j false
def rI (i : Nat) (of : List Int) (last : Int) : Int := if last < 0 then (i : Int) else gi of last.toNat
abbrev jpG (B c u v o h gs gb gd n : Nat) (C U V of has slack back : List Int) (done : List Bool) : List (Nat × Obj) :=
 [(c, Row 2 (il C)), (u, Row 2 (il U)), (v, Row 2 (il V)), (o, Row 3 (il of)), (h, Row 3 (il has)), (B, Row 123 (jgL n c u v o h)), (gs, Row 2 (il slack)), (gb, Row 3 (il back)), (gd, Row 4 (bls done))]
def playPhi (n : Nat) (B : Nat) (i : Nat) (v : Value) (m : List (Nat × Obj)) : Prop :=
 match i with
 | 0 | 5 | 10 => v = .pointer (some ⟨B, 0, none⟩) /\ m = []
 | 1 | 6 | 11 => v = .pointer (some ⟨B, 0, none⟩) /\ m = []
 | 2 | 7 | 12 => v = .pointer (some ⟨B, 0, none⟩) /\ m = []
 | 3 | 8 | 13 => v = .int .i64 n /\ m = []
 | 4 | 15 => ∃ g, v = SlN g n /\ m = [(g, Row 2 (il (List.replicate n 0)))]
 | 9 | 16 => ∃ g, v = SlN g n /\ m = [(g, Row 3 (il (List.replicate n 0)))]
 | _ => ∃ g, v = SlN g n /\ m = [(g, Row 4 (bls (List.replicate n false)))]
set_option maxHeartbeats 4000000 in
theorem play_ok (B c u v o h n : Nat) (C : List Int) (w0 : World) (hC : CostOk n C) (h1 : 1 <= n) (h2 : n <= 512)
  (hG : HS w0 w0 (jd9 B c u v o h n C (List.replicate n 0) (List.replicate n 0) (List.replicate n (-1)) (List.replicate n 0))) :
  Ret Tryz.prog 69 [.pointer (some ⟨B, 0, none⟩)] w0 fun _ w' => ∃ U V of has, HS w0 w' (jd9 B c u v o h n C U V of has) /\ U.length = n /\ V.length = n /\ of.length = n /\ has.length = n /\ Sq n (cf n C) n (gi of) (gi U) (gi V) /\ (∀ j, j < n -> gi has (gi of j).toNat = (j : Int)) /\ (∀ r, r < n -> 0 <= gi U r /\ gi U r <= BB) /\ ∀ j, j < n -> -BB <= gi V j /\ gi V j <= 0 := by
 have hs := hG
 have hCl := hC.len
 refine ja7 Tryz.func69 rfl rfl rfl (Wsq ?_)
 refine W_any (playPhi n B) (fun i => ([[], [0], [1], [2], [3], [], [5], [6], [7], [8], [], [10], [11], [12], [13], [4], [9], [14]] : List (List Nat)).getD i []) (fun i => ([[], [], [], [], [], [], [], [], [], [], [], [], [], [], [], [4], [9], [14]] : List (List Nat)).getD i []) Tryz.mixed (by kernel_rfl) hs ?_ ?_
 ·
  intro i oo d ho hd V M E R w Q' hdep hlook hold hR hs hc
  have hld : w.cell? ⟨B, 0, none⟩ = some (.int .i64 n) := Lk.cell_of_row (hs.has (B, Row 123 (jgL n c u v o h)) (by simp)) rfl
  match i, ho with
  | 0, ho | 5, ho | 10, ho =>
   cases ho; cases hd
   refine jgK rfl (hold 0 _ rfl (nd (by kernel_rfl))) ?_
   exact hc _ [] w ⟨rfl, rfl⟩ Own.nil hs
  | 1, ho =>
   cases ho; cases hd
   have e1 : Lk.look E 18 = some (.pointer (some ⟨B, 0, none⟩)) := by rw [hlook 0 (by decide) _ _ rfl rfl, (hdep 0 (by decide)).1.1]
   refine jc4 rfl e1 ?_
   exact hc _ [] w ⟨rfl, rfl⟩ Own.nil hs
  | 6, ho =>
   cases ho; cases hd
   have e1 : Lk.look E 23 = some (.pointer (some ⟨B, 0, none⟩)) := by rw [hlook 5 (by decide) _ _ rfl rfl, (hdep 5 (by decide)).1.1]
   refine jc4 rfl e1 ?_
   exact hc _ [] w ⟨rfl, rfl⟩ Own.nil hs
  | 11, ho =>
   cases ho; cases hd
   have e1 : Lk.look E 28 = some (.pointer (some ⟨B, 0, none⟩)) := by rw [hlook 10 (by decide) _ _ rfl rfl, (hdep 10 (by decide)).1.1]
   refine jc4 rfl e1 ?_
   exact hc _ [] w ⟨rfl, rfl⟩ Own.nil hs
  | 2, ho =>
   cases ho; cases hd
   have e1 : Lk.look E 19 = some (.pointer (some ⟨B, 0, none⟩)) := by rw [hlook 1 (by decide) _ _ rfl rfl, (hdep 1 (by decide)).1.1]
   refine jbT rfl (off := 0) jcW rfl rfl i_3 e1 ?_
   exact hc _ [] w ⟨rfl, rfl⟩ Own.nil hs
  | 7, ho =>
   cases ho; cases hd
   have e1 : Lk.look E 24 = some (.pointer (some ⟨B, 0, none⟩)) := by rw [hlook 6 (by decide) _ _ rfl rfl, (hdep 6 (by decide)).1.1]
   refine jbT rfl (off := 0) jcW rfl rfl i_3 e1 ?_
   exact hc _ [] w ⟨rfl, rfl⟩ Own.nil hs
  | 12, ho =>
   cases ho; cases hd
   have e1 : Lk.look E 29 = some (.pointer (some ⟨B, 0, none⟩)) := by rw [hlook 11 (by decide) _ _ rfl rfl, (hdep 11 (by decide)).1.1]
   refine jbT rfl (off := 0) jcW rfl rfl i_3 e1 ?_
   exact hc _ [] w ⟨rfl, rfl⟩ Own.nil hs
  | 3, ho =>
   cases ho; cases hd
   have e1 : Lk.look E 20 = some (.pointer (some ⟨B, 0, none⟩)) := by rw [hlook 2 (by decide) _ _ rfl rfl, (hdep 2 (by decide)).1.1]
   refine jgX rfl o_3 e1 hld ?_
   exact hc _ [] w ⟨rfl, rfl⟩ Own.nil hs
  | 8, ho =>
   cases ho; cases hd
   have e1 : Lk.look E 25 = some (.pointer (some ⟨B, 0, none⟩)) := by rw [hlook 7 (by decide) _ _ rfl rfl, (hdep 7 (by decide)).1.1]
   refine jgX rfl o_3 e1 hld ?_
   exact hc _ [] w ⟨rfl, rfl⟩ Own.nil hs
  | 13, ho =>
   cases ho; cases hd
   have e1 : Lk.look E 30 = some (.pointer (some ⟨B, 0, none⟩)) := by rw [hlook 12 (by decide) _ _ rfl rfl, (hdep 12 (by decide)).1.1]
   refine jgX rfl o_3 e1 hld ?_
   exact hc _ [] w ⟨rfl, rfl⟩ Own.nil hs
  | 4, ho =>
   cases ho; cases hd
   replace hs : HS w0 w (_ ++ []) := hs
   rw [List.append_nil] at hs
   have e1 : Lk.look E 21 = some (.int .i64 n) := by rw [hlook 3 (by decide) _ _ rfl rfl, (hdep 3 (by decide)).1.1]
   refine jdM rfl hs jbK i_2 e1 e1 rfl rfl (Nat.le_refl _) (by omega) (by omega) rfl ?_
   intro g w hg _ hs
   rw [jgV] at hs
   exact hc _ _ _ ⟨g, rfl, rfl⟩ (Own.cons hg Own.nil) hs
  | 9, ho =>
   cases ho; cases hd
   replace hs : HS w0 w (_ ++ []) := hs
   rw [List.append_nil] at hs
   have e1 : Lk.look E 26 = some (.int .i64 n) := by rw [hlook 8 (by decide) _ _ rfl rfl, (hdep 8 (by decide)).1.1]
   refine jdM rfl hs jbW i_3 e1 e1 rfl rfl (Nat.le_refl _) (by omega) (by omega) rfl ?_
   intro g w hg _ hs
   rw [jgV] at hs
   exact hc _ _ _ ⟨g, rfl, rfl⟩ (Own.cons hg Own.nil) hs
  | 14, ho =>
   cases ho; cases hd
   replace hs : HS w0 w (_ ++ []) := hs
   rw [List.append_nil] at hs
   have e1 : Lk.look E 31 = some (.int .i64 n) := by rw [hlook 13 (by decide) _ _ rfl rfl, (hdep 13 (by decide)).1.1]
   refine jdM rfl hs jfC i_4 e1 e1 rfl rfl (Nat.le_refl _) (by omega) (by omega) rfl ?_
   intro g w hg _ hs
   rw [jrF] at hs
   exact hc _ _ _ ⟨g, rfl, rfl⟩ (Own.cons hg Own.nil) hs
  | 15, ho =>
   cases ho; cases hd
   have e14 : Lk.look E 22 = some (V 4) := hlook 4 (by decide) _ _ rfl rfl
   replace hs : HS w0 w (_ ++ (M 4 ++ [])) := hs
   rw [List.append_nil] at hs
   refine jg1 rfl e14 ?_
   exact hc _ (M 4) w (hdep 4 (by decide)).1 (hdep 4 (by decide)).2 hs
  | 16, ho =>
   cases ho; cases hd
   have e14 : Lk.look E 27 = some (V 9) := hlook 9 (by decide) _ _ rfl rfl
   replace hs : HS w0 w (_ ++ (M 9 ++ [])) := hs
   rw [List.append_nil] at hs
   refine jg1 rfl e14 ?_
   exact hc _ (M 9) w (hdep 9 (by decide)).1 (hdep 9 (by decide)).2 hs
  | 17, ho =>
   cases ho; cases hd
   have e14 : Lk.look E 32 = some (V 14) := hlook 14 (by decide) _ _ rfl rfl
   replace hs : HS w0 w (_ ++ (M 14 ++ [])) := hs
   rw [List.append_nil] at hs
   refine jg1 rfl e14 ?_
   exact hc _ (M 14) w (hdep 14 (by decide)).1 (hdep 14 (by decide)).2 hs
 intro V M own w hΦ hs hown hnd E hold hlook
 replace hs := hs.pickOwn3 (k1 := 15) (k2 := 16) (k3 := 17) ((hown 15).2 ⟨by decide, by decide⟩) ((hown 16).2 ⟨by decide, by decide⟩) ((hown 17).2 ⟨by decide, by decide⟩) (by decide) (by decide) (by decide) (fun j hj => (hΦ j ((hown j).1 hj).1).2)
 obtain ⟨gs, hv15, hm15⟩ : ∃ g, V 15 = SlN g n /\ M 15 = [(g, Row 2 (il (List.replicate n 0)))] := (hΦ 15 (by decide)).1
 obtain ⟨gb, hv16, hm16⟩ : ∃ g, V 16 = SlN g n /\ M 16 = [(g, Row 3 (il (List.replicate n 0)))] := (hΦ 16 (by decide)).1
 obtain ⟨gd, hv17, hm17⟩ : ∃ g, V 17 = SlN g n /\ M 17 = [(g, Row 4 (bls (List.replicate n false)))] := (hΦ 17 (by decide)).1
 have o15 := (hΦ 15 (by decide)).2
 have o16 := (hΦ 16 (by decide)).2
 have o17 := (hΦ 17 (by decide)).2
 rw [hm15] at o15
 rw [hm16] at o16
 rw [hm17] at o17
 rw [hm15, hm16, hm17] at hs
 have hgs := o15.head
 have hgb := o16.head
 have hgd := o17.head
 have e2 : Lk.look E 2 = some (SlN gs n) := by rw [hlook 15 _ _ rfl rfl, hv15]
 have e3 : Lk.look E 3 = some (SlN gb n) := by rw [hlook 16 _ _ rfl rfl, hv16]
 have e4 : Lk.look E 4 = some (SlN gd n) := by rw [hlook 17 _ _ rfl rfl, hv17]
 refine Nx_env (e := [(0, .pointer (some ⟨B, 0, none⟩)), (2, SlN gs n), (3, SlN gb n), (4, SlN gd n)]) ?_ (jdN (hold 0 _ rfl (nd (by kernel_rfl))) (jdN e2 (jdN e3 (jdN e4 jkL))))
 clear hΦ hown hold hlook hnd hm15 hv15 hm16 hv16 hm17 hv17 e2 e3 e4 o15 o16 o17
 replace hs : HS w0 w (jpG B c u v o h gs gb gd n C (List.replicate n 0) (List.replicate n 0) (List.replicate n (-1)) (List.replicate n 0) (List.replicate n 0) (List.replicate n 0) (List.replicate n false)) := hs
 refine Nt (Wqq (Lm rfl (Ln rfl (Lf 0 jcW rfl i_3 (Ll o_3 rfl (by exact hs.cellA (i := 5) rfl rfl) ?_)))))
 refine Lm rfl (Rt (ja4 ?_))
 refine W_loop8 (fun (i : Nat) (U : List Int) (V : List Int) (of : List Int) (slack : List Int) (back : List Int) (done : List Bool) (w : World) => [(0, .pointer (some ⟨B, 0, none⟩)), (2, SlN gs n), (3, SlN gb n), (4, SlN gd n), (36, .int .i64 n), (37, .int .i64 i)]) (fun i U V of slack back done w => w) (fun i U V of slack back done w => (i <= n) /\ (U.length = n) /\ (V.length = n) /\ (of.length = n) /\ (slack.length = n) /\ (back.length = n) /\ (done.length = n) /\ (Sq n (cf n C) i (gi of) (gi U) (gi V)) /\ ((∀ r, r < n -> 0 <= gi U r /\ gi U r <= BB) /\ ∀ j, j < n -> -BB <= gi V j /\ gi V j <= 0) /\ (HS w0 w (jpG B c u v o h gs gb gd n C U V of (List.replicate n 0) slack back done))) (fun i U V of slack back done w => n - i) (0) (List.replicate n 0) (List.replicate n 0) (List.replicate n (-1)) (List.replicate n 0) (List.replicate n 0) (List.replicate n false) (w) (is := [0, 2, 3, 4, 36, 37]) rfl rfl ?_ ?_
 ·
  refine ⟨Nat.zero_le _, by simp, by simp, by simp, by simp, by simp, by simp, Sq.zero (fun j hj => grep hj) (fun r => ?_) (fun r => ?_), ⟨fun r _ => by rw [jpR]; decide, fun r _ => by rw [jpR]; decide⟩, hs⟩
  ·
   exact jpR n r
  exact jpR n r
 clear hs hG
 intro i U V of slack back done w hI
 show W _ _ _ _ [(0, .pointer (some ⟨B, 0, none⟩)), (2, SlN gs n), (3, SlN gb n), (4, SlN gd n), (36, .int .i64 n), (37, .int .i64 i)] w
 obtain ⟨hi, hUl, hVl, hol, hsl, hbl, hdl, hSq, hbnd, hs⟩ := hI
 by_cases hlt : i < n
 ·
  refine Wq (jaZ rfl (jaF (by omega)) ?_)
  refine Rt (Wsq (Wt rfl (Ws (Wsq (ja4 (Wq (Lm rfl (La rfl (Rt (Wsq (Wr (Lm rfl ?_))))))))))))
  refine L_clear hs (i := 8) rfl jfC i_4 rfl (by rw [bls_length]; exact hdl) (by omega) rfl rfl ?_
  intro w hs
  dsimp only [sS, sZ, sA, sN] at hs
  refine Rqq (Lm rfl (Le jbK rfl (Lm rfl (Rt (ja4 ?_)))))
  rw [jrF] at hs
  refine jcK (fun (j : Nat) (slack : List Int) (back : List Int) (w : World) => [(0, .pointer (some ⟨B, 0, none⟩)), (2, SlN gs n), (3, SlN gb n), (4, SlN gd n), (5, .int .i64 i), (36, .int .i64 n), (37, .int .i64 i), (42, .int .i64 n), (43, .int .i64 j)]) (fun j slack back w => w) (fun j slack back w => (j <= n) /\ (slack.length = n) /\ (back.length = n) /\ (∀ k, k < j -> gi slack k = 4611686018427387904) /\ (HS w0 w (jpG B c u v o h gs gb gd n C U V of (List.replicate n 0) slack back (List.replicate n false)))) (fun j slack back w => n - j) (0) (slack) (back) (w) (is := [0, 2, 3, 4, 5, 36, 37, 42, 43]) rfl rfl ?_ ?_
  ·
   exact ⟨Nat.zero_le _, hsl, hbl, fun _ h => absurd h (Nat.not_lt_zero _), hs⟩
  clear hs hsl hbl hdl
  intro j slack back w hI
  show W _ _ _ _ [(0, .pointer (some ⟨B, 0, none⟩)), (2, SlN gs n), (3, SlN gb n), (4, SlN gd n), (5, .int .i64 i), (36, .int .i64 n), (37, .int .i64 i), (42, .int .i64 n), (43, .int .i64 j)] w
  obtain ⟨hj, hsl, hbl, hsk, hs⟩ := hI
  by_cases hlt2 : j < n
  ·
   refine Wq (jaZ rfl (jaF (by omega)) ?_)
   refine Rt (Wsq (Wt rfl (Ws (Wsq (ja4 (Wq (Lm rfl (La rfl (Rr (Lmm rfl rfl (Lmm rfl rfl (Li jbK i_2 rfl (ja6 _) (by omega) rfl ?_))))))))))))
   refine jaH hs (i := 6) rfl i_2 rfl rfl (by exact jaM _ _) (by simp; omega) rfl ?_
   intro w hs
   dsimp only [sS, sZ, sA, sN] at hs
   refine Li jbW i_3 rfl (ja6 _) (by omega) rfl ?_
   refine jaH hs (i := 7) rfl i_3 rfl rfl (by exact jaM _ _) (by simp; omega) rfl ?_
   intro w hs
   dsimp only [sS, sZ, sA, sN] at hs
   refine Rnl (jaB (Nt (Wr (jbG rfl (ja3 (by omega)) ?_))))
   refine Lm rfl (Rnl ?_)
   rw [jc3, jc3] at hs
   refine Nq (j + 1, slack.set j 4611686018427387904, back.set j (-1), w) [0, 2, 3, 4, 5, 36, 37, 42, 43] rfl ?_ ?_
   ·
    dsimp only
    refine ⟨by omega, by simp [hsl], by simp [hbl], fun k hk => ?_, hs⟩
    rw [gi, jfW (by omega)]
    split
    ·
     rfl
    exact hsk k (by omega)
   omega
  refine Wq (jaZ rfl (jaA (by omega)) ?_)
  refine Rt (Wsq (Wf rfl (jaK (ja0 (ja8 (ja1 (Nt (Wq (Lm rfl (La rfl (La rfl (Rt (Wsq (ja4 ?_))))))))))))))
  have hjn : j = n := by omega
  rw [hjn] at hsk
  have hTr := hSq.enter (slack := gi slack) (back := gi back) (done := gbo (List.replicate n false)) (fun k hk => (hC.rng i k hlt hk).1) hsk (fun k hk => grep hk)
  clear hsk hjn hlt2 hj hSq
  refine jpE (fun (U : List Int) (V : List Int) (slack : List Int) (back : List Int) (done : List Bool) (last : Int) (w : World) => [(0, .pointer (some ⟨B, 0, none⟩)), (2, SlN gs n), (3, SlN gb n), (4, SlN gd n), (5, .int .i64 i), (7, .int .i64 (rI i of last)), (8, .int .i64 last), (36, .int .i64 n), (37, .int .i64 i)]) (fun U V slack back done last w => w) (fun U V slack back done last w => (U.length = n) /\ (V.length = n) /\ (slack.length = n) /\ (back.length = n) /\ (done.length = n) /\ (∃ pos t, Tr n (cf n C) i (gi of) (gi U) (gi V) (gi slack) (gi back) (gbo done) pos t last) /\ (HS w0 w (jpG B c u v o h gs gb gd n C U V of (List.replicate n 0) slack back done))) (fun U V slack back done last w => done.count false) (U) (V) (slack) (back) (List.replicate n false) (-1) (w) (is := [0, 2, 3, 4, 5, 7, 8, 36, 37]) rfl rfl ?_ ?_
  ·
   exact ⟨hUl, hVl, hsl, hbl, by simp, ⟨_, _, hTr⟩, hs⟩
  clear hs hTr hUl hVl hsl hbl
  intro U V slack back done last w hI
  show W _ _ _ _ [(0, .pointer (some ⟨B, 0, none⟩)), (2, SlN gs n), (3, SlN gb n), (4, SlN gd n), (5, .int .i64 i), (7, .int .i64 (rI i of last)), (8, .int .i64 last), (36, .int .i64 n), (37, .int .i64 i)] w
  obtain ⟨hUl, hVl, hsl, hbl, hdl, ⟨pos, t, hTr⟩, hs⟩ := hI
  obtain ⟨hbU, hbV⟩ := hTr.bounds hlt hC.rng
  have hlast : last = -1 ∨ (0 <= last /\ last.toNat < n) := by
   rcases hTr.lastr with h5 | h5
   ·
    exact .inl h5.1
   exact .inr ⟨h5.1, h5.2.1⟩
  by_cases hr : 0 <= rI i of last
  ·
   have hl : last = -1 ∨ 0 <= gi of last.toNat := by
    rcases hlast with h5 | h5
    ·
     exact .inl h5
    right; unfold rI at hr; rw [if_neg (by omega)] at hr; exact hr
   obtain ⟨rn, hrn, hrnn, hrro⟩ : ∃ rn : Nat, rI i of last = (rn : Int) /\ rn < n /\ ro i (gi of) last = rn := by
    unfold rI ro at *
    rcases hlast with h5 | h5
    ·
     rw [if_pos (by omega), if_pos (by omega)]; exact ⟨i, rfl, hlt, rfl⟩
    rw [if_neg (by omega), if_neg (by omega)]
    rcases hTr.mat.ran _ h5.2 with h6 | h6
    ·
     omega
    exact ⟨(gi of last.toNat).toNat, by omega, by omega, rfl⟩
   rw [hrn]
   clear hr
   have hBox : w.heap[B]? = some (Row 123 (jgL n c u v o h)) := hs.has (B, _) (by simp)
   refine Wqq (Lm rfl (jgM rfl (jaF (by omega)) ?_))
   refine Rt (Wt rfl (Ws (ja4 (Wq (La rfl (Rqq (Lm rfl (Lm rfl (Lc f_68 rfl (row_ok B c u v o h n rn w hBox h1 h2 hrnn) ?_)))))))))
   rintro _ w' ⟨rfl, hs'⟩
   replace hs := hs.nil hs'
   clear hs' hBox
   refine Le jbK rfl (Lm rfl (Rt (ja4 ?_)))
   refine jrK (fun (j : Nat) (slack' : List Int) (back' : List Int) (best : Int) (w : World) => [(0, .pointer (some ⟨B, 0, none⟩)), (2, SlN gs n), (3, SlN gb n), (4, SlN gd n), (5, .int .i64 i), (7, .int .i64 rn), (8, .int .i64 last), (9, .int .i64 best), (36, .int .i64 n), (37, .int .i64 i), (58, .slice (some ⟨c, rn * n, none⟩) n n), (59, .int .i64 n), (60, .int .i64 j)]) (fun j slack' back' best w => w) (fun j slack' back' best w => (j <= n) /\ (slack'.length = n) /\ (back'.length = n) /\ (∀ k, k < n -> gbo done k = false -> (k < j -> gi slack' k = if cf n C rn k - gi U rn - gi V k < gi slack k then cf n C rn k - gi U rn - gi V k else gi slack k) /\ (j <= k -> gi slack' k = gi slack k)) /\ (∀ k, k < n -> (k < j -> gbo done k = false -> gi back' k = if cf n C rn k - gi U rn - gi V k < gi slack k then last else gi back k) /\ (j <= k ∨ gbo done k = true -> gi back' k = gi back k)) /\ ((best = -1 /\ ∀ k, k < j -> gbo done k = true) ∨ (0 <= best /\ best < j /\ gbo done best.toNat = false /\ ∀ k, k < j -> gbo done k = false -> gi slack' best.toNat <= gi slack' k)) /\ (HS w0 w (jpG B c u v o h gs gb gd n C U V of (List.replicate n 0) slack' back' done))) (fun j slack' back' best w => n - j) (0) (slack) (back) (-1) (w') (is := [0, 2, 3, 4, 5, 7, 8, 9, 36, 37, 58, 59, 60]) rfl rfl ?_ ?_
   ·
    exact ⟨Nat.zero_le _, hsl, hbl, fun k _ _ => ⟨fun h => absurd h (Nat.not_lt_zero _), fun _ => rfl⟩, fun k _ => ⟨fun h => absurd h (Nat.not_lt_zero _), fun _ => rfl⟩, .inl ⟨rfl, fun _ h => absurd h (Nat.not_lt_zero _)⟩, hs⟩
   clear hs
   intro j slack' back' best w hI
   show W _ _ _ _ [(0, .pointer (some ⟨B, 0, none⟩)), (2, SlN gs n), (3, SlN gb n), (4, SlN gd n), (5, .int .i64 i), (7, .int .i64 rn), (8, .int .i64 last), (9, .int .i64 best), (36, .int .i64 n), (37, .int .i64 i), (58, .slice (some ⟨c, rn * n, none⟩) n n), (59, .int .i64 n), (60, .int .i64 j)] w
   obtain ⟨hj, hsl', hbl', hS1, hS2, hbest, hs⟩ := hI
   by_cases hlt2 : j < n
   ·
    have hjc := idx_lt hrnn hlt2
    have hcr : 0 <= C.getD (rn * n + j) 0 /\ C.getD (rn * n + j) 0 <= 4503599627370496 := hC.rng rn j hrnn hlt2
    have hUr : 0 <= U.getD rn 0 /\ U.getD rn 0 <= 4503599627370496 := hbU rn hrnn
    have hVj : -4503599627370496 <= V.getD j 0 /\ V.getD j 0 <= 0 := hbV j hlt2
    refine Wq (jaZ rfl (jaF (by omega)) ?_)
    refine Rt (Wsq (Wt rfl (Ws (Wsq (ja4 (Wq (Lm rfl (Li jbK i_2 rfl (ja6 _) (by omega) rfl ?_))))))))
    refine Ll o_2 rfl (by rw [Addr.add_lit]; exact hs.cell (i := 0) rfl (jaV (by omega))) ?_
    refine La rfl (La rfl (Rqq (Lmm rfl rfl (Li jfC i_4 rfl (ja6 _) (by omega) rfl ?_))))
    refine Ll o_4 rfl (by exact hs.cellA (i := 8) rfl (jfN (by omega))) ?_
    refine Rt ?_
    by_cases hd : gbo done j = true
    ·
     rw [show done.getD j false = true from hd]
     refine Wt rfl (jaK (ja0 (ja1 (Nt (Wr (jbG rfl (ja3 (by omega)) ?_))))))
     refine Lm rfl (Rnl (Nq (j + 1, slack', back', best, _) [0, 2, 3, 4, 5, 7, 8, 9, 36, 37, 58, 59, 60] rfl ?_ ?_))
     ·
      dsimp only
      refine ⟨by omega, hsl', hbl', fun k hk hkd => ?_, fun k hk => ?_, ?_, hs⟩
      ·
       have hkj : k ≠ j := fun he => by rw [he, hd] at hkd; cases hkd
       exact ⟨fun h => (hS1 k hk hkd).1 (by omega), fun h => (hS1 k hk hkd).2 (by omega)⟩
      ·
       refine ⟨fun h hkd => ?_, fun h => ?_⟩
       ·
        have hkj : k ≠ j := fun he => by rw [he, hd] at hkd; cases hkd
        exact (hS2 k hk).1 (by omega) hkd
       exact (hS2 k hk).2 (by rcases h with h | h; exact .inl (by omega); exact .inr h)
      rcases hbest with ⟨h5, h6⟩ | ⟨h5, h6, h7, h8⟩
      ·
       refine .inl ⟨h5, fun k hk => ?_⟩
       by_cases hkj : k = j
       ·
        rw [hkj]; exact hd
       exact h6 k (by omega)
      refine .inr ⟨h5, by omega, h7, fun k hk hkd => ?_⟩
      have hkj : k ≠ j := fun he => by rw [he, hd] at hkd; cases hkd
      exact h8 k (by omega) hkd
     omega
    rw [Bool.not_eq_true] at hd
    rw [show done.getD j false = false from hd]
    refine Wf rfl (Ws (Wsq (Wsq (jcH [0, 1, 2, 3, 5, 9, 10, 11, 13] [4, 6, 7, 8, 12, 14, 15, 16, 17] [] (fun _ _ _ => False) Tryz.mixed (by kernel_rfl) (fun _ _ _ _ _ h => h) hs ?_))))
    refine Pm rfl (Pm rfl (Pn rfl (Pfa 2 jcW rfl jd1 (Pm rfl (Pm rfl (Pn rfl (Pfa 3 jcW rfl jd1 (Pm rfl (jbH (Hv rfl (fun w hs => jaN jdR rfl (by exact hs.cellA (i := 5) rfl rfl)) ?_))))))))))
    refine Hx jbK i_2 rfl (ja6 _) (by omega) rfl ?_
    refine Hl o_2 rfl (fun w hs => (by exact hs.cellA (i := 1) rfl (jaV (by omega)))) ?_
    refine Hv rfl (fun w hs => jkS rfl rfl (ja3 (by omega))) ?_
    refine Hl jdR rfl (fun w hs => (by exact hs.cellA (i := 5) rfl rfl)) ?_
    refine Hx jbK i_2 rfl (ja6 _) (by omega) rfl ?_
    refine Hl o_2 rfl (fun w hs => (by exact hs.cellA (i := 2) rfl (jaV (by omega)))) ?_
    refine Hv rfl (fun w hs => jkS rfl rfl (ja3 (by omega))) ?_
    refine Hv rfl (fun w hs => jbS rfl) ?_
    refine jb2 ?_
    intro w hs
    refine Rq (Lmm rfl rfl (Lm rfl (Li jbK i_2 rfl (ja6 _) (by omega) rfl ?_)))
    refine Ll o_2 rfl (by exact hs.cellA (i := 6) rfl (jaV (by omega))) ?_
    refine jaZ rfl rfl (Rt (jpF (fun (slack1 : List Int) (back1 : List Int) (w : World) => [(0, .pointer (some ⟨B, 0, none⟩)), (2, SlN gs n), (3, SlN gb n), (4, SlN gd n), (5, .int .i64 i), (7, .int .i64 rn), (8, .int .i64 last), (9, .int .i64 best), (10, .int .i64 j), (36, .int .i64 n), (37, .int .i64 i), (58, .slice (some ⟨c, rn * n, none⟩) n n), (59, .int .i64 n), (60, .int .i64 j)]) (fun slack1 back1 w => w) (fun slack1 back1 w => (slack1.length = n) /\ (back1.length = n) /\ (gi slack1 j = if cf n C rn j - gi U rn - gi V j < gi slack j then cf n C rn j - gi U rn - gi V j else gi slack j) /\ (∀ k, k ≠ j -> gi slack1 k = gi slack' k) /\ (gi back1 j = if cf n C rn j - gi U rn - gi V j < gi slack j then last else gi back j) /\ (∀ k, k ≠ j -> gi back1 k = gi back' k) /\ (HS w0 w (jpG B c u v o h gs gb gd n C U V of (List.replicate n 0) slack1 back1 done))) ?_ ?_))
    ·
     have hsj := (hS1 j hlt2 hd).2 (Nat.le_refl _)
     have hbj := (hS2 j hlt2).2 (.inl (Nat.le_refl _))
     by_cases hdl2 : cf n C rn j - gi U rn - gi V j < gi slack j
     ·
      refine jcG 91 (v' := .bool true) rfl (by rw [decide_eq_true (by rw [<- hsj] at hdl2; exact hdl2)]) ?_
      refine Wt rfl (Wr (Lmm rfl rfl (Lmm rfl rfl (Lmm rfl rfl (Li jbK i_2 rfl (ja6 _) (by omega) rfl ?_)))))
      refine jaH hs (i := 6) rfl i_2 rfl rfl (by exact jaM _ _) (by simp; omega) rfl ?_
      intro w hs
      dsimp only [sS, sZ, sA, sN] at hs
      refine Li jbW i_3 rfl (ja6 _) (by omega) rfl ?_
      refine jaH hs (i := 7) rfl i_3 rfl rfl (by exact jaM _ _) (by simp; omega) rfl ?_
      intro w hs
      dsimp only [sS, sZ, sA, sN] at hs
      refine Rnl ?_
      rw [jc3, jc3] at hs
      refine jbD (slack'.set j (cf n C rn j - gi U rn - gi V j), back'.set j last, _) (is := [0, 2, 3, 4, 5, 7, 8, 9, 10, 36, 37, 58, 59, 60]) (I' := (fun (slack1 : List Int) (back1 : List Int) (w : World) => (slack1.length = n) /\ (back1.length = n) /\ (gi slack1 j = if cf n C rn j - gi U rn - gi V j < gi slack j then cf n C rn j - gi U rn - gi V j else gi slack j) /\ (∀ k, k ≠ j -> gi slack1 k = gi slack' k) /\ (gi back1 j = if cf n C rn j - gi U rn - gi V j < gi slack j then last else gi back j) /\ (∀ k, k ≠ j -> gi back1 k = gi back' k) /\ (HS w0 w (jpG B c u v o h gs gb gd n C U V of (List.replicate n 0) slack1 back1 done))) (slack'.set j (cf n C rn j - gi U rn - gi V j)) (back'.set j last) (_)) rfl rfl rfl ?_
      refine ⟨by simp [hsl'], by simp [hbl'], ?_, fun k hk => ?_, ?_, fun k hk => ?_, hs⟩
      ·
       rw [if_pos hdl2, gi, jfW (by omega), if_pos rfl]
      ·
       rw [gi, jfW (by omega), if_neg hk]
      ·
       rw [if_pos hdl2, gi, jfW (by omega), if_pos rfl]
      rw [gi, jfW (by omega), if_neg hk]
     refine jcG 91 (v' := .bool false) rfl (by rw [decide_eq_false (by rw [<- hsj] at hdl2; exact hdl2)]) ?_
     refine Wf rfl (jaY (jbD (slack', back', _) (is := [0, 2, 3, 4, 5, 7, 8, 9, 10, 36, 37, 58, 59, 60]) (I' := (fun (slack1 : List Int) (back1 : List Int) (w : World) => (slack1.length = n) /\ (back1.length = n) /\ (gi slack1 j = if cf n C rn j - gi U rn - gi V j < gi slack j then cf n C rn j - gi U rn - gi V j else gi slack j) /\ (∀ k, k ≠ j -> gi slack1 k = gi slack' k) /\ (gi back1 j = if cf n C rn j - gi U rn - gi V j < gi slack j then last else gi back j) /\ (∀ k, k ≠ j -> gi back1 k = gi back' k) /\ (HS w0 w (jpG B c u v o h gs gb gd n C U V of (List.replicate n 0) slack1 back1 done))) (slack') (back') (_)) rfl rfl rfl ?_))
     exact ⟨hsl', hbl', by rw [if_neg hdl2]; exact hsj, fun _ _ => rfl, by rw [if_neg hdl2]; exact hbj, fun _ _ => rfl, hs⟩
    clear hs
    intro slack1 back1 w hI
    show W _ _ _ _ [(0, .pointer (some ⟨B, 0, none⟩)), (2, SlN gs n), (3, SlN gb n), (4, SlN gd n), (5, .int .i64 i), (7, .int .i64 rn), (8, .int .i64 last), (9, .int .i64 best), (10, .int .i64 j), (36, .int .i64 n), (37, .int .i64 i), (58, .slice (some ⟨c, rn * n, none⟩) n n), (59, .int .i64 n), (60, .int .i64 j)] w
    obtain ⟨hsl1, hbl1, hs1j, hs1k, hb1j, hb1k, hs⟩ := hI
    have hN1 : ∀ k, k < n -> gbo done k = false -> (k < j + 1 -> gi slack1 k = if cf n C rn k - gi U rn - gi V k < gi slack k then cf n C rn k - gi U rn - gi V k else gi slack k) /\ (j + 1 <= k -> gi slack1 k = gi slack k) := fun k hk hkd => by
     by_cases hkj : k = j
     ·
      rw [hkj]; exact ⟨fun _ => hs1j, fun h => absurd h (by omega)⟩
     rw [hs1k k hkj]; exact ⟨fun h => (hS1 k hk hkd).1 (by omega), fun h => (hS1 k hk hkd).2 (by omega)⟩
    have hN2 : ∀ k, k < n -> (k < j + 1 -> gbo done k = false -> gi back1 k = if cf n C rn k - gi U rn - gi V k < gi slack k then last else gi back k) /\ (j + 1 <= k ∨ gbo done k = true -> gi back1 k = gi back k) := fun k hk => by
     by_cases hkj : k = j
     ·
      rw [hkj]; exact ⟨fun _ _ => hb1j, fun h => by rcases h with h | h; omega; rw [hd] at h; cases h⟩
     rw [hb1k k hkj]; exact ⟨fun h => (hS2 k hk).1 (by omega), fun h => (hS2 k hk).2 (by rcases h with h | h; exact .inl (by omega); exact .inr h)⟩
    rcases hbest with ⟨h5, h6⟩ | ⟨h5, h6, h7, h8⟩
    ·
     subst h5
     refine Wsq (jcH [0, 1, 2, 3, 4, 5, 7, 8, 9] [6, 10, 11, 12] [] (fun _ _ _ => False) Tryz.mixed (by kernel_rfl) (fun _ _ _ _ _ h => h) hs ?_)
     refine Pm rfl (Pv rfl (fun w => jpT rfl rfl (jaF (by omega))) ?_)
     refine Pm rfl (jmA rfl rfl rfl rfl (jmA rfl rfl rfl rfl (jmA rfl rfl rfl rfl (jmA rfl rfl rfl rfl (jmA rfl rfl rfl rfl (jmA rfl rfl rfl rfl (jbH (jaU rfl rfl rfl rfl (jaU rfl rfl rfl rfl (jaU rfl rfl rfl rfl (Hv rfl (fun w hs => jf7 rfl rfl) ?_)))))))))))
     refine jb2 ?_
     intro w hs
     refine Rt (Wt rfl (Wr (Lm rfl (La rfl (Rnl (jaB (Nt (Wr (jbG rfl (ja3 (by omega)) ?_)))))))))
     refine Lm rfl (Rnl (Nq (j + 1, slack1, back1, j, _) [0, 2, 3, 4, 5, 7, 8, 9, 36, 37, 58, 59, 60] rfl ?_ ?_))
     ·
      dsimp only
      refine ⟨by omega, hsl1, hbl1, hN1, hN2, .inr ⟨by omega, by omega, by rw [Int.toNat_natCast]; exact hd, fun k hk hkd => ?_⟩, hs⟩
      rw [Int.toNat_natCast]
      by_cases hkj : k = j
      ·
       rw [hkj]; exact Int.le_refl _
      rw [h6 k (by omega)] at hkd; cases hkd
     omega
    obtain ⟨bn, rfl⟩ : ∃ bn : Nat, best = (bn : Int) := ⟨best.toNat, by omega⟩
    rw [Int.toNat_natCast] at h7 h8
    by_cases hcm : gi slack1 j < gi slack1 bn
    ·
     refine Wsq (jcH [0, 1, 2, 3, 4, 5, 7, 8, 9] [6, 10, 11, 12] [] (fun _ _ _ => False) Tryz.mixed (by kernel_rfl) (fun _ _ _ _ _ h => h) hs ?_)
     refine Pm rfl (Pv rfl (fun w => jpT rfl rfl (jaA (by omega))) ?_)
     refine Pm rfl (jf3 rfl rfl rfl (fun w => jhW rfl) ?_)
     refine jf3 rfl rfl rfl (fun w => jhW rfl) ?_
     refine jf3 rfl rfl rfl (fun w => jdC jbK i_2 rfl rfl (ja6 _) (by omega) rfl) ?_
     refine jf3 rfl rfl rfl (fun w => jhW rfl) ?_
     refine jf3 rfl rfl rfl (fun w => jhW rfl) ?_
     refine jf3 rfl rfl rfl (fun w => jdC jbK i_2 rfl rfl (ja6 _) (by omega) rfl) ?_
     refine jbH (Hw rfl rfl (Hv rfl (fun w hs => jaN o_2 rfl (by exact hs.cellA (i := 6) rfl (jaV (by omega)))) ?_))
     refine Hw rfl rfl (Hv rfl (fun w hs => jaN o_2 rfl (by exact hs.cellA (i := 6) rfl (jaV (by omega)))) ?_)
     refine Hw rfl rfl (Hv rfl (fun w hs => jpT rfl rfl (jaF (by omega))) ?_)
     refine Hv rfl (fun w hs => jf8 rfl rfl) ?_
     refine jb2 ?_
     intro w hs
     refine Rt (Wt rfl (Wr (Lm rfl (La rfl (Rnl (jaB (Nt (Wr (jbG rfl (ja3 (by omega)) ?_)))))))))
     refine Lm rfl (Rnl (Nq (j + 1, slack1, back1, j, _) [0, 2, 3, 4, 5, 7, 8, 9, 36, 37, 58, 59, 60] rfl ?_ ?_))
     ·
      dsimp only
      refine ⟨by omega, hsl1, hbl1, hN1, hN2, .inr ⟨by omega, by omega, by rw [Int.toNat_natCast]; exact hd, fun k hk hkd => ?_⟩, hs⟩
      rw [Int.toNat_natCast]
      by_cases hkj : k = j
      ·
       rw [hkj]; exact Int.le_refl _
      have := h8 k (by omega) hkd
      rw [<- hs1k k hkj, <- hs1k bn (by omega)] at this
      omega
     omega
    refine Wsq (jcH [0, 1, 2, 3, 4, 5, 7, 8, 9] [6, 10, 11, 12] [] (fun _ _ _ => False) Tryz.mixed (by kernel_rfl) (fun _ _ _ _ _ h => h) hs ?_)
    refine Pm rfl (Pv rfl (fun w => jpT rfl rfl (jaA (by omega))) ?_)
    refine Pm rfl (jf3 rfl rfl rfl (fun w => jhW rfl) ?_)
    refine jf3 rfl rfl rfl (fun w => jhW rfl) ?_
    refine jf3 rfl rfl rfl (fun w => jdC jbK i_2 rfl rfl (ja6 _) (by omega) rfl) ?_
    refine jf3 rfl rfl rfl (fun w => jhW rfl) ?_
    refine jf3 rfl rfl rfl (fun w => jhW rfl) ?_
    refine jf3 rfl rfl rfl (fun w => jdC jbK i_2 rfl rfl (ja6 _) (by omega) rfl) ?_
    refine jbH (Hw rfl rfl (Hv rfl (fun w hs => jaN o_2 rfl (by exact hs.cellA (i := 6) rfl (jaV (by omega)))) ?_))
    refine Hw rfl rfl (Hv rfl (fun w hs => jaN o_2 rfl (by exact hs.cellA (i := 6) rfl (jaV (by omega)))) ?_)
    refine Hw rfl rfl (Hv rfl (fun w hs => jpT rfl rfl (jaA (by omega))) ?_)
    refine Hv rfl (fun w hs => jf8 rfl rfl) ?_
    refine jb2 ?_
    intro w hs
    refine Rt (Wf rfl (jaY (jaB (Nt (Wr (jbG rfl (ja3 (by omega)) ?_))))))
    refine Lm rfl (Rnl (Nq (j + 1, slack1, back1, (bn : Int), _) [0, 2, 3, 4, 5, 7, 8, 9, 36, 37, 58, 59, 60] rfl ?_ ?_))
    ·
     dsimp only
     refine ⟨by omega, hsl1, hbl1, hN1, hN2, .inr ⟨by omega, by omega, by rw [Int.toNat_natCast]; exact h7, fun k hk hkd => ?_⟩, hs⟩
     rw [Int.toNat_natCast]
     by_cases hkj : k = j
     ·
      rw [hkj]; omega
     have := h8 k (by omega) hkd
     rw [<- hs1k k hkj, <- hs1k bn (by omega)] at this
     exact this
    omega
   refine Wq (jaZ rfl (jaA (by omega)) ?_)
   refine Rt (Wsq (Wf rfl ?_))
   obtain ⟨f0, hf0, hf0d⟩ := hTr.some_undone hlt hl
   have hjn : j = n := by omega
   rcases hbest with ⟨h5, h6⟩ | ⟨h5, h6, hbd, hbmin⟩
   ·
    rw [h6 f0 (by omega)] at hf0d; cases hf0d
   obtain ⟨bn, rfl⟩ : ∃ bn : Nat, best = (bn : Int) := ⟨best.toNat, by omega⟩
   rw [Int.toNat_natCast] at hbd hbmin
   have hbn : bn < n := by omega
   rw [hjn] at hbmin
   have hA1 : ∀ k, k < n -> gbo done k = false -> gi slack' k = if cf n C rn k - gi U rn - gi V k < gi slack k then cf n C rn k - gi U rn - gi V k else gi slack k := fun k hk hkd => (hS1 k hk hkd).1 (by omega)
   have hA2 : ∀ k, k < n -> gbo done k = false -> gi back' k = if cf n C rn k - gi U rn - gi V k < gi slack k then last else gi back k := fun k hk hkd => (hS2 k hk).1 (by omega) hkd
   have hA3 : ∀ k, k < n -> gbo done k = true -> gi back' k = gi back k := fun k hk hkd => (hS2 k hk).2 (.inr hkd)
   clear hS1 hS2 hlt2 hj hjn h5 h6 hf0 hf0d
   obtain ⟨by', hby'⟩ : ∃ by', by' = gi slack' bn := ⟨_, rfl⟩
   have hup : ∀ k, k < n -> gbo done k = false -> 0 <= gi slack' k /\ gi slack' k <= 9007199254740992 := fun k hk hkd => by
    have b1 : 0 <= cf n C rn k /\ cf n C rn k <= 4503599627370496 := hC.rng rn k hrnn hk
    have b2 : 0 <= gi U rn /\ gi U rn <= 4503599627370496 := hbU rn hrnn
    have b3 : -4503599627370496 <= gi V k /\ gi V k <= 0 := hbV k hk
    have b4 := hTr.feas rn (by rw [<- hrro]; exact hTr.ro_le (by rcases hTr.lastr with h5 | h5; exact .inl h5.1; exact .inr ⟨h5.1, h5.2.1, h5.2.2.1⟩)) k hk
    have b5 : 0 <= gi slack k := by
     rcases hTr.sl k hk hkd with h5 | h5
     ·
      omega
     have := hTr.feas _ (hTr.ro_le h5.1) k hk
     omega
    rw [hA1 k hk hkd]
    split <;> omega
   have hby : 0 <= by' /\ by' <= 9007199254740992 := by rw [hby']; exact hup bn hbn hbd
   have hUi : 0 <= U.getD i 0 /\ U.getD i 0 <= 4503599627370496 := hbU i hlt
   have hdof : ∀ k, k < n -> gbo done k = true -> 0 <= gi of k /\ gi of k < i := fun k hk hkd => by
    have h5 : 0 <= gi of k := by
     by_cases hkl : (k : Int) = last
     ·
      rcases hl with h5 | h5
      ·
       omega
      rw [<- hkl, Int.toNat_natCast] at h5; exact h5
     exact hTr.dn k hk hkd hkl
    rcases hTr.mat.ran k hk with h6 | h6 <;> omega
   refine jaK (ja0 (ja8 (ja1 (Nt (Wq (Lmm rfl rfl (Li jbK i_2 rfl (ja6 _) (by omega) rfl ?_)))))))
   refine Ll o_2 rfl (by exact hs.cellA (i := 6) rfl (jaV (by omega))) ?_
   refine La rfl (Rq ?_)
   rw [show slack'.getD bn 0 = by' from hby'.symm]
   refine Lm rfl (Ln rfl (Lf 2 jcW rfl jd1 (Ll jdR rfl (by exact hs.cellA (i := 5) rfl rfl) ?_)))
   refine Lm rfl (Li jbK i_2 rfl (ja6 _) (by omega) rfl ?_)
   refine Ll o_2 rfl (by exact hs.cellA (i := 1) rfl (jaV (by omega))) ?_
   refine Lm rfl (jbG rfl (ja3 (by omega)) ?_)
   refine Li jbK i_2 rfl (ja6 _) (by omega) rfl ?_
   refine jaH hs (i := 1) rfl i_2 rfl rfl (by exact jaM _ _) (by simp; omega) rfl ?_
   intro w hs
   dsimp only [sS, sZ, sA, sN] at hs
   refine Rqq (Lm rfl (Le jbK rfl (Lm rfl (Rt (ja4 ?_)))))
   rw [jc3] at hs
   refine jrK (fun (j : Nat) (U' : List Int) (V' : List Int) (slk : List Int) (w : World) => [(0, .pointer (some ⟨B, 0, none⟩)), (2, SlN gs n), (3, SlN gb n), (4, SlN gd n), (5, .int .i64 i), (9, .int .i64 bn), (13, .int .i64 by'), (36, .int .i64 n), (37, .int .i64 i), (130, .int .i64 n), (131, .int .i64 j)]) (fun j U' V' slk w => w) (fun j U' V' slk w => (j <= n) /\ (U'.length = n) /\ (V'.length = n) /\ (slk.length = n) /\ (gi U' i = gi U i + by') /\ (∀ k, k < j -> gbo done k = true -> gi U' (gi of k).toNat = gi U (gi of k).toNat + by') /\ (∀ r, r ≠ i -> (∀ k, k < j -> gbo done k = true -> (gi of k).toNat ≠ r) -> gi U' r = gi U r) /\ (∀ k, k < n -> (k < j -> gi V' k = if gbo done k then gi V k - by' else gi V k) /\ (j <= k -> gi V' k = gi V k)) /\ (∀ k, k < n -> gbo done k = false -> (k < j -> gi slk k = gi slack' k - by') /\ (j <= k -> gi slk k = gi slack' k)) /\ (HS w0 w (jpG B c u v o h gs gb gd n C U' V' of (List.replicate n 0) slk back' done))) (fun j U' V' slk w => n - j) (0) (U.set i (U.getD i 0 + by')) (V) (slack') (w) (is := [0, 2, 3, 4, 5, 9, 13, 36, 37, 130, 131]) rfl rfl ?_ ?_
   ·
    refine ⟨Nat.zero_le _, by simp [hUl], hVl, hsl', ?_, fun _ h => absurd h (Nat.not_lt_zero _), fun r hr _ => ?_, fun k _ => ⟨fun h => absurd h (Nat.not_lt_zero _), fun _ => rfl⟩, fun k _ _ => ⟨fun h => absurd h (Nat.not_lt_zero _), fun _ => rfl⟩, hs⟩
    ·
     rw [gi, jfW (by omega), if_pos rfl]
    rw [gi, jfW (by omega), if_neg hr]
   clear hs
   intro j U' V' slk w hI
   show W _ _ _ _ [(0, .pointer (some ⟨B, 0, none⟩)), (2, SlN gs n), (3, SlN gb n), (4, SlN gd n), (5, .int .i64 i), (9, .int .i64 bn), (13, .int .i64 by'), (36, .int .i64 n), (37, .int .i64 i), (130, .int .i64 n), (131, .int .i64 j)] w
   obtain ⟨hj, hUl', hVl', hkl, hUi', hUd, hUo, hV', hS', hs⟩ := hI
   by_cases hlt2 : j < n
   ·
    refine Wq (jaZ rfl (jaF (by omega)) ?_)
    refine Rt (Wsq (Wt rfl (Ws (Wsq (ja4 (Wq (Lm rfl (La rfl (Rt (Wsq (Wr (Lmm rfl rfl (Li jfC i_4 rfl (ja6 _) (by omega) rfl ?_)))))))))))))
    refine Ll o_4 rfl (by exact hs.cellA (i := 8) rfl (jfN (by omega))) ?_
    refine Rt ?_
    by_cases hd : gbo done j = true
    ·
     rw [show done.getD j false = true from hd]
     obtain ⟨on, hon, honi⟩ : ∃ on : Nat, of.getD j 0 = (on : Int) /\ on < i := by
      have h5 : 0 <= of.getD j 0 /\ of.getD j 0 < i := hdof j hlt2 hd
      exact ⟨(of.getD j 0).toNat, by omega, by omega⟩
     have hon2 : (gi of j).toNat = on := by rw [show gi of j = (on : Int) from hon, Int.toNat_natCast]
     have hUn : gi U' on = gi U on := hUo on (by omega) fun k hk hkd he => by
      have h5 := hdof k (by omega) hkd
      have h6 := hTr.mat.inj k j (by omega) hlt2 (by rw [show gi of j = (on : Int) from hon]; omega) (by omega)
      omega
     have hVn := (hV' j hlt2).2 (Nat.le_refl _)
     have hb1 : 0 <= U'.getD on 0 /\ U'.getD on 0 <= 4503599627370496 := by
      have := hbU on (by omega)
      rw [show U'.getD on 0 = gi U on from hUn]; exact this
     have hb2 : -4503599627370496 <= V'.getD j 0 /\ V'.getD j 0 <= 0 := by
      have := hbV j hlt2
      rw [show V'.getD j 0 = gi V j from hVn]; exact this
     refine Wt rfl (Wsq (jcH [0, 1, 2, 4, 5, 6, 8, 13] [3, 7, 9, 10, 11, 12, 14, 15] [16] (fun _ _ _ => False) Tryz.mixed (by kernel_rfl) (fun _ _ _ _ _ h => h) hs ?_))
     refine Pm rfl (Pn rfl (Pfa 2 jcW rfl jd1 (Pm rfl (Pn rfl (Pfa 4 jcW rfl jg2 (Pm rfl (Pm rfl (jbH (Hv rfl (fun w hs => jaN jdR rfl (by exact hs.cellA (i := 5) rfl rfl)) ?_)))))))))
     refine Hl jgQ rfl (fun w hs => (by exact hs.cellA (i := 5) rfl rfl)) ?_
     refine Hx jbW i_3 rfl (ja6 _) (by omega) rfl ?_
     refine Hl o_3 rfl (fun w hs => (by exact hs.cellA (i := 3) rfl (jaV (by omega)))) ?_
     rw [hon]
     refine Hx jbK i_2 rfl (ja6 _) (by omega) rfl ?_
     refine Hl o_2 rfl (fun w hs => (by exact hs.cellA (i := 1) rfl (jaV (by omega)))) ?_
     refine Hv rfl (fun w hs => jk6 rfl rfl (ja3 (by omega))) ?_
     refine Hx jbK i_2 rfl (ja6 _) (by omega) rfl ?_
     refine jb2 ?_
     intro w hs
     refine jaH hs (i := 1) rfl i_2 rfl rfl (by exact jaM _ _) (by simp; omega) rfl ?_
     intro w hs
     dsimp only [sS, sZ, sA, sN] at hs
     refine Rr (Lm rfl (Ln rfl (Lf 3 jcW rfl jd1 (Ll jdR rfl (by exact hs.cellA (i := 5) rfl rfl) ?_))))
     refine Lm rfl (Li jbK i_2 rfl (ja6 _) (by omega) rfl ?_)
     refine Ll o_2 rfl (by exact hs.cellA (i := 2) rfl (jaV (by omega))) ?_
     refine Lm rfl (Csub rfl (ja3 (by omega)) ?_)
     refine Li jbK i_2 rfl (ja6 _) (by omega) rfl ?_
     refine jaH hs (i := 2) rfl i_2 rfl rfl (by exact jaM _ _) (by simp; omega) rfl ?_
     intro w hs
     dsimp only [sS, sZ, sA, sN] at hs
     refine Rnl (jaB (Nt (Wr (jbG rfl (ja3 (by omega)) ?_))))
     refine Lm rfl (Rnl ?_)
     rw [jc3, jc3] at hs
     refine Nq (j + 1, U'.set on (U'.getD on 0 + by'), V'.set j (V'.getD j 0 - by'), slk, _) [0, 2, 3, 4, 5, 9, 13, 36, 37, 130, 131] rfl ?_ ?_
     ·
      dsimp only
      refine ⟨by omega, by simp [hUl'], by simp [hVl'], hkl, ?_, fun k hk hkd => ?_, fun r hr hrk => ?_, fun k hk => ?_, fun k hk hkd => ?_, hs⟩
      ·
       rw [gi, jfW (by omega), if_neg (by omega)]; exact hUi'
      ·
       by_cases hkj : k = j
       ·
        rw [hkj, hon2, gi, jfW (by omega), if_pos rfl, show U'.getD on 0 = gi U on from hUn]
       have hne : (gi of k).toNat ≠ on := fun he => by
        have h5 := hdof k (by omega) hkd
        have h6 := hTr.mat.inj k j (by omega) hlt2 (by rw [show gi of j = (on : Int) from hon]; omega) (by omega)
        omega
       rw [gi, jfW (by omega), if_neg hne]
       exact hUd k (by omega) hkd
      ·
       have hne : r ≠ on := fun he => hrk j (by omega) hd (by rw [hon2, he])
       rw [gi, jfW (by omega), if_neg hne]
       exact hUo r hr fun k hk hkd => hrk k (by omega) hkd
      ·
       by_cases hkj : k = j
       ·
        rw [hkj, gi, jfW (by omega), if_pos rfl, show V'.getD j 0 = gi V j from hVn, hd]
        exact ⟨fun _ => by simp, fun h => absurd h (by omega)⟩
       rw [gi, jfW (by omega), if_neg hkj]
       exact ⟨fun h => (hV' k hk).1 (by omega), fun h => (hV' k hk).2 (by omega)⟩
      have hkj : k ≠ j := fun he => by rw [he, hd] at hkd; cases hkd
      exact ⟨fun h => (hS' k hk hkd).1 (by omega), fun h => (hS' k hk hkd).2 (by omega)⟩
     omega
    rw [Bool.not_eq_true] at hd
    rw [show done.getD j false = false from hd]
    have hsn := (hS' j hlt2 hd).2 (Nat.le_refl _)
    have hb1 : 0 <= slk.getD j 0 /\ slk.getD j 0 <= 9007199254740992 := by
     rw [show slk.getD j 0 = gi slack' j from hsn]; exact hup j hlt2 hd
    refine Wf rfl (Wr (Lmm rfl rfl (Li jbK i_2 rfl (ja6 _) (by omega) rfl ?_)))
    refine Ll o_2 rfl (by exact hs.cellA (i := 6) rfl (jaV (by omega))) ?_
    refine Lm rfl (Csub rfl (ja3 (by omega)) ?_)
    refine Li jbK i_2 rfl (ja6 _) (by omega) rfl ?_
    refine jaH hs (i := 6) rfl i_2 rfl rfl (by exact jaM _ _) (by simp; omega) rfl ?_
    intro w hs
    dsimp only [sS, sZ, sA, sN] at hs
    refine Rnl (jaB (Nt (Wr (jbG rfl (ja3 (by omega)) ?_))))
    refine Lm rfl (Rnl ?_)
    rw [jc3] at hs
    refine Nq (j + 1, U', V', slk.set j (slk.getD j 0 - by'), _) [0, 2, 3, 4, 5, 9, 13, 36, 37, 130, 131] rfl ?_ ?_
    ·
     dsimp only
     refine ⟨by omega, hUl', hVl', by simp [hkl], hUi', fun k hk hkd => ?_, fun r hr hrk => ?_, fun k hk => ?_, fun k hk hkd => ?_, hs⟩
     ·
      have hkj : k ≠ j := fun he => by rw [he, hd] at hkd; cases hkd
      exact hUd k (by omega) hkd
     ·
      exact hUo r hr fun k hk hkd => hrk k (by omega) hkd
     ·
      by_cases hkj : k = j
      ·
       rw [hkj, hd]
       exact ⟨fun _ => by simpa using (hV' j hlt2).2 (Nat.le_refl _), fun h => absurd h (by omega)⟩
      exact ⟨fun h => (hV' k hk).1 (by omega), fun h => (hV' k hk).2 (by omega)⟩
     by_cases hkj : k = j
     ·
      rw [hkj, gi, jfW (by omega), if_pos rfl, show slk.getD j 0 = gi slack' j from hsn]
      exact ⟨fun _ => rfl, fun h => absurd h (by omega)⟩
     rw [gi, jfW (by omega), if_neg hkj]
     exact ⟨fun h => (hS' k hk hkd).1 (by omega), fun h => (hS' k hk hkd).2 (by omega)⟩
    omega
   refine Wq (jaZ rfl (jaA (by omega)) ?_)
   refine Rt (Wsq (Wf rfl (jaK (ja0 (ja8 (ja1 (Nt (Wq (Lmm rfl rfl (Li jfC i_4 rfl (ja6 _) (by omega) rfl ?_))))))))))
   refine jaH hs (i := 8) rfl i_4 rfl rfl (by exact jaM _ _) (by simp; omega) rfl ?_
   intro w hs
   dsimp only [sS, sZ, sA, sN] at hs
   refine Rq (Lm rfl (La rfl (Rr (Lm rfl (Ln rfl (Lf 4 jcW rfl jg2 (Ll jgQ rfl (by exact hs.cellA (i := 5) rfl rfl) ?_)))))))
   refine Lm rfl (Li jbW i_3 rfl (ja6 _) (by omega) rfl ?_)
   refine Ll o_3 rfl (by exact hs.cellA (i := 3) rfl (jaV (by omega))) ?_
   refine La rfl (Rnl (jaB ?_))
   rw [bls_set] at hs
   rw [show of.getD bn 0 = rI i of (bn : Int) by unfold rI; rw [if_neg (by omega), Int.toNat_natCast]]
   have hst := hTr.step hlt hl (slack' := gi slack') (back' := gi back') (U' := gi U') (V' := gi V') (slack'' := gi slk) (best := bn) (by' := by')
    (fun k hk hkd => by rw [hrro]; exact hA1 k hk hkd) (fun k hk hkd => by rw [hrro]; exact hA2 k hk hkd) hA3 hbn hbd hbmin hby'
    (fun b hb => by
     rcases hb with rfl | ⟨h5, h6, h7⟩
     ·
      unfold ro; rw [if_pos (by omega)]; exact hUi'
     unfold ro; rw [if_neg (by omega)]; exact hUd _ (by omega) h7)
    (fun r hr => by
     refine hUo r (fun he => hr (-1) (.inl rfl) ?_) (fun k hk hkd he => hr (k : Int) (.inr ⟨by omega, by omega, by rw [Int.toNat_natCast]; exact hkd⟩) ?_)
     ·
      unfold ro; rw [if_pos (by omega)]; exact he.symm
     unfold ro; rw [if_neg (by omega), Int.toNat_natCast]; exact he)
    (fun k hk => (hV' k hk).1 (by omega)) (fun k hk hkd => (hS' k hk hkd).1 (by omega))
    (fun r k hr hk => by
     have b1 : 0 <= cf n C r k /\ cf n C r k <= 4503599627370496 := hC.rng r k hr hk
     have b2 : 0 <= gi U r /\ gi U r <= 4503599627370496 := hbU r hr
     have b3 : -4503599627370496 <= gi V k /\ gi V k <= 0 := hbV k hk
     omega)
   rw [<- show gbo (done.set bn true) = fun k => if k = bn then true else gbo done k from funext fun k => by rw [gbo, jfW (by omega)]] at hst
   refine Nq (U', V', slk, back', done.set bn true, (bn : Int), _) [0, 2, 3, 4, 5, 7, 8, 36, 37] rfl ?_ ?_
   ·
    dsimp only
    exact ⟨hUl', hVl', hkl, hbl', by simp [hdl], ⟨_, _, hst⟩, hs⟩
   rw [List.count_set (by omega)]
   have h5 : done[bn]'(by omega) = false := by
    have := hbd
    simp only [gbo, List.getD, List.getElem?_eq_getElem (show bn < done.length by omega), Option.getD_some] at this
    exact this
   have h6 : 0 < done.count false := List.count_pos_iff.2 (by rw [<- h5]; exact List.getElem_mem _)
   simp [h5]
   omega
  have hl0 : 0 <= last /\ last.toNat < n := by
   rcases hlast with h5 | h5
   ·
    unfold rI at hr; rw [if_pos (by omega)] at hr; omega
   exact h5
  have hlf : gi of last.toNat = -1 := by
   unfold rI at hr; rw [if_neg (by omega)] at hr
   rcases hTr.mat.ran _ hl0.2 with h5 | h5
   ·
    exact h5
   omega
  have hA := hTr.aug hl0.1 hlf
  refine Wqq (Lm rfl (jgM rfl (jaA (by omega)) ?_))
  refine Rt (Wf rfl (jaK (ja0 (ja8 (ja1 (Nt (ja4 (jcT (fun (of' : List Int) (hh : Int) (w : World) => [(0, .pointer (some ⟨B, 0, none⟩)), (2, SlN gs n), (3, SlN gb n), (4, SlN gd n), (5, .int .i64 i), (8, .int .i64 hh), (36, .int .i64 n), (37, .int .i64 i)]) (fun of' hh w => w) (fun of' hh w => (of'.length = n) /\ (Aug n (cf n C) i (gi of) (gi U) (gi V) (gbo done) pos (gi of') hh) /\ (HS w0 w (jpG B c u v o h gs gb gd n C U V of' (List.replicate n 0) slack back done))) (fun of' hh w => (if 0 <= hh then pos hh.toNat + 1 else 0)) (of) (last) (w) (is := [0, 2, 3, 4, 5, 8, 36, 37]) rfl rfl ?_ ?_))))))))
  ·
   exact ⟨hol, hA, hs⟩
  clear hs hA hl0 hlf hr
  intro of' hh w hI
  show W _ _ _ _ [(0, .pointer (some ⟨B, 0, none⟩)), (2, SlN gs n), (3, SlN gb n), (4, SlN gd n), (5, .int .i64 i), (8, .int .i64 hh), (36, .int .i64 n), (37, .int .i64 i)] w
  obtain ⟨hol', hA, hs⟩ := hI
  by_cases hh0 : 0 <= hh
  ·
   obtain ⟨hn, rfl⟩ : ∃ hn : Nat, hh = (hn : Int) := ⟨hh.toNat, by omega⟩
   obtain ⟨_, hnn, hnd⟩ := hA.at' (by omega)
   rw [Int.toNat_natCast] at hnn hnd
   obtain ⟨hTb, hpb, _⟩ := hTr.tree hn hnn hnd
   have hset : ∀ x : Int, (∀ k, k ≠ ((hn : Nat) : Int).toNat -> gi (of'.set hn x) k = gi of' k) /\ gi (of'.set hn x) ((hn : Nat) : Int).toNat = x := fun x => by
    rw [Int.toNat_natCast]
    exact ⟨fun k hk => by rw [gi, jfW (by omega), if_neg hk], by rw [gi, jfW (by omega), if_pos rfl]⟩
   have hmu : (if 0 <= ((hn : Nat) : Int) then pos ((hn : Nat) : Int).toNat + 1 else 0) = pos hn + 1 := by rw [if_pos (by omega), Int.toNat_natCast]
   by_cases hb0 : back.getD hn 0 < 0
   ·
    have hbe : back.getD hn 0 = -1 := by
     rcases hTb with h5 | h5
     ·
      exact h5
     have h6 : 0 <= back.getD hn 0 := h5.1
     omega
    have hstp := hA.step hTr hh0 (of'' := gi (of'.set hn i)) (by rw [(hset i).2, Int.toNat_natCast]; exact (if_pos hb0).symm) (hset i).1
    rw [Int.toNat_natCast, show gi back hn = -1 from hbe] at hstp
    refine Wqq (Lm rfl (jgM rfl (jaF (by omega)) ?_))
    refine Rt (Wt rfl (Ws (ja4 (Wq (Lmm rfl rfl (Li jbW i_3 rfl (ja6 _) (by omega) rfl ?_))))))
    refine Ll o_3 rfl (by exact hs.cellA (i := 7) rfl (jaV (by omega))) ?_
    refine La rfl (Rqq ?_)
    rw [hbe]
    refine Lm rfl (jaZ rfl (jaF (by omega)) ?_)
    refine Rt (Wt rfl (Wr (Lm rfl (Ln rfl (Lf 4 jcW rfl jg2 (Ll jgQ rfl (by exact hs.cellA (i := 5) rfl rfl) ?_))))))
    refine Lmm rfl rfl (Li jbW i_3 rfl (ja6 _) (by omega) rfl ?_)
    refine jaH hs (i := 3) rfl i_3 rfl rfl (by exact jaM _ _) (by simp; omega) rfl ?_
    intro w hs
    dsimp only [sS, sZ, sA, sN] at hs
    refine Rr (Lm rfl (La rfl (Rnl (jaB ?_))))
    rw [jc3] at hs
    refine Nq (of'.set hn i, (-1 : Int), _) [0, 2, 3, 4, 5, 8, 36, 37] rfl ?_ ?_
    ·
     dsimp only
     exact ⟨by simp [hol'], hstp.1, hs⟩
    rw [hmu]; simp
   obtain ⟨bb, hbe, hbbn⟩ : ∃ bb : Nat, back.getD hn 0 = (bb : Int) /\ bb < n := by
    rcases hTb with h5 | h5
    ·
     exact absurd (show back.getD hn 0 = -1 from h5) (by omega)
    have h6 : (back.getD hn 0).toNat < n := h5.2.1
    exact ⟨(back.getD hn 0).toNat, by omega, h6⟩
   have hstp := hA.step hTr hh0 (of'' := gi (of'.set hn (of'.getD bb 0))) (by rw [(hset _).2, Int.toNat_natCast, show gi back hn = (bb : Int) from hbe, Int.toNat_natCast, if_neg (by omega)]) (hset _).1
   rw [Int.toNat_natCast, show gi back hn = (bb : Int) from hbe] at hstp
   refine Wqq (Lm rfl (jgM rfl (jaF (by omega)) ?_))
   refine Rt (Wt rfl (Ws (ja4 (Wq (Lmm rfl rfl (Li jbW i_3 rfl (ja6 _) (by omega) rfl ?_))))))
   refine Ll o_3 rfl (by exact hs.cellA (i := 7) rfl (jaV (by omega))) ?_
   refine La rfl (Rqq ?_)
   rw [hbe]
   refine Lm rfl (jaZ rfl (jaA (by omega)) ?_)
   refine Rt (Wf rfl (jcH [0, 1, 2, 4, 5, 6, 7, 9] [3, 8, 10, 11, 12] [13] (fun _ _ _ => False) Tryz.mixed (by kernel_rfl) (fun _ _ _ _ _ h => h) hs ?_))
   refine Pm rfl (Pn rfl (Pfa 4 jcW rfl jg2 (Pm rfl (Pm rfl (Pn rfl (Pfa 4 jcW rfl jg2 (Pm rfl (jbH (Hv rfl (fun w hs => jaN jgQ rfl (by exact hs.cellA (i := 5) rfl rfl)) ?_)))))))))
   refine Hl jgQ rfl (fun w hs => (by exact hs.cellA (i := 5) rfl rfl)) ?_
   refine Hx jbW i_3 rfl (ja6 _) (by omega) rfl ?_
   refine Hl o_3 rfl (fun w hs => (by exact hs.cellA (i := 3) rfl (jaV (by omega)))) ?_
   refine Hx jbW i_3 rfl (ja6 _) (by omega) rfl ?_
   refine jb2 ?_
   intro w hs
   refine jaH hs (i := 3) rfl i_3 rfl rfl (by exact jaM _ _) (by simp; omega) rfl ?_
   intro w hs
   dsimp only [sS, sZ, sA, sN] at hs
   refine Rr (Lm rfl (La rfl (Rnl (jaB ?_))))
   rw [jc3] at hs
   refine Nq (of'.set hn (of'.getD bb 0), (bb : Int), _) [0, 2, 3, 4, 5, 8, 36, 37] rfl ?_ ?_
   ·
    dsimp only
    exact ⟨by simp [hol'], hstp.1, hs⟩
   have hmu2 : (if 0 <= ((bb : Nat) : Int) then pos ((bb : Nat) : Int).toNat + 1 else 0) = pos bb + 1 := by rw [if_pos (by omega), Int.toNat_natCast]
   have h9 := hstp.2 (Int.natCast_nonneg _)
   rw [Int.toNat_natCast] at h9
   rw [hmu, hmu2]
   omega
  have hh1 : hh = -1 := Classical.byContradiction fun hne => hh0 (hA.at' hne).1
  rw [hh1] at hA
  have hSq := hA.over hTr
  refine Wqq (Lm rfl (jgM rfl (jaA (by omega)) ?_))
  refine Rt (Wf rfl (jaK (ja0 (ja8 (ja1 (jaB (Nt (Wr (jbG rfl (ja3 (by omega)) ?_)))))))))
  refine Lm rfl (Rnl (Nq (i + 1, U, V, of', slack, back, done, _) [0, 2, 3, 4, 36, 37] rfl ?_ ?_))
  ·
   dsimp only
   exact ⟨by omega, hUl, hVl, hol', hsl, hbl, hdl, hSq, ⟨hbU, hbV⟩, hs⟩
  omega
 obtain rfl : n = i := by omega
 refine Wq (jaZ rfl (jaA (by omega)) ?_)
 refine Rt (Wsq (Wf rfl (jaK (ja0 (ja8 (ja1 (Nt (Wq (Lm rfl (Ln rfl (Lf 4 jcW rfl jg2 (Ll jgQ rfl (by exact hs.cellA (i := 5) rfl rfl) ?_))))))))))))
 refine Le jbW rfl (Lm rfl (Rt (ja4 (jcT (fun (j : Nat) (has : List Int) (w : World) => [(0, .pointer (some ⟨B, 0, none⟩)), (216, SlN o n), (217, .int .i64 n), (218, .int .i64 j)]) (fun j has w => w) (fun j has w => (j <= n) /\ (has.length = n) /\ (∀ k, k < j -> gi has (gi of k).toNat = (k : Int)) /\ (HS w0 w (jpG B c u v o h gs gb gd n C U V of has slack back done))) (fun j has w => n - j) (0) (List.replicate n 0) (w) (is := [0, 216, 217, 218]) rfl rfl ?_ ?_))))
 ·
  exact ⟨Nat.zero_le _, by simp, fun _ h => absurd h (Nat.not_lt_zero _), hs⟩
 clear hs
 intro j has w hI
 show W _ _ _ _ [(0, .pointer (some ⟨B, 0, none⟩)), (216, SlN o n), (217, .int .i64 n), (218, .int .i64 j)] w
 obtain ⟨hj, hhl, hhk, hs⟩ := hI
 by_cases hlt2 : j < n
 ·
  obtain ⟨on, hon, honn⟩ : ∃ on : Nat, of.getD j 0 = (on : Int) /\ on < n := by
   have h5 : 0 <= of.getD j 0 /\ of.getD j 0 < n := hSq.all j hlt2
   exact ⟨(of.getD j 0).toNat, by omega, by omega⟩
  refine Wq (jaZ rfl (jaF (by omega)) ?_)
  refine Rt (Wsq (Wt rfl (Ws (Wsq (ja4 (Wq (Lm rfl (Li jbW i_3 rfl (ja6 _) (by omega) rfl ?_))))))))
  refine Ll o_3 rfl (by exact hs.cellA (i := 3) rfl (jaV (by omega))) ?_
  refine La rfl (La rfl (Rr ?_))
  rw [hon]
  refine Lm rfl (Ln rfl (Lf 5 jcW rfl jg2 (Ll jgQ rfl (by exact hs.cellA (i := 5) rfl rfl) ?_)))
  refine Lmm rfl rfl (Li jbW i_3 rfl (ja6 _) (by omega) rfl ?_)
  refine jaH hs (i := 4) rfl i_3 rfl rfl (by exact jaM _ _) (by simp; omega) rfl ?_
  intro w hs
  dsimp only [sS, sZ, sA, sN] at hs
  refine Rnl (jaB (Nt (Wr (jbG rfl (ja3 (by omega)) ?_))))
  refine Lm rfl (Rnl ?_)
  rw [jc3] at hs
  refine Nq (j + 1, has.set on j, _) [0, 216, 217, 218] rfl ?_ ?_
  ·
   dsimp only
   refine ⟨by omega, by simp [hhl], fun k hk => ?_, hs⟩
   by_cases hkj : k = j
   ·
    rw [hkj, show gi of j = (on : Int) from hon, Int.toNat_natCast, gi, jfW (by omega), if_pos rfl]
   have hne : (gi of k).toNat ≠ on := fun he => by
    have h5 := hSq.all k (by omega)
    have h6 := hSq.mat.inj k j (by omega) hlt2 (by rw [show gi of j = (on : Int) from hon]; omega) (by omega)
    exact hkj h6
   rw [gi, jfW (by omega), if_neg hne]
   exact hhk k (by omega)
  omega
 obtain rfl : n = j := by omega
 refine Wq (jaZ rfl (jaA (by omega)) ?_)
 refine Rt (Wsq (Wf rfl (jaK (ja0 (ja8 (ja1 (jg0 rfl ?_)))))))
 have hO : Own w0 [(gs, Row 2 (il slack)), (gb, Row 3 (il back)), (gd, Row 4 (bls done))] := Own.cons hgs (Own.cons hgb (Own.cons hgd Own.nil))
 exact ⟨_, rfl, U, V, of, has, hs.dropR (L := jd9 B c u v o h n C U V of has) hO, hUl, hVl, hol, hhl, hSq, hhk, hbnd.1, hbnd.2⟩
abbrev toN (l : List Int) (j : Nat) : Nat := (gi l j).toNat
structure Bf (n : Nat) (C : Nat -> Nat -> Int) (U V : Nat -> Int) (i j : Nat) (of : Nat -> Nat) (frm : Nat -> Int) (pos : Nat -> Nat) (t : Nat) : Prop where
 j0 : frm j = (j : Int)
 rng : ∀ k, k < n -> frm k = -1 ∨ (0 <= frm k /\ frm k < n)
 par : ∀ m, m < n -> 0 <= frm m -> m ≠ j -> 0 <= frm (frm m).toNat /\ pos (frm m).toNat < pos m /\ i < of (frm m).toNat /\ C (of (frm m).toNat) m = U (of (frm m).toNat) + V m
 post : ∀ k, k < n -> 0 <= frm k -> pos k < t
theorem Bf.add {n : Nat} {C : Nat -> Nat -> Int} {U V : Nat -> Int} {i j : Nat} {of : Nat -> Nat} {frm frm' : Nat -> Int} {pos : Nat -> Nat} {t m k : Nat} (h : Bf n C U V i j of frm pos t) (hm : frm m = -1) (hmn : m < n) (hk : k < n) (hkf : 0 <= frm k) (hi : i < of k) (ht : C (of k) m = U (of k) + V m)
  (h1 : frm' m = (k : Int)) (h2 : ∀ c, c ≠ m -> frm' c = frm c) : Bf n C U V i j of frm' (fun c => if c = m then t else pos c) (t + 1) := by
 have hkm : k ≠ m := fun he => by rw [he] at hkf; omega
 have hjm : j ≠ m := fun he => by have := h.j0; rw [he, hm] at this; omega
 refine ⟨by rw [h2 j hjm]; exact h.j0, fun c hc => ?_, fun c hc hc0 hcj => ?_, fun c hc hc0 => ?_⟩
 ·
  by_cases hcm : c = m
  ·
   rw [hcm, h1]; omega
  rw [h2 c hcm]; exact h.rng c hc
 ·
  by_cases hcm : c = m
  ·
   subst hcm
   rw [h1, Int.toNat_natCast, h2 k hkm]
   have := h.post k hk hkf
   simp only [hkm, if_false, if_true]
   exact ⟨hkf, this, hi, ht⟩
  rw [h2 c hcm] at hc0 ⊢
  obtain ⟨a1, a2, a3, a4⟩ := h.par c hc hc0 hcj
  have hne : (frm c).toNat ≠ m := fun he => by rw [he, hm] at a1; omega
  rw [h2 _ hne]
  simp only [hne, hcm, if_false]
  exact ⟨a1, a2, a3, a4⟩
 by_cases hcm : c = m
 ·
  simp [hcm]
 simp only [hcm, if_false]
 rw [h2 c hcm] at hc0
 have := h.post c hc hc0
 omega
theorem Qu.pop {w0 : World} {E : TypeId} {g o cap : Nat} {pre sp : List Value} {x : Int} {xs : List Int} (hp : pre.length = o) (hg : w0.heap.size <= g) (hl : (x :: xs).length <= cap) (hc : cap <= (x :: xs).length + sp.length) :
  Qu w0 E (.slice (slA (some ⟨g, o, none⟩) 1 cap 1) ((x :: xs).length - 1) (cap - 1)) xs [(g, Row E (pre ++ il (x :: xs) ++ sp))] := by
 by_cases h1 : cap = 1
 ·
  have h2 : xs = [] := List.eq_nil_of_length_eq_zero (by simp at hl; omega)
  subst h2
  refine ⟨g, o, 0, pre, .int .i64 x :: sp, ?_, ?_, hp, hg, by simp, by simp⟩
  ·
   unfold slA; rw [if_pos h1, h1]; rfl
  simp [il]
 refine ⟨g, o + 1, cap - 1, pre ++ [.int .i64 x], sp, ?_, ?_, by simp [hp], hg, by simp at hl; omega, by simp at hc; omega⟩
 ·
  unfold slA; rw [if_neg h1, Nat.mul_one]
  show Value.slice (some ((Addr.mk g o none).add 1)) _ _ = _
  rw [Addr.add_lit]; rfl
 simp [il]
theorem Qu.len {w0 : World} {E : TypeId} {v : Value} {xs : List Int} {M : List (Nat × Obj)} (h : Qu w0 E v xs M) : ∃ a c, v = .slice a xs.length c := by
 obtain ⟨g, o, cap, _, _, h, _⟩ := h
 exact ⟨_, _, h⟩
end Go.Proofs.YtffobakdngbadaaGreat