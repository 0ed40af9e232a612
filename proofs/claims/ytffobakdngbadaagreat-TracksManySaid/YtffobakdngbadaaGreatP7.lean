/-
  A part of the proof: laws for walks, and plain laws, over any program of the model. Each theorem holds under its own premises alone.
-/
import Derived.Test.YtffobakdngbadaaGreatKit
import Derived.Test.YtffobakdngbadaaGreatP6
import Derived.Test.YtffobakdngbadaaGreatKitQ
import Derived.Shelf.SlIterI.Nil
import Derived.Shelf.SortM.Plain
import Derived.Shelf.SortM.SortNone
import Derived.Sort.OwnSortedInts
import Derived.Test.YtffobakdngbadaaGreatP1
import Derived.Test.YtffobakdngbadaaGreatKitY
namespace Go.Proofs.YtffobakdngbadaaGreat
open Go Go.Lk
theorem horF8_lt (S : List Nat) (z : Nat) : jn2 S z 8 < 18446744073709551616 := fop_lt _ _ _
theorem eigF_lt (a : Nat) : (jdD a).1 < 18446744073709551616 /\ (jdD a).2 < 18446744073709551616 := by
 cases h : (FloatKind.f64.format.order a 4593671619917905920 == some .eq) with
 | true => rw [jpA h]; decide
 | false => rw [(jhK h).1, (jhK h).2]; exact ⟨horF8_lt _ _, fop_lt _ _ _⟩
theorem neg_lt {x : Nat} (h : x < 18446744073709551616) : Op.negFloat .f64 x < 18446744073709551616 := by
 obtain ⟨s, r, rfl, hr⟩ := jn9 h
 rw [jn0 s r hr]
 exact word_lt _ hr
theorem lt_of_cn {x y : Nat} (h : cn x = cn y) (hy : y < 18446744073709551616) : jb1 x = false -> x < 18446744073709551616 := fun hn => by
 have hn2 : jb1 y = false := by rw [<- jdA, <- h, jdA]; exact hn
 rw [jdH hn, jdH hn2] at h
 rw [h]; exact hy
theorem WR.same {x r : Nat} (h : WR x r) (hn : jb1 r = false) : r < 18446744073709551616 /\ jb1 (je8 x) = false /\ (je8 x) % 9223372036854775808 = r % 9223372036854775808 /\ tqN (je8 x) = (FloatKind.f64.format.order r 0 == some .lt) := by
 rcases h with ⟨h1, _⟩ | ⟨_, hl, hw⟩
 ·
  rw [hn] at h1; cases h1
 refine ⟨hl, ?_⟩
 cases ho : (FloatKind.f64.format.order r 0 == some .eq) with
 | false => rw [ho, if_neg (by decide)] at hw; rw [hw]; exact ⟨hn, rfl, rfl⟩
 | true =>
  rw [ho, if_pos rfl] at hw
  rw [hw]
  obtain ⟨s, q, rfl, hq⟩ := jn9 hl
  have hq0 : q = 0 := by
   rw [jgA s q hq] at hn
   have hq2 : q <= 9218868437227405312 := by simpa using hn
   by_cases hqi : q = 9218868437227405312
   ·
    subst hqi
    revert ho
    cases s <;> decide +kernel
   have h3 := (jgS s q (by omega)).order jp4
   rw [h3] at ho
   have h4 : compare ((if s = true then -1 else 1) * (rv q : Int)) 0 = .eq := by
    revert ho
    cases compare ((if s = true then -1 else 1) * (rv q : Int)) 0 <;> simp
   have h5 := Int.compare_eq_eq.1 h4
   apply rv_zero.1
   cases s <;> simp at h5 <;> omega
  subst hq0
  cases s <;> decide +kernel
set_option maxHeartbeats 2000000 in
theorem rturn_ok (x : Nat) (hx2 : x < 18446744073709551616) (w0 : World) : Ret Tryz.prog 79 [.float .f64 x] w0 fun v w' => ∃ re im, v = .agg #[.float .f64 re, .float .f64 im] /\ HS w0 w' [] /\ cn re = cn (jh1 x).1 /\ cn im = cn (jh1 x).2 := by
 refine Ret.start fun w hs => ?_
 refine ja7 Tryz.func79 rfl rfl rfl (Wq (jbL rfl hs i_129 ?_))
 intro b2 w hb2 hnb2 hs
 dsimp only [sS, sZ, sA, sN] at hs
 refine Rq (Lm rfl ?_)
 replace hs : HS w0 w [(b2, Row 129 [.float .f64 0, .float .f64 0])] := hs
 have ho : Own w0 [(b2, Row 129 [.float .f64 0, .float .f64 0])] := Own.cons hb2 Own.nil
 refine Lc f_92 rfl (rwrap_ok x hx2 w) ?_
 rintro _ w1 ⟨r, rfl, hwr, hs'⟩
 have h0 := hs.nil hs'
 clear hs hs'
 have hs := h0
 clear h0
 refine La rfl (Rqq (Lm rfl (Lc f_43 rfl (isnanA r _) ?_)))
 rintro _ w ⟨rfl, rfl⟩
 cases hn : jb1 r
 ·
  obtain ⟨hrl, hwn, hmod, hng⟩ := hwr.same hn
  have hrr : FloatKind.f64.format.order r r = some .eq := by
   obtain ⟨s, q, rfl, hq⟩ := jn9 hrl
   rw [jgA s q hq] at hn
   have hq2 : q <= 9218868437227405312 := by simpa using hn
   by_cases hqi : q = 9218868437227405312
   ·
    subst hqi; cases s <;> decide +kernel
   exact jp9 s q (by omega)
  rw [hrr]
  obtain ⟨wq, hW⟩ : ∃ wq, wq = je8 x := ⟨_, rfl⟩
  rw [<- hW] at hwn hmod hng
  have hWW : (FloatKind.f64.format.order wq wq != some .eq) = false := by
   have h1 : wq < 18446744073709551616 := by
    rw [hW]; rcases hwr with ⟨h, _⟩ | ⟨_, _, h⟩
    ·
     rw [hn] at h; cases h
    rw [h]; split
    ·
     decide
    exact hrl
   obtain ⟨s, q, rfl, hq⟩ := jn9 h1
   rw [jgA s q hq] at hwn
   have hq2 : q <= 9218868437227405312 := by simpa using hwn
   by_cases hqi : q = 9218868437227405312
   ·
    subst hqi; cases s <;> decide +kernel
   rw [jp9 s q (by omega)]; rfl
  refine Rt (Wf rfl (Ws (Wq (Lm rfl (Lc f_75 rfl (abs_ok r hrl _) ?_)))))
  rintro _ w ⟨rfl, rfl⟩
  obtain ⟨A, hA⟩ : ∃ A, A = r % 9223372036854775808 := ⟨_, rfl⟩
  rw [<- hA]
  obtain ⟨l, hl⟩ : ∃ l, tqL wq = l := ⟨_, rfl⟩
  have hl2 : (FloatKind.f64.format.order A 4598175219545276416 == some .gt) = l := by rw [hA, <- hmod]; exact hl
  refine La rfl (Rq (Lm rfl ?_))
  refine Cf rfl (fun _ => by rw [binOp_float_cmp_gtr]; rfl) ?_
  refine je7 23 (v' := .bool l) rfl ((congrArg Value.bool hl2)) (La rfl (Rqq (Lm rfl (Rt (jmM (fun (a1 : Nat) (w : World) => [(2, .pointer (some ⟨b2, 0, none⟩)), (3, .float .f64 r), (4, .float .f64 a1), (5, .bool l)]) (fun a1 w => w) (fun a1 w => (cn a1 = cn (tqA wq l)) /\ (HS w0 w [(b2, Row 129 [.float .f64 0, .float .f64 0])])) ?_ ?_)))))
  ·
   rcases (Bool.eq_false_or_eq_true l).symm with hz | hz
   ·
    refine jcG 24 (v' := .bool false) rfl ((congrArg Value.bool hz)) (Wf rfl (jaY (jbD (A, _) (is := [2, 3, 4, 5]) (I' := (fun (a1 : Nat) (w : World) => (cn a1 = cn (tqA wq l)) /\ (HS w0 w [(b2, Row 129 [.float .f64 0, .float .f64 0])])) (A) (_)) rfl rfl rfl ?_)))
    exact ⟨by unfold tqA; rw [hz, hmod, <- hA]; rfl, hs⟩
   refine jcG 24 (v' := .bool true) rfl ((congrArg Value.bool hz)) (Wt rfl (Wr (Lm rfl (jaC rfl (op := .sub) rfl rfl rfl ?_))))
   intro r26 k26 hr26
   replace hs := hs.drewN k26
   refine La rfl (Rnl (jbD (r26, _) (is := [2, 3, 4, 5]) (I' := (fun (a1 : Nat) (w : World) => (cn a1 = cn (tqA wq l)) /\ (HS w0 w [(b2, Row 129 [.float .f64 0, .float .f64 0])])) (r26) (_)) rfl rfl rfl ?_))
   refine ⟨?_, hs⟩
   unfold tqA; rw [hz, hmod, <- hA, if_pos rfl]
   exact (Fs.cn hr26).trans (jaL ..).symm
  clear hs
  intro a1 w hI
  show W _ _ _ _ [(2, .pointer (some ⟨b2, 0, none⟩)), (3, .float .f64 r), (4, .float .f64 a1), (5, .bool l)] w
  obtain ⟨ha1, hs⟩ := hI
  obtain ⟨sw, hsw⟩ : ∃ sw, tqS a1 = sw := ⟨_, rfl⟩
  refine Wq (Lm rfl ?_)
  refine Cf rfl (fun _ => by rw [binOp_float_cmp_gtr]; rfl) ?_
  refine je7 28 (v' := .bool sw) rfl ((congrArg Value.bool hsw)) (La rfl (Rqq (Lm rfl (Rt (jmM (fun (a2 : Nat) (w : World) => [(2, .pointer (some ⟨b2, 0, none⟩)), (3, .float .f64 r), (4, .float .f64 a2), (5, .bool l), (6, .bool sw)]) (fun a2 w => w) (fun a2 w => (cn a2 = cn (tqB a1 sw)) /\ (HS w0 w [(b2, Row 129 [.float .f64 0, .float .f64 0])])) ?_ ?_)))))
  ·
   rcases (Bool.eq_false_or_eq_true sw).symm with hz | hz
   ·
    refine jcG 29 (v' := .bool false) rfl ((congrArg Value.bool hz)) (Wf rfl (jaY (jbD (a1, _) (is := [2, 3, 4, 5, 6]) (I' := (fun (a2 : Nat) (w : World) => (cn a2 = cn (tqB a1 sw)) /\ (HS w0 w [(b2, Row 129 [.float .f64 0, .float .f64 0])])) (a1) (_)) rfl rfl rfl ?_)))
    exact ⟨by unfold tqB; rw [hz]; rfl, hs⟩
   refine jcG 29 (v' := .bool true) rfl ((congrArg Value.bool hz)) (Wt rfl (Wr (Lm rfl (jaC rfl (op := .sub) rfl rfl rfl ?_))))
   intro r31 k31 hr31
   replace hs := hs.drewN k31
   refine La rfl (Rnl (jbD (r31, _) (is := [2, 3, 4, 5, 6]) (I' := (fun (a2 : Nat) (w : World) => (cn a2 = cn (tqB a1 sw)) /\ (HS w0 w [(b2, Row 129 [.float .f64 0, .float .f64 0])])) (r31) (_)) rfl rfl rfl ?_))
   refine ⟨?_, hs⟩
   unfold tqB; rw [hz, if_pos rfl]
   exact (Fs.cn hr31).trans (jaL ..).symm
  clear hs
  intro a2 w hI
  show W _ _ _ _ [(2, .pointer (some ⟨b2, 0, none⟩)), (3, .float .f64 r), (4, .float .f64 a2), (5, .bool l), (6, .bool sw)] w
  obtain ⟨ha2, hs⟩ := hI
  obtain ⟨E1, hE1⟩ : ∃ E, E = (jdD a2).1 := ⟨_, rfl⟩
  obtain ⟨E2, hE2⟩ : ∃ E, E = (jdD a2).2 := ⟨_, rfl⟩
  obtain ⟨eq, heq⟩ : ∃ eq, (FloatKind.f64.format.order a2 4593671619917905920 == some .eq) = eq := ⟨_, rfl⟩
  refine Wq (La rfl (Rq (Lm rfl (La rfl (Rqq (Lm rfl ?_))))))
  refine Cf rfl (fun _ => by rw [binOp_float_cmp_neq]; rfl) ?_
  refine Rt (jpF (fun (s1 : Nat) (c1 : Nat) (w : World) => [(2, .pointer (some ⟨b2, 0, none⟩)), (3, .float .f64 r), (5, .bool l), (6, .bool sw), (7, .float .f64 s1), (8, .float .f64 c1)]) (fun s1 c1 w => w) (fun s1 c1 w => (cn s1 = cn E2) /\ (cn c1 = cn E1) /\ (HS w0 w [(b2, Row 129 [.float .f64 0, .float .f64 0])])) ?_ ?_)
  ·
   rcases (Bool.eq_false_or_eq_true eq).symm with hz | hz
   ·
    have hq := heq.trans hz
    refine jcG 34 (v' := .bool true) rfl ((congrArg Value.bool (show (FloatKind.f64.format.order a2 4593671619917905920 != some .eq) = true by unfold bne; rw [hq]; rfl))) ?_
    refine Wt rfl ?_
    have c36 : ∀ {v : Nat}, Fs .mul a2 4618760256179416344 v -> cn v = cn (fop .mul a2 4618760256179416344) := fun h => (Fs.cn h).trans (jaL ..).symm
    refine Wq (Lm rfl (jaC rfl (op := .mul) rfl rfl rfl ?_))
    intro r36 k36 hr36
    replace hs := hs.drewN k36
    refine La rfl (Rq (Lmm rfl rfl (jaC rfl (op := .mul) rfl rfl rfl ?_)))
    intro r39 k39 hr39
    replace hs := hs.drewN k39
    refine La rfl (Rq (Lc f_95 rfl (rrow_ok 0 (by decide) _) ?_))
    rintro v40 w1 ⟨M, hs', hb⟩
    obtain ⟨ar, cr, rfl, _⟩ := hb.slice
    have h0 := hs.call hs' hb.own
    have hoM := hb.own.le hs.size
    have hsl := hb.slc (L := []) hs'
    clear hs hs'
    have hs := h0
    clear h0
    refine Lm rfl (Lc f_94 rfl (rfold_ok ar cr (rowL 0 9) r39 w1 hsl (rowL_len 0 9)) ?_)
    rintro _ w2 ⟨p1, rfl, hs', hp1⟩
    have h0 := HS.dropR (hs.nil hs') hoM
    clear hs hs' hb hsl hoM
    have hs := h0
    clear h0
    refine La rfl (Rq (Lmm rfl rfl (jaC rfl (op := .mul) rfl rfl rfl ?_)))
    intro r45 k45 hr45
    replace hs := hs.drewN k45
    refine La rfl (Rr (Lc f_95 rfl (rrow_ok 1 (by decide) _) ?_))
    rintro v46 w3 ⟨M, hs', hb⟩
    obtain ⟨ar2, cr2, rfl, _⟩ := hb.slice
    have h0 := hs.call hs' hb.own
    have hoM := hb.own.le hs.size
    have hsl := hb.slc (L := []) hs'
    clear hs hs'
    have hs := h0
    clear h0
    refine Lm rfl (Lc f_94 rfl (rfold_ok ar2 cr2 (rowL 1 9) r39 w3 hsl (rowL_len 1 9)) ?_)
    rintro _ w4 ⟨p2, rfl, hs', hp2⟩
    have h0 := HS.dropR (hs.nil hs') hoM
    clear hs hs' hb hsl hoM
    have hs := h0
    clear h0
    refine La rfl (Rnl ?_)
    have e36 := c36 hr36
    have e39 : cn r39 = cn (fop .mul (fop .mul a2 4618760256179416344) (fop .mul a2 4618760256179416344)) := (Fs.cn hr39).trans ((ja5 e36 e36).trans (jaL ..).symm)
    refine jbD (r45, p2, _) (is := [2, 3, 5, 6, 7, 8]) (I' := (fun (s1 : Nat) (c1 : Nat) (w : World) => (cn s1 = cn E2) /\ (cn c1 = cn E1) /\ (HS w0 w [(b2, Row 129 [.float .f64 0, .float .f64 0])])) (r45) (p2) (_)) rfl rfl rfl ?_
    refine ⟨?_, ?_, hs⟩
    ·
     rw [hE2, (jhK hq).2]
     refine (Fs.cn hr45).trans ((ja5 ?_ e36).trans (jaL ..).symm)
     rw [hp1, hor_row0]
     exact jgB _ e39 8
    rw [hE1, (jhK hq).1, hp2, hor_row1]
    exact jgB _ e39 8
   have hq := heq.trans hz
   refine jcG 34 (v' := .bool false) rfl ((congrArg Value.bool (show (FloatKind.f64.format.order a2 4593671619917905920 != some .eq) = false by unfold bne; rw [hq]; rfl))) ?_
   refine Wf rfl (jaY (jbD (4604544271217802189, 4604544271217802189, _) (is := [2, 3, 5, 6, 7, 8]) (I' := (fun (s1 : Nat) (c1 : Nat) (w : World) => (cn s1 = cn E2) /\ (cn c1 = cn E1) /\ (HS w0 w [(b2, Row 129 [.float .f64 0, .float .f64 0])])) (4604544271217802189) (4604544271217802189) (_)) rfl rfl rfl ?_))
   exact ⟨by rw [hE2, jpA hq], by rw [hE1, jpA hq], hs⟩
  clear hs
  intro s1 c1 w hI
  show W _ _ _ _ [(2, .pointer (some ⟨b2, 0, none⟩)), (3, .float .f64 r), (5, .bool l), (6, .bool sw), (7, .float .f64 s1), (8, .float .f64 c1)] w
  obtain ⟨hs1, hc1, hs⟩ := hI
  subst hE1 hE2
  refine Wqq (Lm rfl (Rt (jpF (fun (s2 : Nat) (c2 : Nat) (w : World) => [(2, .pointer (some ⟨b2, 0, none⟩)), (3, .float .f64 r), (5, .bool l), (7, .float .f64 s2), (8, .float .f64 c2)]) (fun s2 c2 w => w) (fun s2 c2 w => (cn s2 = cn (if sw then (jdD a2).1 else (jdD a2).2)) /\ (cn c2 = cn (if sw then (jdD a2).2 else (jdD a2).1)) /\ (HS w0 w [(b2, Row 129 [.float .f64 0, .float .f64 0])])) ?_ ?_)))
  ·
   rcases (Bool.eq_false_or_eq_true sw).symm with hz | hz
   ·
    refine jcG 49 (v' := .bool false) rfl ((congrArg Value.bool hz)) (Wf rfl (jaY (jbD (s1, c1, _) (is := [2, 3, 5, 7, 8]) (I' := (fun (s2 : Nat) (c2 : Nat) (w : World) => (cn s2 = cn (if sw then (jdD a2).1 else (jdD a2).2)) /\ (cn c2 = cn (if sw then (jdD a2).2 else (jdD a2).1)) /\ (HS w0 w [(b2, Row 129 [.float .f64 0, .float .f64 0])])) (s1) (c1) (_)) rfl rfl rfl ?_)))
    rw [hz]
    exact ⟨hs1, hc1, hs⟩
   refine jcG 49 (v' := .bool true) rfl ((congrArg Value.bool hz)) (Wt rfl (Wq (Lm rfl (La rfl (Rq (Lm rfl (La rfl (Rr (Lm rfl (La rfl (Rnl (jbD (c1, s1, _) (is := [2, 3, 5, 7, 8]) (I' := (fun (s2 : Nat) (c2 : Nat) (w : World) => (cn s2 = cn (if sw then (jdD a2).1 else (jdD a2).2)) /\ (cn c2 = cn (if sw then (jdD a2).2 else (jdD a2).1)) /\ (HS w0 w [(b2, Row 129 [.float .f64 0, .float .f64 0])])) (c1) (s1) (_)) rfl rfl rfl ?_))))))))))))
   rw [hz]
   exact ⟨hc1, hs1, hs⟩
  clear hs
  intro s2 c2 w hI
  show W _ _ _ _ [(2, .pointer (some ⟨b2, 0, none⟩)), (3, .float .f64 r), (5, .bool l), (7, .float .f64 s2), (8, .float .f64 c2)] w
  obtain ⟨hs2, hc2, hs⟩ := hI
  refine Wqq (Lm rfl (Rt (jmM (fun (c3 : Nat) (w : World) => [(2, .pointer (some ⟨b2, 0, none⟩)), (3, .float .f64 r), (7, .float .f64 s2), (8, .float .f64 c3)]) (fun c3 w => w) (fun c3 w => (cn c3 = cn (if l then Op.negFloat .f64 (if sw then (jdD a2).2 else (jdD a2).1) else (if sw then (jdD a2).2 else (jdD a2).1))) /\ (HS w0 w [(b2, Row 129 [.float .f64 0, .float .f64 0])])) ?_ ?_)))
  ·
   rcases (Bool.eq_false_or_eq_true l).symm with hz | hz
   ·
    refine jcG 53 (v' := .bool false) rfl ((congrArg Value.bool hz)) (Wf rfl (jaY (jbD (c2, _) (is := [2, 3, 7, 8]) (I' := (fun (c3 : Nat) (w : World) => (cn c3 = cn (if l then Op.negFloat .f64 (if sw then (jdD a2).2 else (jdD a2).1) else (if sw then (jdD a2).2 else (jdD a2).1))) /\ (HS w0 w [(b2, Row 129 [.float .f64 0, .float .f64 0])])) (c2) (_)) rfl rfl rfl ?_)))
    rw [hz]
    exact ⟨hc2, hs⟩
   refine jcG 53 (v' := .bool true) rfl ((congrArg Value.bool hz)) (Wt rfl (Wr (Lm rfl (jhC rfl rfl (La rfl (Rnl (jbD (_, _) (is := [2, 3, 7, 8]) (I' := (fun (c3 : Nat) (w : World) => (cn c3 = cn (if l then Op.negFloat .f64 (if sw then (jdD a2).2 else (jdD a2).1) else (if sw then (jdD a2).2 else (jdD a2).1))) /\ (HS w0 w [(b2, Row 129 [.float .f64 0, .float .f64 0])])) (_) (_)) rfl rfl rfl ?_)))))))
   rw [hz]
   exact ⟨jdT hc2, hs⟩
  clear hs
  intro c3 w hI
  show W _ _ _ _ [(2, .pointer (some ⟨b2, 0, none⟩)), (3, .float .f64 r), (7, .float .f64 s2), (8, .float .f64 c3)] w
  obtain ⟨hc3, hs⟩ := hI
  obtain ⟨ngb, hngb⟩ : ∃ ngb, tqN wq = ngb := ⟨_, rfl⟩
  rw [hngb] at hng
  refine Wqq (Lm rfl ?_)
  refine Cf rfl (fun _ => by rw [binOp_float_cmp_lss]; rfl) ?_
  refine Rt (jmM (fun (s3 : Nat) (w : World) => [(2, .pointer (some ⟨b2, 0, none⟩)), (7, .float .f64 s3), (8, .float .f64 c3)]) (fun s3 w => w) (fun s3 w => (cn s3 = cn (if ngb then Op.negFloat .f64 (if sw then (jdD a2).1 else (jdD a2).2) else (if sw then (jdD a2).1 else (jdD a2).2))) /\ (HS w0 w [(b2, Row 129 [.float .f64 0, .float .f64 0])])) ?_ ?_)
  ·
   rcases (Bool.eq_false_or_eq_true ngb).symm with hz | hz
   ·
    refine jcG 57 (v' := .bool false) rfl ((congrArg Value.bool (hng.symm.trans hz))) (Wf rfl (jaY (jbD (s2, _) (is := [2, 7, 8]) (I' := (fun (s3 : Nat) (w : World) => (cn s3 = cn (if ngb then Op.negFloat .f64 (if sw then (jdD a2).1 else (jdD a2).2) else (if sw then (jdD a2).1 else (jdD a2).2))) /\ (HS w0 w [(b2, Row 129 [.float .f64 0, .float .f64 0])])) (s2) (_)) rfl rfl rfl ?_)))
    rw [hz]
    exact ⟨hs2, hs⟩
   refine jcG 57 (v' := .bool true) rfl ((congrArg Value.bool (hng.symm.trans hz))) (Wt rfl (Wr (Lm rfl (jhC rfl rfl (La rfl (Rnl (jbD (_, _) (is := [2, 7, 8]) (I' := (fun (s3 : Nat) (w : World) => (cn s3 = cn (if ngb then Op.negFloat .f64 (if sw then (jdD a2).1 else (jdD a2).2) else (if sw then (jdD a2).1 else (jdD a2).2))) /\ (HS w0 w [(b2, Row 129 [.float .f64 0, .float .f64 0])])) (_) (_)) rfl rfl rfl ?_)))))))
   rw [hz]
   exact ⟨jdT hs2, hs⟩
  clear hs
  intro s3 w hI
  show W _ _ _ _ [(2, .pointer (some ⟨b2, 0, none⟩)), (7, .float .f64 s3), (8, .float .f64 c3)] w
  obtain ⟨hs3, hs⟩ := hI
  obtain ⟨g1, g2⟩ := eigF_lt a2
  have l1 : (if sw then (jdD a2).2 else (jdD a2).1) < 18446744073709551616 := by split <;> assumption
  have l2 : (if sw then (jdD a2).1 else (jdD a2).2) < 18446744073709551616 := by split <;> assumption
  have l3 : (if l then Op.negFloat .f64 (if sw then (jdD a2).2 else (jdD a2).1) else (if sw then (jdD a2).2 else (jdD a2).1)) < 18446744073709551616 := by
   split
   ·
    exact neg_lt l1
   exact l1
  have l4 : (if ngb then Op.negFloat .f64 (if sw then (jdD a2).1 else (jdD a2).2) else (if sw then (jdD a2).1 else (jdD a2).2)) < 18446744073709551616 := by
   split
   ·
    exact neg_lt l2
   exact l2
  refine Wq (Lm rfl (Lc f_96 rfl (rclean_ok c3 _) ?_))
  rintro _ w1 ⟨rfl, hs'⟩
  have h0 := hs.nil hs'
  clear hs hs'
  have hs := h0
  clear h0
  refine Lm rfl (Lc f_96 rfl (rclean_ok s3 _) ?_)
  rintro _ w2 ⟨rfl, hs'⟩
  have h0 := hs.nil hs'
  clear hs hs'
  have hs := h0
  clear h0
  refine jbE rfl rfl (Pl.built Tryz.pl129 rfl) (jaQ hs (i := 0) rfl i_129 rfl rfl (by rfl) (by simp) (by simp [Value.oneCell']) ?_)
  intro w hs
  dsimp only [sS, sZ, sA, sN] at hs
  refine Rt (jaW (jc7 rfl rfl a_129 i_129 (by exact jaE (hs.get (i := 0) rfl)) ?_))
  refine ⟨_, rfl, clnF c3, clnF s3, rfl, hs.forget (Own.cons hb2 Own.nil), je4 (a1 := a1) (a2 := a2) hWW hW hl ha1 hsw ha2 hngb ?_ ?_⟩
  ·
   rw [cln_add (lt_of_cn hc3 l3), jaL]
   exact ja5 hc3 rfl
  rw [cln_add (lt_of_cn hs3 l4), jaL]
  exact ja5 hs3 rfl
 rw [jcM hn]
 refine Rt (Wt rfl (Wq (Lc f_93 rfl (nan_ok _) ?_)))
 rintro _ w2 ⟨n1, rfl, hn1, hs'⟩
 have h0 := hs.nil hs'
 clear hs hs'
 have hs := h0
 clear h0
 refine Lc f_93 rfl (nan_ok _) ?_
 rintro _ w3 ⟨n2, rfl, hn2, hs'⟩
 have h0 := hs.nil hs'
 clear hs hs'
 have hs := h0
 clear h0
 refine jbE rfl rfl (Pl.built Tryz.pl129 rfl) (jaQ hs (i := 0) rfl i_129 rfl rfl (by rfl) (by simp) (by simp [Value.oneCell']) ?_)
 intro w hs
 dsimp only [sS, sZ, sA, sN] at hs
 refine Rt (jaW (ja2 (jc7 rfl rfl a_129 i_129 (by exact jaE (hs.get (i := 0) rfl)) ?_)))
 have hw : je8 x = qnan := by
  rcases hwr with ⟨_, h⟩ | ⟨h, _⟩
  ·
   exact h
  rw [hn] at h; cases h
 have ht : jh1 x = (qnan, qnan) := by unfold jh1 tqF; rw [hw, if_pos (by decide +kernel)]
 refine ⟨_, rfl, n1, n2, rfl, hs.forget (Own.cons hb2 Own.nil), ?_, ?_⟩
 ·
  rw [ht, jeR hn1]; decide +kernel
 rw [ht, jeR hn2]; decide +kernel
theorem rstart_ok (x n w : Nat) (w0 : World) : Ret Tryz.prog 57 [.float .f64 x, .float .f64 n, .float .f64 w] w0 fun v w' => v = .agg (jdY x n w).cells.toArray /\ HS w0 w' [] := by
 refine Ret.start fun w' hs => ?_
 refine ja7 Tryz.func57 rfl rfl rfl (Wq (jbL rfl hs jbP ?_))
 intro b6 w hb6 hnb6 hs
 dsimp only [sS, sZ, sA, sN] at hs
 refine Rq (Lmm rfl rfl (Lm rfl (jbE rfl rfl (Pl.built Tryz.pl48 rfl) (jaQ hs (i := 0) rfl jbP rfl rfl (by rfl) (by simp) (by simp [Value.oneCell']) ?_))))
 intro w hs
 dsimp only [sS, sZ, sA, sN] at hs
 refine Rt (jaW (jc7 rfl rfl jfY jbP (by exact jaE (hs.get (i := 0) rfl)) ?_))
 exact ⟨_, rfl, rfl, hs.forget (Own.cons hb6 Own.nil)⟩
theorem jnQ (x : Nat) (w : World) : Ret Tryz.prog 77 [.float .f64 x] w fun v w' => v = .float .f64 (jcZ x) /\ w' = w := by
 refine ja7 Tryz.func77 rfl rfl rfl ?_
 obtain ⟨b, hb⟩ : ∃ b, (FloatKind.f64.format.order x 0 == some .gt) = b := ⟨_, rfl⟩
 cases b
 ·
  refine Wq (La rfl (Rqq (Lm rfl ?_)))
  refine Cf rfl (fun _ => by rw [binOp_float_cmp_gtr, hb]; rfl) ?_
  refine Rt (Wf rfl (Ws (Wq (La rfl (Rt (jaW (ja9 rfl rfl ?_)))))))
  exact ⟨_, rfl, by unfold jcZ gtZ; rw [hb]; rfl, rfl⟩
 refine Wq (La rfl (Rqq (Lm rfl ?_)))
 refine Cf rfl (fun _ => by rw [binOp_float_cmp_gtr, hb]; rfl) ?_
 refine Rt (Wt rfl (Wq (Lm rfl (La rfl (Rt (jaW (ja2 (ja9 rfl rfl ?_))))))))
 exact ⟨_, rfl, by unfold jcZ gtZ; rw [hb]; rfl, rfl⟩
theorem rahead_ok (s : Stt) (t q : Nat) (w0 : World) : Ret Tryz.prog 50 [.agg s.cells.toArray, .float .f64 t, .float .f64 q] w0 fun v w' => (∃ u : Stt, v = .agg u.cells.toArray /\ u.c = (jdB s t q).c) /\ HS w0 w' [] := by
 refine Ret.start fun w hs => ?_
 refine ja7 Tryz.func50 rfl rfl rfl (Wq (jeH rfl hs rfl ?_))
 intro b3 w hb3 hnb3 hs
 dsimp only [sS, sZ, sA, sN] at hs
 refine jbL rfl hs jbP ?_
 intro b6 w hb6 hnb6 hs
 dsimp only [sS, sZ, sA, sN] at hs
 refine Rqq ?_
 replace hs : HS w0 w [(b3, Row 48 s.cells), (b6, Row 48 [.float .f64 0, .float .f64 0, .float .f64 0, .float .f64 0, .float .f64 0])] := hs
 cases hb : gtZ t
 ·
  unfold gtZ at hb
  refine Lm rfl ?_
  refine Cf rfl (fun _ => by rw [binOp_float_cmp_gtr, hb]; rfl) ?_
  refine jcP rfl (Rt (Wt rfl (Wq (jb7 rfl jfY jbP rfl (by exact jaE (cs := s.cells) (hs.get (i := 0) rfl)) ?_))))
  refine jaQ hs (i := 1) rfl jbP rfl rfl (by rfl) (by simp [Stt.cells]) (by exact Stt.one s) ?_
  intro w hs
  dsimp only [sS, sZ, sA, sN] at hs
  refine Rt (jaW (ja2 (jc7 rfl rfl jfY jbP (by exact jaE (cs := s.cells) (hs.get (i := 1) rfl)) ?_)))
  exact ⟨_, rfl, ⟨s, rfl, by unfold jdB gtZ; rw [hb]; rfl⟩, hs.forget (Own.cons hb3 (Own.cons hb6 Own.nil))⟩
 have hb' := hb
 unfold gtZ at hb'
 refine Lm rfl ?_
 refine Cf rfl (fun _ => by rw [binOp_float_cmp_gtr, hb']; rfl) ?_
 refine jcP rfl (Rt (Wf rfl (Ws (Wq (Lf 3 jdE rfl jaS (Ll jb5 rfl (by exact hs.cell (i := 0) rfl rfl) ?_))))))
 refine Lm rfl (jaC rfl (op := .mul) rfl rfl rfl ?_)
 intro r20 k20 hr20
 replace hs := hs.drewN k20
 refine La rfl (Rq (Lf 4 jdE rfl jaS (Ll jb5 rfl (by exact hs.cell (i := 0) rfl rfl) ?_)))
 refine Lm rfl (jaC rfl (op := .mul) rfl rfl rfl ?_)
 intro r24 k24 hr24
 replace hs := hs.drewN k24
 refine La rfl (Rq (Lmm rfl rfl (jaC rfl (op := .mul) rfl rfl rfl ?_)))
 intro r27 k27 hr27
 replace hs := hs.drewN k27
 refine La rfl (Rq (Lmm rfl rfl (jaC rfl (op := .mul) rfl rfl rfl ?_)))
 intro r30 k30 hr30
 replace hs := hs.drewN k30
 refine jaC rfl (op := .quo) rfl rfl rfl ?_
 intro r31 k31 hr31
 replace hs := hs.drewN k31
 refine La rfl (Rq (Lmm rfl rfl (jaC rfl (op := .mul) rfl rfl rfl ?_)))
 intro r34 k34 hr34
 replace hs := hs.drewN k34
 refine Lm rfl (jaC rfl (op := .mul) rfl rfl rfl ?_)
 intro r36 k36 hr36
 replace hs := hs.drewN k36
 refine jaC rfl (op := .quo) rfl rfl rfl ?_
 intro r37 k37 hr37
 replace hs := hs.drewN k37
 refine La rfl (Rq (Lf 0 jdE rfl jaS (Ll jb5 rfl (by exact hs.cell (i := 0) rfl rfl) ?_)))
 refine Lf 1 jdE rfl jaS (Ll jb5 rfl (by exact hs.cell (i := 0) rfl rfl) ?_)
 refine Lm rfl (jaC rfl (op := .mul) rfl rfl rfl ?_)
 intro r43 k43 hr43
 replace hs := hs.drewN k43
 refine jaC rfl (op := .add) rfl rfl rfl ?_
 intro r44 k44 hr44
 replace hs := hs.drewN k44
 refine Lf 1 jdE rfl jaS (Ll jb5 rfl (by exact hs.cell (i := 0) rfl rfl) ?_)
 refine jbE rfl rfl (Pl.built Tryz.pl48 rfl) (jbL rfl hs jbP ?_)
 intro b12 w hb12 hnb12 hs
 dsimp only [sS, sZ, sA, sN] at hs
 refine jaQ hs (i := 2) rfl jbP rfl rfl (by rfl) (by simp) (by simp [Value.oneCell']) ?_
 intro w hs
 dsimp only [sS, sZ, sA, sN] at hs
 refine Rq (Lf 2 jdE rfl jaS (Ll jb5 rfl (by exact hs.cell (i := 0) rfl rfl) ?_))
 refine Lm rfl (jaC rfl (op := .add) rfl rfl rfl ?_)
 intro r51 k51 hr51
 replace hs := hs.drewN k51
 refine Lm rfl (jaC rfl (op := .add) rfl rfl rfl ?_)
 intro r53 k53 hr53
 replace hs := hs.drewN k53
 refine Lmm rfl rfl (jaC rfl (op := .mul) rfl rfl rfl ?_)
 intro r56 k56 hr56
 replace hs := hs.drewN k56
 refine jaC rfl (op := .add) rfl rfl rfl ?_
 intro r57 k57 hr57
 replace hs := hs.drewN k57
 refine Lm rfl (jaC rfl (op := .add) rfl rfl rfl ?_)
 intro r59 k59 hr59
 replace hs := hs.drewN k59
 refine Lc f_77 rfl (jnQ _ _) ?_
 rintro _ _ ⟨rfl, rfl⟩
 refine Lf 2 jdE rfl jaS (jaH hs (i := 2) rfl jaS rfl rfl (by rfl) (by simp) rfl ?_)
 intro w hs
 dsimp only [sS, sZ, sA, sN] at hs
 refine Rq (Lf 3 jdE rfl jaS (Ll jb5 rfl (by exact hs.cell (i := 0) rfl rfl) ?_))
 refine Lm rfl (jaC rfl (op := .add) rfl rfl rfl ?_)
 intro r65 k65 hr65
 replace hs := hs.drewN k65
 refine Lm rfl (jaC rfl (op := .add) rfl rfl rfl ?_)
 intro r67 k67 hr67
 replace hs := hs.drewN k67
 refine Lf 3 jdE rfl jaS (jaH hs (i := 2) rfl jaS rfl rfl (by rfl) (by simp) rfl ?_)
 intro w hs
 dsimp only [sS, sZ, sA, sN] at hs
 refine Rq (Lf 4 jdE rfl jaS (Ll jb5 rfl (by exact hs.cell (i := 0) rfl rfl) ?_))
 refine Lm rfl (jaC rfl (op := .add) rfl rfl rfl ?_)
 intro r72 k72 hr72
 replace hs := hs.drewN k72
 refine Lf 4 jdE rfl jaS (jaH hs (i := 2) rfl jaS rfl rfl (by rfl) (by simp) rfl ?_)
 intro w hs
 dsimp only [sS, sZ, sA, sN] at hs
 refine Rq (jb7 rfl jfY jbP rfl (by exact jaE (hs.get (i := 2) rfl)) ?_)
 refine jaQ hs (i := 1) rfl jbP rfl rfl (by rfl) (by simp) (by simp [Value.oneCell']) ?_
 intro w hs
 dsimp only [sS, sZ, sA, sN] at hs
 refine Rt (jaW (jc7 rfl rfl jfY jbP (by exact jaE (hs.get (i := 1) rfl)) ?_))
 refine ⟨_, rfl, ⟨⟨r44, s.v, jcZ r59, r67, r72⟩, rfl, ?_⟩, hs.forget (Own.cons hb3 (Own.cons hb6 (Own.cons hb12 Own.nil)))⟩
 unfold jdB
 rw [hb, if_pos rfl]
 have c20 := (Fs.cn hr20).trans (jaL ..).symm
 have c24 := (Fs.cn hr24).trans (jaL ..).symm
 have c27 := (Fs.cn hr27).trans (jaL ..).symm
 have c30 : cn r30 = cn (fop .mul (fop .mul q t) t) := (Fs.cn hr30).trans ((ja5 c27 rfl).trans (jaL ..).symm)
 have c31 := (Fs.cn hr31).trans ((ja5 c30 rfl).trans (jaL ..).symm)
 have c34 : cn r34 = cn (fop .mul (fop .mul q t) t) := (Fs.cn hr34).trans ((ja5 c27 rfl).trans (jaL ..).symm)
 have c36 : cn r36 = cn (fop .mul (fop .mul (fop .mul q t) t) t) := (Fs.cn hr36).trans ((ja5 c34 rfl).trans (jaL ..).symm)
 have c37 := (Fs.cn hr37).trans ((ja5 c36 rfl).trans (jaL ..).symm)
 have c43 := (Fs.cn hr43).trans (jaL ..).symm
 have c44 := (Fs.cn hr44).trans ((ja5 rfl c43).trans (jaL ..).symm)
 have c51 : cn r51 = cn (fop .add s.p (fop .mul s.q t)) := (Fs.cn hr51).trans ((ja5 rfl c20).trans (jaL ..).symm)
 have c53 : cn r53 = cn (fop .add (fop .add s.p (fop .mul s.q t)) (fop .mul s.q t)) := (Fs.cn hr53).trans ((ja5 c51 c20).trans (jaL ..).symm)
 have c56 : cn r56 = cn (fop .mul (fop .mul s.r t) t) := (Fs.cn hr56).trans ((ja5 c24 rfl).trans (jaL ..).symm)
 have c57 := (Fs.cn hr57).trans ((ja5 c53 c56).trans (jaL ..).symm)
 have c59 := (Fs.cn hr59).trans ((ja5 c57 c37).trans (jaL ..).symm)
 have c65 := (Fs.cn hr65).trans ((ja5 rfl c24).trans (jaL ..).symm)
 have c67 := (Fs.cn hr67).trans ((ja5 c65 c31).trans (jaL ..).symm)
 have c72 := (Fs.cn hr72).trans ((ja5 rfl c27).trans (jaL ..).symm)
 show Stt.mk _ _ _ _ _ = Stt.mk _ _ _ _ _
 rw [c44, je2 c59, c67, c72]
theorem rseen_ok (s : Stt) (x n : Nat) (w0 : World) : Ret Tryz.prog 54 [.agg s.cells.toArray, .float .f64 x, .float .f64 n] w0 fun v w' => (∃ u : Stt, v = .agg u.cells.toArray /\ u.c = (jcY s x n).c) /\ HS w0 w' [] := by
 refine Ret.start fun w hs => ?_
 refine ja7 Tryz.func54 rfl rfl rfl (Wq (jeH rfl hs rfl ?_))
 intro b3 w hb3 hnb3 hs
 dsimp only [sS, sZ, sA, sN] at hs
 refine jbL rfl hs jbP ?_
 intro b6 w hb6 hnb6 hs
 dsimp only [sS, sZ, sA, sN] at hs
 refine Rq ?_
 replace hs : HS w0 w [(b3, Row 48 s.cells), (b6, Row 48 [.float .f64 0, .float .f64 0, .float .f64 0, .float .f64 0, .float .f64 0])] := hs
 refine Lf 2 jdE rfl jaS (Ll jb5 rfl (by exact hs.cell (i := 0) rfl rfl) ?_)
 refine Lm rfl (jaC rfl (op := .add) rfl rfl rfl ?_)
 intro r16 k16 hr16
 replace hs := hs.drewN k16
 refine La rfl (Rqq (Lm rfl ?_))
 have ew : cn r16 = cn (jmK s n) := (Fs.cn hr16).trans (jaL ..).symm
 have hg : (FloatKind.f64.format.order r16 0 == some .gt) = gtZ (jmK s n) := jgC ew
 cases hb : gtZ (jmK s n)
 ·
  rw [hb] at hg
  refine Cf rfl (fun _ => by rw [binOp_float_cmp_gtr, hg]; rfl) ?_
  refine jcP rfl (Rt (Wt rfl (Wq (jb7 rfl jfY jbP rfl (by exact jaE (cs := s.cells) (hs.get (i := 0) rfl)) ?_))))
  refine jaQ hs (i := 1) rfl jbP rfl rfl (by rfl) (by simp [Stt.cells]) (by exact Stt.one s) ?_
  intro w hs
  dsimp only [sS, sZ, sA, sN] at hs
  refine Rt (jaW (ja2 (jc7 rfl rfl jfY jbP (by exact jaE (cs := s.cells) (hs.get (i := 1) rfl)) ?_)))
  exact ⟨_, rfl, ⟨s, rfl, by unfold jcY; rw [hb]; rfl⟩, hs.forget (Own.cons hb3 (Own.cons hb6 Own.nil))⟩
 rw [hb] at hg
 refine Cf rfl (fun _ => by rw [binOp_float_cmp_gtr, hg]; rfl) ?_
 refine jcP rfl (Rt (Wf rfl (Ws (Wq (Lm rfl (Lf 0 jdE rfl jaS (Ll jb5 rfl (by exact hs.cell (i := 0) rfl rfl) ?_)))))))
 refine jaC rfl (op := .sub) rfl rfl rfl ?_
 intro r24 k24 hr24
 replace hs := hs.drewN k24
 refine La rfl (Rq (Lf 2 jdE rfl jaS (Ll jb5 rfl (by exact hs.cell (i := 0) rfl rfl) ?_)))
 refine Lm rfl (jaC rfl (op := .quo) rfl rfl rfl ?_)
 intro r28 k28 hr28
 replace hs := hs.drewN k28
 refine La rfl (Rq (Lf 3 jdE rfl jaS (Ll jb5 rfl (by exact hs.cell (i := 0) rfl rfl) ?_)))
 refine Lm rfl (jaC rfl (op := .quo) rfl rfl rfl ?_)
 intro r32 k32 hr32
 replace hs := hs.drewN k32
 refine La rfl (Rq (Lf 0 jdE rfl jaS (Ll jb5 rfl (by exact hs.cell (i := 0) rfl rfl) ?_)))
 refine Lmm rfl rfl (jaC rfl (op := .mul) rfl rfl rfl ?_)
 intro r37 k37 hr37
 replace hs := hs.drewN k37
 refine jaC rfl (op := .add) rfl rfl rfl ?_
 intro r38 k38 hr38
 replace hs := hs.drewN k38
 refine Lf 1 jdE rfl jaS (Ll jb5 rfl (by exact hs.cell (i := 0) rfl rfl) ?_)
 refine Lmm rfl rfl (jaC rfl (op := .mul) rfl rfl rfl ?_)
 intro r43 k43 hr43
 replace hs := hs.drewN k43
 refine jaC rfl (op := .add) rfl rfl rfl ?_
 intro r44 k44 hr44
 replace hs := hs.drewN k44
 refine jbE rfl rfl (Pl.built Tryz.pl48 rfl) (jbL rfl hs jbP ?_)
 intro b11 w hb11 hnb11 hs
 dsimp only [sS, sZ, sA, sN] at hs
 refine jaQ hs (i := 2) rfl jbP rfl rfl (by rfl) (by simp) (by simp [Value.oneCell']) ?_
 intro w hs
 dsimp only [sS, sZ, sA, sN] at hs
 refine Rq (Lf 2 jdE rfl jaS (Ll jb5 rfl (by exact hs.cell (i := 0) rfl rfl) ?_))
 refine Lf 2 jdE rfl jaS (jaH hs (i := 2) rfl jaS rfl rfl (by rfl) (by simp) rfl ?_)
 intro w hs
 dsimp only [sS, sZ, sA, sN] at hs
 refine Rq (Lmm rfl rfl (jaC rfl (op := .mul) rfl rfl rfl ?_))
 intro r51 k51 hr51
 replace hs := hs.drewN k51
 refine La rfl (Rqq (Lm rfl (Lf 2 jdE rfl jaS (Ll jb5 rfl (by exact hs.cell (i := 0) rfl rfl) ?_))))
 have c24 : cn r24 = cn (seenY s x) := (Fs.cn hr24).trans (jaL ..).symm
 have c28 : cn r28 = cn (jgZ s n) := (Fs.cn hr28).trans ((ja5 rfl ew).trans (jaL ..).symm)
 have c32 : cn r32 = cn (jh3 s n) := (Fs.cn hr32).trans ((ja5 rfl ew).trans (jaL ..).symm)
 have c37 := (Fs.cn hr37).trans ((ja5 c28 c24).trans (jaL ..).symm)
 have c38 := (Fs.cn hr38).trans ((ja5 rfl c37).trans (jaL ..).symm)
 have c43 := (Fs.cn hr43).trans ((ja5 c32 c24).trans (jaL ..).symm)
 have c44 := (Fs.cn hr44).trans ((ja5 rfl c43).trans (jaL ..).symm)
 have c51 : cn r51 = cn (fop .mul (jgZ s n) n) := (Fs.cn hr51).trans ((ja5 c28 rfl).trans (jaL ..).symm)
 have hl : (FloatKind.f64.format.order r51 s.p == some .lt) = ltB (fop .mul (jgZ s n) n) s.p := jnX c51 rfl
 cases hlt : ltB (fop .mul (jgZ s n) n) s.p
 ·
  rw [hlt] at hl
  refine Cf rfl (fun _ => by rw [binOp_float_cmp_lss, hl]; rfl) ?_
  refine Rt (Wf rfl (Ws (Wq (Lmm rfl rfl (jaC rfl (op := .mul) rfl rfl rfl ?_)))))
  intro r60 k60 hr60
  replace hs := hs.drewN k60
  refine Lf 3 jdE rfl jaS (jaH hs (i := 2) rfl jaS rfl rfl (by rfl) (by simp) rfl ?_)
  intro w hs
  dsimp only [sS, sZ, sA, sN] at hs
  refine Rq (Lf 4 jdE rfl jaS (Ll jb5 rfl (by exact hs.cell (i := 0) rfl rfl) ?_))
  refine Lm rfl (Lf 3 jdE rfl jaS (Ll jb5 rfl (by exact hs.cell (i := 0) rfl rfl) ?_))
  refine jaC rfl (op := .mul) rfl rfl rfl ?_
  intro r67 k67 hr67
  replace hs := hs.drewN k67
  refine jaC rfl (op := .sub) rfl rfl rfl ?_
  intro r68 k68 hr68
  replace hs := hs.drewN k68
  refine Lc f_77 rfl (jnQ _ _) ?_
  rintro _ _ ⟨rfl, rfl⟩
  refine Lf 4 jdE rfl jaS (jaH hs (i := 2) rfl jaS rfl rfl (by rfl) (by simp) rfl ?_)
  intro w hs
  dsimp only [sS, sZ, sA, sN] at hs
  refine Rq (jb7 rfl jfY jbP rfl (by exact jaE (hs.get (i := 2) rfl)) ?_)
  refine jaQ hs (i := 1) rfl jbP rfl rfl (by rfl) (by simp) (by simp [Value.oneCell']) ?_
  intro w hs
  dsimp only [sS, sZ, sA, sN] at hs
  refine Rt (jaW (jc7 rfl rfl jfY jbP (by exact jaE (hs.get (i := 1) rfl)) ?_))
  have c60 := (Fs.cn hr60).trans ((ja5 c32 rfl).trans (jaL ..).symm)
  have c67 := (Fs.cn hr67).trans ((ja5 c32 rfl).trans (jaL ..).symm)
  have c68 := (Fs.cn hr68).trans ((ja5 rfl c67).trans (jaL ..).symm)
  refine ⟨_, rfl, ⟨⟨r38, r44, s.p, r60, jcZ r68⟩, rfl, ?_⟩, hs.forget (Own.cons hb3 (Own.cons hb6 (Own.cons hb11 Own.nil)))⟩
  unfold jcY
  rw [hb, if_pos rfl, hlt]
  show Stt.mk _ _ _ _ _ = Stt.mk _ _ _ _ _
  rw [c38, c44, c60, je2 c68]; rfl
 rw [hlt] at hl
 refine Cf rfl (fun _ => by rw [binOp_float_cmp_lss, hl]; rfl) ?_
 refine Rt (Wt rfl (Wr (Lm rfl (Lf 2 jdE rfl jaS (jaH hs (i := 2) rfl jaS rfl rfl (by rfl) (by simp) rfl ?_)))))
 intro w hs
 dsimp only [sS, sZ, sA, sN] at hs
 refine Rq (Lmm rfl rfl (jaC rfl (op := .mul) rfl rfl rfl ?_))
 intro r60 k60 hr60
 replace hs := hs.drewN k60
 refine Lf 3 jdE rfl jaS (jaH hs (i := 2) rfl jaS rfl rfl (by rfl) (by simp) rfl ?_)
 intro w hs
 dsimp only [sS, sZ, sA, sN] at hs
 refine Rq (Lf 4 jdE rfl jaS (Ll jb5 rfl (by exact hs.cell (i := 0) rfl rfl) ?_))
 refine Lm rfl (Lf 3 jdE rfl jaS (Ll jb5 rfl (by exact hs.cell (i := 0) rfl rfl) ?_))
 refine jaC rfl (op := .mul) rfl rfl rfl ?_
 intro r67 k67 hr67
 replace hs := hs.drewN k67
 refine jaC rfl (op := .sub) rfl rfl rfl ?_
 intro r68 k68 hr68
 replace hs := hs.drewN k68
 refine Lc f_77 rfl (jnQ _ _) ?_
 rintro _ _ ⟨rfl, rfl⟩
 refine Lf 4 jdE rfl jaS (jaH hs (i := 2) rfl jaS rfl rfl (by rfl) (by simp) rfl ?_)
 intro w hs
 dsimp only [sS, sZ, sA, sN] at hs
 refine Rq (jb7 rfl jfY jbP rfl (by exact jaE (hs.get (i := 2) rfl)) ?_)
 refine jaQ hs (i := 1) rfl jbP rfl rfl (by rfl) (by simp) (by simp [Value.oneCell']) ?_
 intro w hs
 dsimp only [sS, sZ, sA, sN] at hs
 refine Rt (jaW (jc7 rfl rfl jfY jbP (by exact jaE (hs.get (i := 1) rfl)) ?_))
 have c60 := (Fs.cn hr60).trans ((ja5 c32 rfl).trans (jaL ..).symm)
 have c67 := (Fs.cn hr67).trans ((ja5 c32 rfl).trans (jaL ..).symm)
 have c68 := (Fs.cn hr68).trans ((ja5 rfl c67).trans (jaL ..).symm)
 refine ⟨_, rfl, ⟨⟨r38, r44, r51, r60, jcZ r68⟩, rfl, ?_⟩, hs.forget (Own.cons hb3 (Own.cons hb6 (Own.cons hb11 Own.nil)))⟩
 unfold jcY
 rw [hb, if_pos rfl, hlt, if_pos rfl]
 show Stt.mk _ _ _ _ _ = Stt.mk _ _ _ _ _
 rw [c38, c44, c51, c60, je2 c68]
theorem rfar_ok (s : Stt) (x n : Nat) (w0 : World) : Ret Tryz.prog 78 [.agg s.cells.toArray, .float .f64 x, .float .f64 n] w0 fun v w' => (∃ d, v = .float .f64 d /\ cn d = cn (jpS s x n)) /\ HS w0 w' [] := by
 refine Ret.start fun w hs => ?_
 refine ja7 Tryz.func78 rfl rfl rfl (Wq (jeH rfl hs rfl ?_))
 intro b3 w hb3 hnb3 hs
 dsimp only [sS, sZ, sA, sN] at hs
 refine La rfl (Rq ?_)
 replace hs : HS w0 w [(b3, Row 48 s.cells)] := hs
 refine Lf 2 jdE rfl jaS (Ll jb5 rfl (by exact hs.cell (i := 0) rfl rfl) ?_)
 refine Lm rfl (jaC rfl (op := .add) rfl rfl rfl ?_)
 intro r12 k12 hr12
 replace hs := hs.drewN k12
 refine La rfl (Rqq (Lm rfl ?_))
 have ew : cn r12 = cn (jmK s n) := (Fs.cn hr12).trans (jaL ..).symm
 have hg : (FloatKind.f64.format.order r12 0 == some .gt) = gtZ (jmK s n) := jgC ew
 cases hb : gtZ (jmK s n)
 ·
  rw [hb] at hg
  refine Cf rfl (fun _ => by rw [binOp_float_cmp_gtr, hg]; rfl) ?_
  refine jcP rfl (Rt (Wt rfl (Wq (Lc f_19 rfl (inf_ok _) ?_))))
  rintro _ _ ⟨rfl, rfl⟩
  refine La rfl (Rt (jaW (ja2 (ja9 rfl rfl ?_))))
  exact ⟨_, rfl, ⟨_, rfl, by unfold jpS; rw [hb]; rfl⟩, hs.forget (Own.cons hb3 Own.nil)⟩
 rw [hb] at hg
 refine Cf rfl (fun _ => by rw [binOp_float_cmp_gtr, hg]; rfl) ?_
 refine jcP rfl (Rt (Wf rfl (Ws (Wq (Lm rfl (Lf 0 jdE rfl jaS (Ll jb5 rfl (by exact hs.cell (i := 0) rfl rfl) ?_)))))))
 refine jaC rfl (op := .sub) rfl rfl rfl ?_
 intro r20 k20 hr20
 replace hs := hs.drewN k20
 refine La rfl (Rq (Lmm rfl rfl (jaC rfl (op := .mul) rfl rfl rfl ?_)))
 intro r23 k23 hr23
 replace hs := hs.drewN k23
 refine Lm rfl (jaC rfl (op := .quo) rfl rfl rfl ?_)
 intro r25 k25 hr25
 replace hs := hs.drewN k25
 refine La rfl (Rt (jaW (ja9 rfl rfl ?_)))
 refine ⟨_, rfl, ⟨_, rfl, ?_⟩, hs.forget (Own.cons hb3 Own.nil)⟩
 unfold jpS
 rw [hb, if_pos rfl, jaL]
 have ey : cn r20 = cn (fop .sub x s.x) := (Fs.cn hr20).trans (jaL ..).symm
 exact (Fs.cn hr25).trans (ja5 ((Fs.cn hr23).trans ((ja5 ey ey).trans (jaL ..).symm)) ew)
theorem rpoint_ok (l : Plt) (hb : l.b < 18446744073709551616) (w0 : World) : Ret Tryz.prog 52 [.agg l.cells.toArray] w0 fun v w' => (∃ x y, v = .agg #[.float .f64 x, .float .f64 y] /\ cn x = ptX l /\ cn y = ptY l) /\ HS w0 w' [] := by
 refine Ret.start fun w hs => ?_
 refine ja7 Tryz.func52 rfl rfl rfl (Wq (jeH rfl hs rfl ?_))
 intro b1 w hb1 hnb1 hs
 dsimp only [sS, sZ, sA, sN] at hs
 refine jbL rfl hs jmF ?_
 intro b2 w hb2 hnb2 hs
 dsimp only [sS, sZ, sA, sN] at hs
 refine Rq ?_
 replace hs : HS w0 w [(b1, Row 42 l.cells), (b2, Row 83 [.float .f64 0, .float .f64 0])] := hs
 refine Lf 3 jqM rfl jaS (Ll jb5 rfl (by exact hs.cell (i := 0) rfl rfl) ?_)
 refine Lc f_79 rfl (rturn_ok l.b hb w) ?_
 rintro _ w ⟨re, im, rfl, hs', hre, him⟩
 have h1 := hs.nil hs'
 clear hs hs'
 have hs := h1
 clear h1
 refine jbL rfl hs i_129 ?_
 intro b3 w hb3 hnb3 hs
 dsimp only [sS, sZ, sA, sN] at hs
 refine jaQ hs (i := 2) rfl i_129 rfl rfl (by rfl) (by simp) (by simp [Value.oneCell']) ?_
 intro w hs
 dsimp only [sS, sZ, sA, sN] at hs
 refine Rq (Lf 0 jqM rfl jaS (Ll jb5 rfl (by exact hs.cell (i := 0) rfl rfl) ?_))
 refine Lf 1 u_129 rfl jaS (Ll jb5 rfl (by exact hs.cell (i := 2) rfl rfl) ?_)
 refine jaC rfl (op := .mul) rfl rfl rfl ?_
 intro r11 k11 hr11
 replace hs := hs.drewN k11
 refine Lf 0 jqM rfl jaS (Ll jb5 rfl (by exact hs.cell (i := 0) rfl rfl) ?_)
 refine Lf 0 u_129 rfl jaS (Ll jb5 rfl (by exact hs.cell (i := 2) rfl rfl) ?_)
 refine jaC rfl (op := .mul) rfl rfl rfl ?_
 intro r16 k16 hr16
 replace hs := hs.drewN k16
 refine jbE rfl rfl (Pl.built Tryz.pl83 rfl) (jaQ hs (i := 1) rfl jmF rfl rfl (by rfl) (by simp) (by simp [Value.oneCell']) ?_)
 intro w hs
 dsimp only [sS, sZ, sA, sN] at hs
 refine Rt (jaW (jc7 rfl rfl a_83 jmF (by exact jaE (hs.get (i := 1) rfl)) ?_))
 refine ⟨_, rfl, ⟨_, _, rfl, ?_, ?_⟩, hs.forget (Own.cons hb1 (Own.cons hb2 (Own.cons hb3 Own.nil)))⟩
 ·
  exact (Fs.cn hr11).trans (ja5 rfl him)
 exact (Fs.cn hr16).trans (ja5 rfl hre)
theorem jhH (x : Nat) (hx : x < 18446744073709551616) (w : World) : Ret Tryz.prog 20 [.float .f64 x] w fun v w' => v = .bool (je6 x) /\ w' = w := by
 have key : je6 x = (FloatKind.f64.format.order x x == some .eq && ((FloatKind.f64.format.order x 9218868437227405311 == some .lt || FloatKind.f64.format.order x 9218868437227405311 == some .eq) && (FloatKind.f64.format.order x 18442240474082181119 == some .gt || FloatKind.f64.format.order x 18442240474082181119 == some .eq))) := by
  have h1 := FV.nat (r := 9218868437227405311) (by decide)
  have h2 : FV 18442240474082181119 (-(rv 9218868437227405311 : Int)) := ⟨true, 9218868437227405311, by decide +kernel, by decide, by simp⟩
  rcases jhL hx with ⟨v, hv⟩ | ⟨s, hs⟩ | hn
  ·
   have hf := hv.fin
   have e1 : FloatKind.f64.format.order x x = some .eq := by rw [hv.order hv, Int.compare_eq_eq.2 rfl]
   unfold Gr at hf
   unfold je6 nanB infB
   rw [e1, hv.leq h1, hv.geq h2, hv.abs.gtt h1]
   rw [decide_eq_false (by omega), decide_eq_true (by omega), decide_eq_true (by omega)]
   rfl
  ·
   rcases jfK hx hs with rfl | rfl <;> decide +kernel
  unfold je6 nanB
  rw [jcM hn]; rfl
 refine ja7 Tryz.func20 rfl rfl rfl ?_
 cases c1 : FloatKind.f64.format.order x x == some .eq
 ·
  refine Wq (La rfl (Rq (Lmm rfl rfl ?_)))
  refine Cf rfl (fun _ => by rw [binOp_float_cmp_eql, c1]; rfl) ?_
  refine Lm rfl (Rs rfl (Rs rfl (Lpf rfl (Lm rfl (Rs rfl (Rs rfl (Lpf rfl (La rfl (Rt (jaW (ja9 rfl rfl ?_)))))))))))
  exact ⟨_, rfl, by rw [key, c1]; rfl, rfl⟩
 cases c2 : (FloatKind.f64.format.order x 9218868437227405311 == some .lt || FloatKind.f64.format.order x 9218868437227405311 == some .eq)
 ·
  refine Wq (La rfl (Rq (Lmm rfl rfl ?_)))
  refine Cf rfl (fun _ => by rw [binOp_float_cmp_eql, c1]; rfl) ?_
  refine Lm rfl (Gm rfl rfl (Rw rfl ?_))
  refine Cf rfl (fun _ => by rw [binOp_float_cmp_leq, c2]; rfl) ?_
  refine Lpt rfl (Lm rfl (Rs rfl (Rs rfl (Lpf rfl (La rfl (Rt (jaW (ja9 rfl rfl ?_))))))))
  exact ⟨_, rfl, by rw [key, c1, c2]; rfl, rfl⟩
 cases c3 : (FloatKind.f64.format.order x 18442240474082181119 == some .gt || FloatKind.f64.format.order x 18442240474082181119 == some .eq)
 ·
  refine Wq (La rfl (Rq (Lmm rfl rfl ?_)))
  refine Cf rfl (fun _ => by rw [binOp_float_cmp_eql, c1]; rfl) ?_
  refine Lm rfl (Gm rfl rfl (Rw rfl ?_))
  refine Cf rfl (fun _ => by rw [binOp_float_cmp_leq, c2]; rfl) ?_
  refine Lpt rfl (Lm rfl (Gm rfl rfl (Rw rfl ?_)))
  refine Cf rfl (fun _ => by rw [binOp_float_cmp_geq, c3]; rfl) ?_
  refine Lpt rfl (La rfl (Rt (jaW (ja9 rfl rfl ?_))))
  exact ⟨_, rfl, by rw [key, c1, c2, c3]; rfl, rfl⟩
 refine Wq (La rfl (Rq (Lmm rfl rfl ?_)))
 refine Cf rfl (fun _ => by rw [binOp_float_cmp_eql, c1]; rfl) ?_
 refine Lm rfl (Gm rfl rfl (Rw rfl ?_))
 refine Cf rfl (fun _ => by rw [binOp_float_cmp_leq, c2]; rfl) ?_
 refine Lpt rfl (Lm rfl (Gm rfl rfl (Rw rfl ?_)))
 refine Cf rfl (fun _ => by rw [binOp_float_cmp_geq, c3]; rfl) ?_
 refine Lpt rfl (La rfl (Rt (jaW (ja9 rfl rfl ?_))))
 exact ⟨_, rfl, by rw [key, c1, c2, c3]; rfl, rfl⟩
def SPD (f : FuncId) (args : Array Value) (v : Value) : Prop := match f, args.toList with
 | 78, [.agg a, .float .f64 x, .float .f64 n] => ∀ s : Stt, a = s.cells.toArray -> ∃ d, v = .float .f64 d /\ cn d = cn (jpS s x n)
 | 50, [.agg a, .float .f64 t, .float .f64 q] => ∀ s : Stt, a = s.cells.toArray -> ∃ u : Stt, v = .agg u.cells.toArray /\ u.c = (jdB s t q).c
 | 54, [.agg a, .float .f64 x, .float .f64 n] => ∀ s : Stt, a = s.cells.toArray -> ∃ u : Stt, v = .agg u.cells.toArray /\ u.c = (jcY s x n).c
 | 57, [.float .f64 x, .float .f64 n, .float .f64 q] => v = .agg (jdY x n q).cells.toArray
 | _, _ => False
theorem rfarH {w0 w : World} {L : Bks} (hs : HS w0 w L) (s : Stt) (x n : Nat) : Ret Tryz.prog 78 [.agg s.cells.toArray, .float .f64 x, .float .f64 n] w fun v w' => SPD 78 [.agg s.cells.toArray, .float .f64 x, .float .f64 n].toArray v /\ HS w0 w' L :=
 Calls.mono (rfar_ok s x n w) fun e w' => by
  rintro ⟨v, rfl, ⟨d, rfl, hd⟩, hs'⟩
  exact ⟨_, rfl, fun s' h => ⟨d, rfl, by rw [<- Stt.inj h]; exact hd⟩, hs.nil hs'⟩
theorem raheadH {w0 w : World} {L : Bks} (hs : HS w0 w L) (s : Stt) (x n : Nat) : Ret Tryz.prog 50 [.agg s.cells.toArray, .float .f64 x, .float .f64 n] w fun v w' => SPD 50 [.agg s.cells.toArray, .float .f64 x, .float .f64 n].toArray v /\ HS w0 w' L :=
 Calls.mono (rahead_ok s x n w) fun e w' => by
  rintro ⟨v, rfl, ⟨u, rfl, hu⟩, hs'⟩
  exact ⟨_, rfl, fun s' h => ⟨u, rfl, by rw [<- Stt.inj h]; exact hu⟩, hs.nil hs'⟩
theorem rseenH {w0 w : World} {L : Bks} (hs : HS w0 w L) (s : Stt) (x n : Nat) : Ret Tryz.prog 54 [.agg s.cells.toArray, .float .f64 x, .float .f64 n] w fun v w' => SPD 54 [.agg s.cells.toArray, .float .f64 x, .float .f64 n].toArray v /\ HS w0 w' L :=
 Calls.mono (rseen_ok s x n w) fun e w' => by
  rintro ⟨v, rfl, ⟨u, rfl, hu⟩, hs'⟩
  exact ⟨_, rfl, fun s' h => ⟨u, rfl, by rw [<- Stt.inj h]; exact hu⟩, hs.nil hs'⟩
theorem rstartH {w0 w : World} {L : Bks} (hs : HS w0 w L) (x n q : Nat) : Ret Tryz.prog 57 [.float .f64 x, .float .f64 n, .float .f64 q] w fun v w' => SPD 57 [.float .f64 x, .float .f64 n, .float .f64 q].toArray v /\ HS w0 w' L :=
 Calls.mono (rstart_ok x n q w) fun e w' => by
  rintro ⟨v, rfl, rfl, hs'⟩
  exact ⟨_, rfl, rfl, hs.nil hs'⟩
theorem rcost_ok (B n g : Nat) (t : Trk) (px py : Nat) (w0 : World) (hg : GateOk g) (hn : w0.cell? ⟨B, 0, none⟩ = some (.float .f64 n)) (hgc : w0.cell? ⟨B, 2, none⟩ = some (.float .f64 g)) :
  Ret Tryz.prog 51 [.pointer (some ⟨B, 0, none⟩), .agg t.cells.toArray, .agg #[.float .f64 px, .float .f64 py]] w0 fun v w' => v = .int .i64 (jdV n g t.x t.y px py) /\ HS w0 w' [] := by
 refine Ret.start fun w hs => ?_
 have hB := World.block_lt_of_cell? w0 _ hn
 refine ja7 Tryz.func51 rfl rfl rfl (Wq (jeH rfl hs rfl ?_))
 intro b4 w hb4 hnb4 hs
 dsimp only [sS, sZ, sA, sN] at hs
 refine jeH rfl hs rfl ?_
 intro b5 w hb5 hnb5 hs
 dsimp only [sS, sZ, sA, sN] at hs
 refine La rfl (Rt (Wsq ?_))
 replace hs : HS w0 w [(b4, Row 51 t.cells), (b5, Row 83 [.float .f64 px, .float .f64 py])] := hs
 have ho : Own w0 [(b4, Row 51 t.cells), (b5, Row 83 [.float .f64 px, .float .f64 py])] := Own.cons hb4 (Own.cons hb5 Own.nil)
 refine jqD Tryz.mixed ?_
 replace hs := hs.drewN 1
 refine jbR [0, 2, 4, 5, 6, 7] [1, 3, 8, 9, 10] [] (jmZ SPD) (g' := 0) (by kernel_rfl) (by kernel_rfl) (fun _ _ _ _ _ h => h) hs ?_
 refine Pfa 2 jcC rfl jbP (Pfa 0 u_83 rfl jaS (Pm rfl (Pn rfl (Pfa 0 jeK rfl jfP (Pfa 0 jbM rfl jaS (jd0 (jaP rfl (fun w R hR hs => jcL jfY jbP rfl (by exact jfM (n := 5) (cs := t.x.cells) (hs.get (i := 0) rfl) rfl)) ?_)))))))
 refine jaP rfl (fun w R hR hs => jaN jb5 rfl (by exact hs.cell (i := 1) rfl rfl)) ?_
 refine jaP rfl (fun w R hR hs => jaN jb5 rfl (by exact HS.oldcell hs hn ((ho.app hR).notin hB))) ?_
 refine jc5 rfl f_78 rfl (fun w R hR hs => rfarH hs t.x px n) ?_
 rintro _ hd
 obtain ⟨d1, rfl, hd1⟩ := hd _ rfl
 refine jaP rfl (fun w R hR hs => jbS rfl) ?_
 refine jcU ?_
 intro w hs
 refine jg5 (jdW (by kernel_rfl) ?_)
 refine Nt (Wsq (jqD Tryz.mixed ?_))
 replace hs := hs.drewN 1
 refine jbR [0, 2, 4, 5, 6, 7] [1, 3, 8, 9, 10] [] (jmZ SPD) (g' := 0) (by kernel_rfl) (by kernel_rfl) (fun _ _ _ _ _ h => h) hs ?_
 refine Pfa 7 jcC rfl jbP (Pfa 1 u_83 rfl jaS (Pm rfl (Pn rfl (Pfa 0 jeK rfl jfP (Pfa 0 jbM rfl jaS (jd0 (jaP rfl (fun w R hR hs => jcL jfY jbP rfl (by exact jfM (n := 5) (cs := t.y.cells) (hs.get (i := 0) rfl) rfl)) ?_)))))))
 refine jaP rfl (fun w R hR hs => jaN jb5 rfl (by exact hs.cell (i := 1) rfl rfl)) ?_
 refine jaP rfl (fun w R hR hs => jaN jb5 rfl (by exact HS.oldcell hs hn ((ho.app hR).notin hB))) ?_
 refine jc5 rfl f_78 rfl (fun w R hR hs => rfarH hs t.y py n) ?_
 rintro _ hd
 obtain ⟨d2, rfl, hd2⟩ := hd _ rfl
 refine jaP rfl (fun w R hR hs => jbS rfl) ?_
 refine jcU ?_
 intro w hs
 refine jg5 (jdW (by kernel_rfl) ?_)
 refine Nt (Wq (Lmm rfl rfl (jaC rfl (op := .add) rfl rfl rfl ?_)))
 intro r32 k32 hr32
 replace hs := hs.drewN k32
 refine La rfl (Rqq (Lmm rfl rfl (Ln rfl (Lf 0 jeK rfl jfP (Lf 2 jbM rfl jaS (Ll jb5 rfl (by exact hs.oldcell hgc ((ho.app Own.nil).notin hB)) ?_))))))
 have e32 : cn r32 = cn (jrD n t.x t.y px py) := (Fs.cn hr32).trans ((ja5 hd1 hd2).trans (jaL ..).symm)
 have hlr : leB r32 g = leB (jrD n t.x t.y px py) g := by unfold leB; rw [jd5 e32 rfl]
 cases hle : leB (jrD n t.x t.y px py) g
 ·
  rw [hle] at hlr
  have e : jdV n g t.x t.y px py = -1 := by unfold jdV costD; rw [hle, if_neg (by decide)]
  rw [e]
  refine Cf rfl (fun _ => by rw [binOp_float_cmp_leq]; rfl) ?_
  refine Rt (jcG 39 (v' := .bool false) rfl ((congrArg Value.bool hlr)) (Wf rfl (Ws (Wq (La rfl (Rt (jaW (ja9 rfl rfl ?_))))))))
  exact ⟨_, rfl, rfl, hs.forget (ho.app Own.nil)⟩
 rw [hle] at hlr
 obtain ⟨h1, h3, m, h4, h5⟩ := jpC hg jrC hle
 have e : jdV n g t.x t.y px py = (m : Int) := by unfold jdV costD; rw [hle, if_pos rfl, h5]; rfl
 rw [e]
 refine Cf rfl (fun _ => by rw [binOp_float_cmp_leq]; rfl) ?_
 refine Rt (jcG 39 (v' := .bool true) rfl ((congrArg Value.bool hlr)) (Wt rfl (Wq (Lm rfl (jaC rfl (op := .mul) rfl rfl rfl ?_)))))
 intro r41 k41 hr41
 replace hs := hs.drewN k41
 have eQ : cn r41 = cn (fop .mul (jrD n t.x t.y px py) 4697254411347427328) := (Fs.cn hr41).trans ((ja5 e32 rfl).trans (jaL ..).symm)
 obtain rfl : r41 = fop .mul (jrD n t.x t.y px py) 4697254411347427328 := cn_same eQ h3
 refine Lc f_65 rfl (jn3 _ _ h3 rfl _) ?_
 rintro _ _ ⟨rfl, rfl⟩
 refine jaT rfl (R_ftoi u_22 u_2 rfl h5) (La rfl (Rt (jaW (ja2 (ja9 rfl rfl ?_)))))
 exact ⟨_, rfl, rfl, hs.forget (ho.app Own.nil)⟩
end Go.Proofs.YtffobakdngbadaaGreat
namespace Go.Proofs.YtffobakdngbadaaGreat
open Go.Shelf
def Ids.keys_ren : Go.Shelf.Ren := ⟨fun | 7 => 59 | 10 => 85 | n => n, fun | 23 => 63 | 26 => 3 | 3 => 77 | 28 => 109 | 0 => 0 | 27 => 108 | 33 => 137 | 4 => 4 | n => n, fun | n => n⟩
theorem Ids.keys : Go.Proofs.SlLaysZI.n7 Tryz.prog Ids.keys_ren := {
 mixed := by kernel_rfl
 f7 := ⟨Tryz.f59.name, by decide, Tryz.func59.trans (congrArg some (by kernel_rfl))⟩
 f10 := ⟨Tryz.f85.name, by decide, Tryz.func85.trans (congrArg some (by kernel_rfl))⟩
 t0 := u_0
 a0 := Tryz.isAgg0
 z0 := Tryz.sizeOf0
 v0 := Tryz.zeroValue0
 t4 := u_4
 a4 := Tryz.isAgg4
 z4 := Tryz.sizeOf4
 v4 := Tryz.zeroValue4
 t23 := jpY
 a23 := Tryz.isAgg63
 z23 := Tryz.sizeOf63
 v23 := Tryz.zeroValue63
 t26 := u_3
 a26 := Tryz.isAgg3
 z26 := Tryz.sizeOf3
 v26 := Tryz.zeroValue3
 t27 := u_108
 a27 := Tryz.isAgg108
 z27 := Tryz.sizeOf108
 v27 := Tryz.zeroValue108
 t28 := u_109
 a28 := Tryz.isAgg109
 z28 := Tryz.sizeOf109
 v28 := Tryz.zeroValue109
 t33 := u_137
 a33 := Tryz.isAgg137
 z33 := Tryz.sizeOf137
 v33 := Tryz.zeroValue137 }
def Ids.sorted_ren : Go.Shelf.Ren := ⟨fun | 6 => 58 | 8 => 83 | 9 => 84 | 11 => 100 | 13 => 102 | 12 => 101 | 23 => 118 | 24 => 119 | 14 => 109 | 15 => 110 | 16 => 111 | 17 => 112 | 18 => 113 | 19 => 114 | 20 => 115 | 21 => 116 | 22 => 117 | 25 => 124 | 26 => 125 | 27 => 126 | 28 => 127 | 29 => 128 | 30 => 129 | 31 => 132 | n => n, fun | 26 => 3 | 28 => 109 | 24 => 52 | 0 => 0 | 3 => 3 | 37 => 92 | 48 => 164 | 50 => 99 | 4 => 4 | 40 => 157 | 39 => 156 | 45 => 161 | 5 => 5 | 9 => 9 | 51 => 168 | 55 => 172 | 57 => 174 | 58 => 175 | 33 => 137 | n => n, fun | n => n⟩
theorem Ids.sorted : Go.Proofs.SlLaysZI.n6 Tryz.prog Ids.sorted_ren := {
 mixed := by kernel_rfl
 f6 := ⟨Tryz.f58.name, by decide, Tryz.func58.trans (congrArg some (by kernel_rfl))⟩
 f8 := ⟨Tryz.f83.name, by decide, Tryz.func83.trans (congrArg some (by kernel_rfl))⟩
 f11 := ⟨Tryz.f100.name, by decide, Tryz.func100.trans (congrArg some (by kernel_rfl))⟩
 t0 := u_0
 a0 := Tryz.isAgg0
 z0 := Tryz.sizeOf0
 v0 := Tryz.zeroValue0
 t24 := jbW
 a24 := Tryz.isAgg52
 z24 := Tryz.sizeOf52
 v24 := Tryz.zeroValue52
 t26 := u_3
 a26 := Tryz.isAgg3
 z26 := Tryz.sizeOf3
 v26 := Tryz.zeroValue3
 t28 := u_109
 a28 := Tryz.isAgg109
 z28 := Tryz.sizeOf109
 v28 := Tryz.zeroValue109
 i26 := by kernel_rfl }
def Ids.sort_ren : Go.Shelf.Ren := ⟨fun | 5 => 84 | 8 => 102 | 7 => 101 | 19 => 118 | 20 => 119 | 10 => 109 | 11 => 110 | 12 => 111 | 13 => 112 | 14 => 113 | 15 => 114 | 16 => 115 | 17 => 116 | 18 => 117 | 30 => 124 | 31 => 125 | 32 => 126 | 33 => 127 | 34 => 128 | 35 => 129 | 40 => 132 | n => n, fun | 23 => 52 | 25 => 3 | 3 => 3 | 32 => 92 | 22 => 52 | 0 => 0 | 44 => 164 | 46 => 99 | 4 => 4 | 36 => 157 | 35 => 156 | 41 => 161 | 5 => 5 | 9 => 9 | 53 => 168 | 57 => 172 | 63 => 174 | 64 => 175 | n => n, fun | n => n⟩
theorem Ids.sort : Go.Proofs.SlLaysM.n5 Tryz.prog Ids.sort_ren := {
 mixed := by kernel_rfl
 f5 := ⟨Tryz.f84.name, by decide, Tryz.func84.trans (congrArg some (by kernel_rfl))⟩
 f7 := ⟨Tryz.f101.name, by decide, Tryz.func101.trans (congrArg some (by kernel_rfl))⟩
 f8 := Tryz.func102.trans (congrArg some (by kernel_rfl))
 f10 := ⟨Tryz.f109.name, by decide, Tryz.func109.trans (congrArg some (by kernel_rfl))⟩
 f11 := ⟨Tryz.f110.name, by decide, Tryz.func110.trans (congrArg some (by kernel_rfl))⟩
 f12 := ⟨Tryz.f111.name, by decide, Tryz.func111.trans (congrArg some (by kernel_rfl))⟩
 f13 := ⟨Tryz.f112.name, by decide, Tryz.func112.trans (congrArg some (by kernel_rfl))⟩
 f14 := ⟨Tryz.f113.name, by decide, Tryz.func113.trans (congrArg some (by kernel_rfl))⟩
 f15 := ⟨Tryz.f114.name, by decide, Tryz.func114.trans (congrArg some (by kernel_rfl))⟩
 f16 := ⟨Tryz.f115.name, by decide, Tryz.func115.trans (congrArg some (by kernel_rfl))⟩
 f17 := ⟨Tryz.f116.name, by decide, Tryz.func116.trans (congrArg some (by kernel_rfl))⟩
 f18 := ⟨Tryz.f117.name, by decide, Tryz.func117.trans (congrArg some (by kernel_rfl))⟩
 f19 := Tryz.func118.trans (congrArg some (by kernel_rfl))
 f20 := Tryz.func119.trans (congrArg some (by kernel_rfl))
 f30 := ⟨Tryz.f124.name, by decide, Tryz.func124.trans (congrArg some (by kernel_rfl))⟩
 f31 := Tryz.func125.trans (congrArg some (by kernel_rfl))
 f32 := Tryz.func126.trans (congrArg some (by kernel_rfl))
 f33 := ⟨Tryz.f127.name, by decide, Tryz.func127.trans (congrArg some (by kernel_rfl))⟩
 f34 := ⟨Tryz.f128.name, by decide, Tryz.func128.trans (congrArg some (by kernel_rfl))⟩
 f35 := ⟨Tryz.f129.name, by decide, Tryz.func129.trans (congrArg some (by kernel_rfl))⟩
 f40 := ⟨Tryz.f132.name, by decide, Tryz.func132.trans (congrArg some (by kernel_rfl))⟩
 t0 := u_0
 a0 := Tryz.isAgg0
 z0 := Tryz.sizeOf0
 v0 := Tryz.zeroValue0
 t3 := u_3
 a3 := Tryz.isAgg3
 z3 := Tryz.sizeOf3
 v3 := Tryz.zeroValue3
 t4 := u_4
 a4 := Tryz.isAgg4
 z4 := Tryz.sizeOf4
 v4 := Tryz.zeroValue4
 t5 := u_5
 a5 := Tryz.isAgg5
 z5 := Tryz.sizeOf5
 v5 := Tryz.zeroValue5
 t9 := u_9
 a9 := Tryz.isAgg9
 z9 := Tryz.sizeOf9
 v9 := Tryz.zeroValue9
 t22 := jbW
 a22 := Tryz.isAgg52
 z22 := Tryz.sizeOf52
 v22 := Tryz.zeroValue52
 t23 := jbW
 a23 := Tryz.isAgg52
 z23 := Tryz.sizeOf52
 v23 := Tryz.zeroValue52
 t25 := u_3
 a25 := Tryz.isAgg3
 z25 := Tryz.sizeOf3
 v25 := Tryz.zeroValue3
 t32 := u_92
 a32 := Tryz.isAgg92
 z32 := Tryz.sizeOf92
 v32 := Tryz.zeroValue92
 t35 := u_156
 a35 := Tryz.isAgg156
 z35 := Tryz.sizeOf156
 v35 := Tryz.zeroValue156
 t36 := u_157
 a36 := Tryz.isAgg157
 z36 := Tryz.sizeOf157
 v36 := Tryz.zeroValue157
 t41 := u_161
 a41 := Tryz.isAgg161
 z41 := Tryz.sizeOf161
 v41 := Tryz.zeroValue161
 t44 := u_164
 a44 := Tryz.isAgg164
 z44 := Tryz.sizeOf164
 v44 := Tryz.zeroValue164
 t46 := u_99
 a46 := Tryz.isAgg99
 z46 := Tryz.sizeOf99
 v46 := Tryz.zeroValue99
 t53 := u_168
 a53 := Tryz.isAgg168
 z53 := Tryz.sizeOf168
 v53 := Tryz.zeroValue168
 t57 := u_172
 a57 := Tryz.isAgg172
 z57 := Tryz.sizeOf172
 v57 := Tryz.zeroValue172
 t63 := u_174
 a63 := Tryz.isAgg174
 z63 := Tryz.sizeOf174
 v63 := Tryz.zeroValue174
 t64 := u_175
 a64 := Tryz.isAgg175
 z64 := Tryz.sizeOf175
 v64 := Tryz.zeroValue175 }
end Go.Proofs.YtffobakdngbadaaGreat
namespace Go.Proofs.YtffobakdngbadaaGreat
open Go Go.Lk Go.Sort
def pv (p : Nat) : Value := .pointer (some ⟨p, 0, none⟩)
theorem sorts_ok (m : Nat) : AnyZI.SortsIn Tryz.prog Ids.sorted_ren Fence.wide m :=
 ⟨fun blk off cap ss W hH hblk hsz => callsIn_wide.2 (AnyM.slices_Sort_int Ids.sort blk off cap ss W hH hblk hsz),
  fun p cap W => callsIn_wide.2 (AnyM.slices_Sort_int_none Ids.sort p cap W)⟩
structure EntOk (ents : List (Int × Nat × Nat)) (ck : Nat) : Prop where
 asc : (ents.map (·.1)).Pairwise (· < ·)
 rng : ∀ x ∈ ents, 0 <= x.1 /\ x.1 < 9223372036854775807
 born : ∀ x ∈ ents, x.2.2 < ck
 nd : (ents.map (·.2.2)).Nodup
 len : ents.length <= 1000
def RZ (H : Type) : Value -> Option (DataW H × List MemPlace) := fun _ => some (.lit (.bool false), [])
theorem jp1 {H : Type} (x : Lit × DataW H) : ∀ l : List (Lit × DataW H), (DataW.insert x l).Perm (x :: l)
 | [] => .refl _
 | y :: r => by
  unfold DataW.insert
  split
  ·
   exact .refl _
  exact ((jp1 x r).cons y).trans (List.Perm.swap ..)
theorem jgD {H : Type} : ∀ l : List (Lit × DataW H), (l.foldr DataW.insert []).Perm l
 | [] => .refl _
 | x :: l => (jp1 x _).trans ((jgD l).cons x)
theorem asc_sort {xs : List Int} (h : xs.Pairwise (· < ·)) : xs.mergeSort (fun x y => decide (x <= y)) = xs :=
 List.mergeSort_of_pairwise (h.imp fun {a b} hab => decide_eq_true (Int.le_of_lt hab))
theorem HS.below {w0 w w' : World} {L M : Bks} (hs : HS w0 w L) (hb : Go.RowKit.Below w.heap.size w w') (hM : ∀ p ∈ M, w'.heap[p.1]? = some p.2) (hnd : (M.map (·.1)).Nodup) (ho : ∀ p ∈ M, w.heap.size <= p.1) : HS w0 w' (L ++ M) :=
 hs.call (L' := M) ⟨hb.size, hM, hnd, fun b hb' _ => hb.block b hb', hb.os, hb.tape, hb.output⟩ (fun p hp => ho p hp)
theorem rd_ent {x : Int × Nat × Nat} (h : 0 <= x.1 /\ x.1 < 9223372036854775807) : Go.WideElems.rd Tryz.prog 3 (RZ Unit) ⟨.int .i64 x.1, pv x.2.1, x.2.2⟩ = some (.int .i64 x.1, .lit (.bool false)) := by
 have hw : (Lit.int .i64 x.1).wf = true := by
  have b1 : IntKind.i64.min = -9223372036854775808 := by decide
  have b2 : IntKind.i64.max = 9223372036854775807 := by decide
  simp only [Lit.wf, b1, b2, Bool.and_eq_true, decide_eq_true_eq]
  omega
 simp [Go.WideElems.rd, keyOf, mapKey, u_3, hw, RZ]
theorem ids_perm {ents : List (Int × Nat × Nat)} {ck : Nat} (h : EntOk ents ck) {D : DataW Unit} (hD : D = .map (((jcD (Value.int .i64) pv ents).map (Go.WideElems.rg Tryz.prog 3 (RZ Unit))).foldr DataW.insert [])) : (intKeys D).Perm (ents.map (·.1)) /\ Maps.size D = ents.length := by
 have e : (jcD (Value.int .i64) pv ents).map (Go.WideElems.rg Tryz.prog 3 (RZ Unit)) = ents.map fun x => (Lit.int .i64 x.1, (DataW.lit (.bool false) : DataW Unit)) := by
  unfold jcD
  rw [List.map_map]
  refine List.map_congr_left fun x hx => ?_
  have h1 := rd_ent (h.rng x hx)
  simp only [Function.comp, Go.WideElems.rg]
  rw [h1, Option.getD_some]
 have hp := jgD (ents.map fun x => (Lit.int .i64 x.1, (DataW.lit (.bool false) : DataW Unit)))
 rw [e] at hD
 subst hD
 constructor
 ·
  show (List.map (fun p : Lit × DataW Unit => Go.intOf p.1) _).Perm _
  refine (hp.map _).trans ?_
  rw [List.map_map]
  exact .refl _
 show List.length _ = _
 rw [hp.length_eq, List.length_map]
theorem row_of_owns {w w' : World} {v : Value} {n : Nat} {xs : List Int} (h : w'.ownsRow w.heap.size 3 1 v n (il xs)) (hn : xs.length = n) : ∃ M, Bl w 3 1 v n (il xs) M /\ (∀ p ∈ M, w'.heap[p.1]? = some p.2) /\ (M.map (·.1)).Nodup := by
 rcases h.2 with ⟨rfl, h0⟩ | ⟨g, cap, cur, rfl, hg, hw, hc, _, hs, ht⟩
 ·
  subst h0
  obtain rfl : xs = [] := List.eq_nil_of_length_eq_zero hn
  exact ⟨[], .nil, fun _ h => absurd h List.not_mem_nil, by simp⟩
 refine ⟨[(g, Row 3 (il xs ++ cur.toList.drop n))], ?_, ?_, by simp⟩
 ·
  have e : il xs ++ cur.toList.drop n = cur.toList := by
   rw [<- ht, Nat.mul_one, List.take_append_drop]
  refine .row hg (by rw [il_length, hn, Nat.mul_one]) ?_ hc
  rw [e, Array.length_toList, hs]
 intro p hp
 obtain rfl := List.mem_singleton.1 hp
 show w'.heap[g]? = some (.cells (il xs ++ cur.toList.drop n).toArray 3 (0, 0))
 rw [hw, <- ht, Nat.mul_one, List.take_append_drop]
theorem keys_ok (mb ck : Nat) (ents : List (Int × Nat × Nat)) (w0 w : World) (L : Bks) (hs : HS w0 w L) (hm : (mb, jeY (Value.int .i64) pv ents ck) ∈ L) (h : EntOk ents ck) (hL : Own w0 L) :
  Ret Tryz.prog 59 [.map (some mb)] w fun f w1 => ∃ bm, f = .func (.func 85) #[] #[.pointer (some ⟨bm, 0, none⟩)] /\ w0.heap.size <= bm /\ HS w0 w1 (L ++ [(bm, Row 63 [.map (some mb)])]) /\
   Ret Tryz.prog 58 [f] w1 fun v w' => ∃ M, HS w0 w' (L ++ M) /\ Bl w0 3 1 v ents.length (il (ents.map (·.1))) M := by
 refine Calls.mono (callsIn_wide.1 (AnyZI.keys_in Ids.keys Fence.wide 5 trivial rfl (some mb) w)) fun e w1 => ?_
 rintro ⟨rfl, rfl⟩
 have hmw := hs.has _ hm
 have hlt : mb < w.heap.size := hs.lt' hm
 have hs1 : HS w0 (w.alloc (.cells #[.map (some mb)] 63)) (L ++ [(w.heap.size, Row 63 [.map (some mb)])]) := by
  refine HS.below hs (by exact (Go.RowKit.Below.refl _ w).alloc (Nat.le_refl _) _) (fun p hp => ?_) (by simp) (fun p hp => ?_)
  ·
   obtain rfl := List.mem_singleton.1 hp
   show (w.heap.push _)[w.heap.size]? = _
   rw [Array.getElem?_push_size]
  obtain rfl := List.mem_singleton.1 hp
  exact Nat.le_refl _
 refine ⟨_, rfl, w.heap.size, rfl, hs.size, hs1, ?_⟩
 obtain ⟨D, hD⟩ : ∃ D : DataW Unit, D = .map (((jcD (Value.int .i64) pv ents).map (Go.WideElems.rg Tryz.prog 3 (RZ Unit))).foldr DataW.insert []) := ⟨_, rfl⟩
 obtain ⟨hp1, hp2⟩ := ids_perm h hD
 have hown : (w.alloc (.cells #[.map (some mb)] 63)).ownsMap Tryz.prog 3 (RZ Unit) mb ents.length D := by
  refine ⟨(jcD (Value.int .i64) pv ents).toArray, ck, hs1.has _ (List.mem_append_left _ hm), ⟨?_, ⟨?_, ?_, ?_⟩, ?_⟩, ?_, ?_⟩
  ·
   show (jcD (Value.int .i64) pv ents).length <= maxLen
   rw [ments_len]
   have := h.len
   have : 1000 <= maxLen := by decide
   omega
  ·
   intro x hx
   obtain ⟨y, hy, rfl⟩ := List.mem_map.1 hx
   exact h.born y hy
  ·
   show ((jcD (Value.int .i64) pv ents).map (·.born)).Nodup
   unfold jcD
   rw [List.map_map]
   exact h.nd
  ·
   show ((jcD (Value.int .i64) pv ents).map (·.key)).Nodup
   unfold jcD
   rw [List.map_map]
   have h1 : (ents.map (·.1)).Nodup := h.asc.imp (fun hab => Int.ne_of_lt hab)
   have h2 : ents.map ((·.key) ∘ fun x => (⟨.int .i64 x.1, pv x.2.1, x.2.2⟩ : MapEntry)) = (ents.map (·.1)).map (Value.int .i64) := by rw [List.map_map]; rfl
   rw [h2]
   exact List.pairwise_map.2 (h1.imp fun hab he => hab (by injection he))
  ·
   intro x hx
   obtain ⟨y, hy, rfl⟩ := List.mem_map.1 hx
   exact ⟨_, rd_ent (h.rng y hy)⟩
  ·
   show (jcD (Value.int .i64) pv ents).length <= _
   rw [ments_len]; exact Nat.le_refl _
  exact hD
 have hmax : Maps.size D <= maxLen := by
  rw [hp2]
  have := h.len
  have : 1000 <= maxLen := by decide
  omega
 have hseq : SeqGives Fence.wide 2 Tryz.prog 85 #[.pointer (some ⟨w.heap.size, 0, none⟩)] encZ (fun ss => ss.Perm (intKeys D)) (Maps.size D) (w.alloc (.cells #[.map (some mb)] 63)) :=
  AnyZI.keys_gives (ρ := Ids.keys_ren) { Ids.keys with } Fence.wide _ trivial rfl (by omega) w.heap.size mb ents.length D _ (by simp) (by simp) hown
 have cS := AnyZI.sorted_in Ids.sorted Fence.wide 5 trivial trivial trivial trivial rfl (by omega) (sorts_ok _) (enters_of Tryz.func84 (by kernel_rfl) rfl) 85 #[.pointer (some ⟨w.heap.size, 0, none⟩)] trivial (enters_of Tryz.func85 (by kernel_rfl) rfl) _ _ hmax (by rw [hp2]; have := h.len; omega) _ hseq
 change CallsIn _ _ Tryz.prog 58 _ _ _ at cS
 refine Calls.mono (callsIn_wide.1 cS) fun e w' => ?_
 rintro ⟨v, ss, rfl, hS, hrow, _, hb⟩
 have hid : ss.mergeSort (fun x y => decide (x <= y)) = ents.map (·.1) := by
  rw [mergeSort_of_perm_i (hS.trans hp1)]
  exact asc_sort h.asc
 have hlen : ss.length = ents.length := by rw [(hS.trans hp1).length_eq, List.length_map]
 rw [hid, hlen] at hrow
 obtain ⟨M, h1, h2, h3⟩ := row_of_owns (xs := ents.map (·.1)) hrow (List.length_map ..)
 refine ⟨_, rfl, M, ?_, h1.mono hs1.size⟩
 have h4 := HS.below hs1 hb h2 h3 h1.own
 have h5 : HS w0 w' (L ++ M) := HS.pop (HS.re (L' := (w.heap.size, Row 63 [.map (some mb)]) :: (L ++ M)) h4 (fun c => by simp only [mpA, mpC, mpN, smA, smC, smN]; omega)) hs.size
 exact h5
theorem ids_ok (B mb ck : Nat) (ents : List (Int × Nat × Nat)) (w0 w : World) (L : Bks) (cs : List Value) (hs : HS w0 w L) (hB : (B, Row 66 cs) ∈ L) (hc : cs[6]? = some (.map (some mb))) (hm : (mb, jeY (Value.int .i64) pv ents ck) ∈ L) (h : EntOk ents ck) (hL : Own w0 L) :
  Ret Tryz.prog 29 [.pointer (some ⟨B, 0, none⟩)] w fun v w' => ∃ M, HS w0 w' (L ++ M) /\ Bl w0 3 1 v ents.length (il (ents.map (·.1))) M := by
 refine ja7 Tryz.func29 rfl rfl rfl (Wq (La rfl (Rq (Lm rfl (Ln rfl (Lf 6 jfS rfl i_63 (Ll o_63 rfl (by exact jb6 hs hB hc) ?_)))))))
 refine Lc f_59 rfl (keys_ok mb ck ents w0 w L hs hm h hL) ?_
 rintro _ w1 ⟨bm, rfl, hbm, hs1, hR⟩
 refine Lc f_58 rfl (hR) ?_
 rintro v w2 ⟨M, hs2, hb⟩
 refine La rfl (Rt (jaW (ja9 rfl rfl ?_)))
 exact ⟨_, rfl, M, hs2, hb⟩
end Go.Proofs.YtffobakdngbadaaGreat