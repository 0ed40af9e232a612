/-
 A part of the proof: what functions that the statement reaches do, or a plain law on what they do. Each theorem holds under its own premises alone.
-/
import Derived.Test.YtoiobncojfeoiaaTUB
namespace Go.Proofs.Ytoiobncojfeoiaa
open Go Go.Lk
/-! ### When -/
def swW (a b : Pt) : Bool := ltB b.2 a.2 || (eqB b.2 a.2 && ltB b.1 a.1)
def lowW (a b : Pt) : Pt := if swW a b then b else a
def highW (a b : Pt) : Pt := if swW a b then a else b
def wDX (lo hi : Pt) : Nat := fop .sub hi.1 lo.1
def wDY (lo hi : Pt) : Nat := fop .sub hi.2 lo.2
def wAX (p lo : Pt) : Nat := fop .sub lo.1 p.1
def wAY (p lo : Pt) : Nat := fop .sub lo.2 p.2
def wN (v lo hi : Pt) : Nat := fop .sub (fop .mul v.1 (wDY lo hi)) (fop .mul v.2 (wDX lo hi))
def wT (p v lo hi : Pt) : Nat := fop .quo (fop .sub (fop .mul (wAX p lo) (wDY lo hi)) (fop .mul (wAY p lo) (wDX lo hi))) (wN v lo hi)
def wU (p v lo hi : Pt) : Nat := fop .quo (fop .sub (fop .mul (wAX p lo) v.2) (fop .mul (wAY p lo) v.1)) (wN v lo hi)
def hitB (p v : Pt) (most : Nat) (lo hi : Pt) : Bool := leB 0 (wT p v lo hi) && leB (wT p v lo hi) most && leB 0 (wU p v lo hi) && leB (wU p v lo hi) 4607182418800017408
def betB (p v : Pt) (most : Nat) (lo hi : Pt) (s : Nat × Bool) : Bool := hitB p v most lo hi && (!s.2 || ltB (wT p v lo hi) s.1)
def whenStep (p v : Pt) (most : Nat) (lo hi : Pt) (s : Nat × Bool) : Nat × Bool := if eqB (wN v lo hi) 0 then s else if betB p v most lo hi s then (wT p v lo hi, true) else s
def whenS (ps : List Pt) (p v : Pt) (most : Nat) : Nat → Nat × Bool
 | 0 => (0, false)
 | j + 1 => whenStep p v most (lowW (ps.getD j (0, 0)) (nextP ps j)) (highW (ps.getD j (0, 0)) (nextP ps j)) (whenS ps p v most j)
def whenF (ps : List Pt) (p v : Pt) (most : Nat) : Nat × Bool := if ps.length < 3 ∨ 64 < ps.length ∨ geB most 0 = false then (0, false) else if insF ps p.1 p.2 then (0, true) else (fop .add (whenS ps p v most ps.length).1 0, (whenS ps p v most ps.length).2)
theorem whenS_num (ps : List Pt) (p v : Pt) (most : Nat) : ∀ j, isnan (whenS ps p v most j).1 = false
 | 0 => by show isnan 0 = false; decide
 | j + 1 => by
  have ih := whenS_num ps p v most j
  show isnan (whenStep p v most _ _ (whenS ps p v most j)).1 = false
  unfold whenStep
  split
  ·
   exact ih
  ·
   split
   ·
    next hb =>
    unfold betB hitB at hb
    simp only [Bool.and_eq_true] at hb
    exact leB_num hb.1.1.1.1
   ·
    exact ih
set_option maxHeartbeats 2000000 in
theorem when_ok (a : Option Addr) (k c : Nat) (ps : List Pt) (p v : Pt) (most : Nat) (w0 : World) (hx : SlC w0 a (pcs ps)) (hk : ps.length = k) :
  Ret Try.prog 9 [.slice a k c, .agg #[.float .f64 p.1, .float .f64 p.2], .agg #[.float .f64 v.1, .float .f64 v.2], .float .f64 most] w0 fun r w' => r = .tuple #[.float .f64 (whenF ps p v most).1, .bool (whenF ps p v most).2] ∧ HS w0 w' [] := by
 refine Ret.start fun w hs => ?_
 refine calls_of_W Try.func9 rfl rfl rfl ?_
 refine W_seq ?_
 refine W_region ?_
 refine L_box rfl hs rfl ?_
 intro b5 w hb5 hnb5 hs
 try dsimp only [List.set_cons_succ, List.set_cons_zero, List.cons_append, List.nil_append] at hs
 refine L_box rfl hs rfl ?_
 intro b6 w hb6 hnb6 hs
 try dsimp only [List.set_cons_succ, List.set_cons_zero, List.cons_append, List.nil_append] at hs
 refine L_assign rfl rfl ?_
 refine L_assign rfl rfl ?_
 refine RL_then ?_
 refine W_seq ?_
 refine W_seq ?_
 refine W_region ?_
 replace hs : HS w0 w [(b5, Row 25 [.float .f64 p.1, .float .f64 p.2]), (b6, Row 25 [.float .f64 v.1, .float .f64 v.2])] := hs
 have ho2 : Own w0 [(b5, Row 25 [.float .f64 p.1, .float .f64 p.2]), (b6, Row 25 [.float .f64 v.1, .float .f64 v.2])] := Own.cons hb5 (Own.cons hb6 Own.nil)
 by_cases h3 : k < 3
 ·
  refine L_move rfl rfl ?_
  refine L_len rfl Try.underlying22 rfl ?_
  first | refine L_lss rfl rfl rfl (dtrue (by omega)) ?_ | refine L_lss rfl rfl rfl (dfalse (by omega)) ?_ | refine L_lss rfl rfl rfl rfl ?_
  refine L_move rfl rfl ?_
  first | (refine RL_want rfl rfl ?_; refine L_move rfl rfl ?_) | refine RL_skip rfl rfl rfl rfl ?_ | refine RL_skipU rfl rfl rfl ?_
  first | (refine RL_want rfl rfl ?_; refine L_len rfl Try.underlying22 rfl ?_) | refine RL_skip rfl rfl rfl rfl ?_ | refine RL_skipU rfl rfl rfl ?_
  first | (refine RL_want rfl rfl ?_; (first | refine L_gtr rfl rfl rfl (dtrue (by omega)) ?_ | refine L_gtr rfl rfl rfl (dfalse (by omega)) ?_ | refine L_gtr rfl rfl rfl rfl ?_)) | refine RL_skip rfl rfl rfl rfl ?_ | refine RL_skipU rfl rfl rfl ?_
  first | refine L_pick_t rfl rfl rfl ?_ | refine L_pick_f rfl rfl rfl ?_
  refine L_move rfl rfl ?_
  first | (refine RL_want rfl rfl ?_; refine L_move rfl rfl ?_) | refine RL_skip rfl rfl rfl rfl ?_ | refine RL_skipU rfl rfl rfl ?_
  first | (refine RL_want rfl rfl ?_; refine L_fcmp rfl rfl rfl (fun _ => by rw [binOp_float_cmp_geq]; rfl) ?_) | refine RL_skip rfl rfl rfl rfl ?_ | refine RL_skipU rfl rfl rfl ?_
  first | (refine RL_want rfl rfl ?_; refine L_not rfl rfl ?_) | refine RL_skip rfl rfl rfl rfl ?_ | refine RL_skipU rfl rfl rfl ?_
  first | refine L_pick_t rfl rfl rfl ?_ | refine L_pick_f rfl rfl rfl ?_
  refine RL_then ?_
  refine W_if_true rfl ?_
  refine W_seq ?_
  refine W_region ?_
  refine L_assign rfl rfl ?_
  refine L_assign rfl rfl ?_
  refine RL_then ?_
  refine W_ret' ?_
  refine Ex_then_ret ?_
  refine Ex_done2 rfl rfl rfl ?_
  exact ⟨_, rfl, by unfold whenF; rw [if_pos (by omega)], hs.forget ho2⟩
 ·
  by_cases h4 : 64 < k
  ·
   refine L_move rfl rfl ?_
   refine L_len rfl Try.underlying22 rfl ?_
   first | refine L_lss rfl rfl rfl (dtrue (by omega)) ?_ | refine L_lss rfl rfl rfl (dfalse (by omega)) ?_ | refine L_lss rfl rfl rfl rfl ?_
   refine L_move rfl rfl ?_
   first | (refine RL_want rfl rfl ?_; refine L_move rfl rfl ?_) | refine RL_skip rfl rfl rfl rfl ?_ | refine RL_skipU rfl rfl rfl ?_
   first | (refine RL_want rfl rfl ?_; refine L_len rfl Try.underlying22 rfl ?_) | refine RL_skip rfl rfl rfl rfl ?_ | refine RL_skipU rfl rfl rfl ?_
   first | (refine RL_want rfl rfl ?_; (first | refine L_gtr rfl rfl rfl (dtrue (by omega)) ?_ | refine L_gtr rfl rfl rfl (dfalse (by omega)) ?_ | refine L_gtr rfl rfl rfl rfl ?_)) | refine RL_skip rfl rfl rfl rfl ?_ | refine RL_skipU rfl rfl rfl ?_
   first | refine L_pick_t rfl rfl rfl ?_ | refine L_pick_f rfl rfl rfl ?_
   refine L_move rfl rfl ?_
   first | (refine RL_want rfl rfl ?_; refine L_move rfl rfl ?_) | refine RL_skip rfl rfl rfl rfl ?_ | refine RL_skipU rfl rfl rfl ?_
   first | (refine RL_want rfl rfl ?_; refine L_fcmp rfl rfl rfl (fun _ => by rw [binOp_float_cmp_geq]; rfl) ?_) | refine RL_skip rfl rfl rfl rfl ?_ | refine RL_skipU rfl rfl rfl ?_
   first | (refine RL_want rfl rfl ?_; refine L_not rfl rfl ?_) | refine RL_skip rfl rfl rfl rfl ?_ | refine RL_skipU rfl rfl rfl ?_
   first | refine L_pick_t rfl rfl rfl ?_ | refine L_pick_f rfl rfl rfl ?_
   refine RL_then ?_
   refine W_if_true rfl ?_
   refine W_seq ?_
   refine W_region ?_
   refine L_assign rfl rfl ?_
   refine L_assign rfl rfl ?_
   refine RL_then ?_
   refine W_ret' ?_
   refine Ex_then_ret ?_
   refine Ex_done2 rfl rfl rfl ?_
   exact ⟨_, rfl, by unfold whenF; rw [if_pos (by omega)], hs.forget ho2⟩
  ·
   cases hm : (FloatKind.f64.format.order most 0 == some .gt || FloatKind.f64.format.order most 0 == some .eq)
   ·
    have hm' : geB most 0 = false := hm
    refine L_move rfl rfl ?_
    refine L_len rfl Try.underlying22 rfl ?_
    first | refine L_lss rfl rfl rfl (dtrue (by omega)) ?_ | refine L_lss rfl rfl rfl (dfalse (by omega)) ?_ | refine L_lss rfl rfl rfl rfl ?_
    refine L_move rfl rfl ?_
    first | (refine RL_want rfl rfl ?_; refine L_move rfl rfl ?_) | refine RL_skip rfl rfl rfl rfl ?_ | refine RL_skipU rfl rfl rfl ?_
    first | (refine RL_want rfl rfl ?_; refine L_len rfl Try.underlying22 rfl ?_) | refine RL_skip rfl rfl rfl rfl ?_ | refine RL_skipU rfl rfl rfl ?_
    first | (refine RL_want rfl rfl ?_; (first | refine L_gtr rfl rfl rfl (dtrue (by omega)) ?_ | refine L_gtr rfl rfl rfl (dfalse (by omega)) ?_ | refine L_gtr rfl rfl rfl rfl ?_)) | refine RL_skip rfl rfl rfl rfl ?_ | refine RL_skipU rfl rfl rfl ?_
    first | refine L_pick_t rfl rfl rfl ?_ | refine L_pick_f rfl rfl rfl ?_
    refine L_move rfl rfl ?_
    first | (refine RL_want rfl rfl ?_; refine L_move rfl rfl ?_) | refine RL_skip rfl rfl rfl rfl ?_ | refine RL_skipU rfl rfl rfl ?_
    first | (refine RL_want rfl rfl ?_; refine L_fcmp rfl rfl rfl (fun _ => by rw [binOp_float_cmp_geq, hm]; rfl) ?_) | refine RL_skip rfl rfl rfl rfl ?_ | refine RL_skipU rfl rfl rfl ?_
    first | (refine RL_want rfl rfl ?_; refine L_not rfl rfl ?_) | refine RL_skip rfl rfl rfl rfl ?_ | refine RL_skipU rfl rfl rfl ?_
    first | refine L_pick_t rfl rfl rfl ?_ | refine L_pick_f rfl rfl rfl ?_
    refine RL_then ?_
    refine W_if_true rfl ?_
    refine W_seq ?_
    refine W_region ?_
    refine L_assign rfl rfl ?_
    refine L_assign rfl rfl ?_
    refine RL_then ?_
    refine W_ret' ?_
    refine Ex_then_ret ?_
    refine Ex_done2 rfl rfl rfl ?_
    exact ⟨_, rfl, by unfold whenF; rw [if_pos (.inr (.inr hm'))], hs.forget ho2⟩
   ·
    have hm' : geB most 0 = true := hm
    have hao : a = some (aD a) := hx.ao (by rw [pcs_len]; omega)
    refine L_move rfl rfl ?_
    refine L_len rfl Try.underlying22 rfl ?_
    first | refine L_lss rfl rfl rfl (dtrue (by omega)) ?_ | refine L_lss rfl rfl rfl (dfalse (by omega)) ?_ | refine L_lss rfl rfl rfl rfl ?_
    refine L_move rfl rfl ?_
    first | (refine RL_want rfl rfl ?_; refine L_move rfl rfl ?_) | refine RL_skip rfl rfl rfl rfl ?_ | refine RL_skipU rfl rfl rfl ?_
    first | (refine RL_want rfl rfl ?_; refine L_len rfl Try.underlying22 rfl ?_) | refine RL_skip rfl rfl rfl rfl ?_ | refine RL_skipU rfl rfl rfl ?_
    first | (refine RL_want rfl rfl ?_; (first | refine L_gtr rfl rfl rfl (dtrue (by omega)) ?_ | refine L_gtr rfl rfl rfl (dfalse (by omega)) ?_ | refine L_gtr rfl rfl rfl rfl ?_)) | refine RL_skip rfl rfl rfl rfl ?_ | refine RL_skipU rfl rfl rfl ?_
    first | refine L_pick_t rfl rfl rfl ?_ | refine L_pick_f rfl rfl rfl ?_
    refine L_move rfl rfl ?_
    first | (refine RL_want rfl rfl ?_; refine L_move rfl rfl ?_) | refine RL_skip rfl rfl rfl rfl ?_ | refine RL_skipU rfl rfl rfl ?_
    first | (refine RL_want rfl rfl ?_; refine L_fcmp rfl rfl rfl (fun _ => by rw [binOp_float_cmp_geq, hm]; rfl) ?_) | refine RL_skip rfl rfl rfl rfl ?_ | refine RL_skipU rfl rfl rfl ?_
    first | (refine RL_want rfl rfl ?_; refine L_not rfl rfl ?_) | refine RL_skip rfl rfl rfl rfl ?_ | refine RL_skipU rfl rfl rfl ?_
    first | refine L_pick_t rfl rfl rfl ?_ | refine L_pick_f rfl rfl rfl ?_
    refine RL_then ?_
    refine W_if_false rfl ?_
    refine W_skip' ?_
    refine Nx_then ?_
    refine W_seq ?_
    refine W_seq ?_
    refine W_region ?_
    refine L_move rfl rfl ?_
    refine L_loadA rfl Try.agg25 Try.ti25 rfl (by exact cellsAt2' (hs.get (i := 0) rfl) rfl rfl) ?_
    refine L_call rfl Try.fun18 rfl (within_ok a k c ps p.1 p.2 w (hx.old hs ho2) hk) ?_
    rintro _ w ⟨rfl, hs'⟩
    replace hs := hs.nil hs'
    clear hs'
    refine RL_then ?_
    cases hin : insF ps p.1 p.2
    ·
     refine W_if_false rfl ?_
     refine W_skip' ?_
     refine Nx_then ?_
     refine W_seq ?_
     refine W_region ?_
     refine L_assign rfl rfl ?_
     refine L_assign rfl rfl ?_
     refine RL_then ?_
     refine W_seq ?_
     refine W_seq ?_
     refine W_region ?_
     refine L_move rfl rfl ?_
     refine L_len rfl Try.underlying22 rfl ?_
     refine L_move rfl rfl ?_
     refine RL_then ?_
     refine W_block ?_
     refine W_loop2 (fun (i : Nat) (w : World) => [(0, .slice a k c), (3, .float .f64 most), (5, .pointer (some ⟨b5, 0, none⟩)), (6, .pointer (some ⟨b6, 0, none⟩)), (10, .float .f64 (whenS ps p v most i).1), (11, .bool (whenS ps p v most i).2), (38, .slice a k c), (39, .int .i64 k), (40, .int .i64 i)]) (fun (i : Nat) (w : World) => w) (fun (i : Nat) (w : World) => (i ≤ k) ∧ (HS w0 w [(b5, Row 25 [.float .f64 p.1, .float .f64 p.2]), (b6, Row 25 [.float .f64 v.1, .float .f64 v.2])])) (fun (i : Nat) (w : World) => k - i) (0) (w) (is := [0, 3, 5, 6, 10, 11, 38, 39, 40]) rfl rfl ?_ ?_
     ·
      exact ⟨Nat.zero_le _, hs⟩
     ·
      clear hs
      intro i w hI
      show W _ _ _ _ [(0, .slice a k c), (3, .float .f64 most), (5, .pointer (some ⟨b5, 0, none⟩)), (6, .pointer (some ⟨b6, 0, none⟩)), (10, .float .f64 (whenS ps p v most i).1), (11, .bool (whenS ps p v most i).2), (38, .slice a k c), (39, .int .i64 k), (40, .int .i64 i)] w
      obtain ⟨hi, hs⟩ := hI
      by_cases hlt : i < k
      ·
       have hmod : (i + 1) % k < k := Nat.mod_lt _ (by omega)
       obtain ⟨e, he⟩ : ∃ e, e = ps.getD i (0, 0) := ⟨_, rfl⟩
       obtain ⟨u, hu⟩ : ∃ u, u = ps.getD ((i + 1) % k) (0, 0) := ⟨_, rfl⟩
       have estep : whenS ps p v most (i + 1) = whenStep p v most (lowW e u) (highW e u) (whenS ps p v most i) := by
        rw [he, hu, ← hk]; rfl
       obtain ⟨s, hs0⟩ : ∃ s, s = whenS ps p v most i := ⟨_, rfl⟩
       rw [← hs0] at estep ⊢
       have hea : ∀ w', HS w0 w' [(b5, Row 25 [.float .f64 p.1, .float .f64 p.2]), (b6, Row 25 [.float .f64 v.1, .float .f64 v.2])] → CellsAt w' ((aD a).add (i * 2)) [.float .f64 e.1, .float .f64 e.2] := fun w' h => by rw [he]; exact pt_at (hx.old h ho2) (by omega)
       have hua : ∀ w', HS w0 w' [(b5, Row 25 [.float .f64 p.1, .float .f64 p.2]), (b6, Row 25 [.float .f64 v.1, .float .f64 v.2])] → CellsAt w' ((aD a).add ((i + 1) % k * 2)) [.float .f64 u.1, .float .f64 u.2] := fun w' h => by rw [hu]; exact pt_at (hx.old h ho2) (by omega)
       refine W_seq ?_
       refine W_region ?_
       first | refine L_lss rfl rfl rfl (dtrue (by omega)) ?_ | refine L_lss rfl rfl rfl (dfalse (by omega)) ?_ | refine L_lss rfl rfl rfl rfl ?_
       refine RL_then ?_
       refine W_seq ?_
       refine W_if_true rfl ?_
       refine W_skip' ?_
       refine Nx_then ?_
       refine W_seq ?_
       refine W_block ?_
       refine W_seq ?_
       refine W_region ?_
       refine L_move rfl rfl ?_
       refine L_idxN rfl Try.underlying22 Try.ti25 rfl rfl (by with_reducible first | exact natc_k _ | exact natc_a1 _ | exact natc_0 | exact natc_1 | exact natc_2 | exact natc_s1 _ (by omega) | exact natc_a2 _ | exact natc_add _ _ | exact natc_mul _ _ | exact natc (by omega)) (by omega) hao ?_
       refine L_loadA rfl Try.agg25 Try.ti25 rfl (by first | exact hea _ hs | exact hua _ (HS.pop hs hb13)) ?_
       refine L_alloc rfl hs Try.ti25 ?_; intro b13 w hb13 _ hs; replace hs := HS.push hs
       refine L_assign rfl rfl ?_
       refine L_storeA hs (i := 0) rfl Try.ti25 rfl rfl (by first | rfl | exact add_lit0 _ _ | exact Addr.add_lit .. | (rw [add_add]; exact add_lit0 _ _)) (by simp) (by first | (simp; done) | simp [Value.oneCell']) ?_
       intro w hs
       try dsimp only [List.set_cons_succ, List.set_cons_zero, List.cons_append, List.nil_append] at hs
       refine RL_then ?_
       refine W_seq ?_
       refine W_region ?_
       refine L_move rfl rfl ?_
       refine L_move rfl rfl ?_
       first | refine L_add rfl rfl rfl (wrp_i64 (by omega)) ?_ | refine L_add rfl rfl rfl rfl ?_
       refine L_move rfl rfl ?_
       refine L_len rfl Try.underlying22 rfl ?_
       refine L_rem rfl rfl rfl (by omega) ?_
       refine L_idxN rfl Try.underlying22 Try.ti25 rfl rfl modI (by omega) hao ?_
       refine L_loadA rfl Try.agg25 Try.ti25 rfl (by first | exact hea _ hs | exact hua _ (HS.pop hs hb13)) ?_
       refine L_alloc rfl hs Try.ti25 ?_; intro b14 w hb14 _ hs; replace hs := HS.push hs
       refine L_storeA hs (i := 0) rfl Try.ti25 rfl rfl (by first | rfl | exact add_lit0 _ _ | exact Addr.add_lit .. | (rw [add_add]; exact add_lit0 _ _)) (by simp) (by first | (simp; done) | simp [Value.oneCell']) ?_
       intro w hs
       try dsimp only [List.set_cons_succ, List.set_cons_zero, List.cons_append, List.nil_append] at hs
       refine RL_then ?_
       refine W_seq ?_
       refine W_seq ?_
       replace hs : HS w0 w [(b14, Row 25 [.float .f64 u.1, .float .f64 u.2]), (b13, Row 25 [.float .f64 e.1, .float .f64 e.2]), (b5, Row 25 [.float .f64 p.1, .float .f64 p.2]), (b6, Row 25 [.float .f64 v.1, .float .f64 v.2])] := hs
       refine W_cut2 (fun (cnd : Bool) (w : World) => [(0, .slice a k c), (3, .float .f64 most), (5, .pointer (some ⟨b5, 0, none⟩)), (6, .pointer (some ⟨b6, 0, none⟩)), (10, .float .f64 s.1), (11, .bool s.2), (13, .pointer (some ⟨b13, 0, none⟩)), (14, .pointer (some ⟨b14, 0, none⟩)), (38, .slice a k c), (39, .int .i64 k), (40, .int .i64 i), (71, .bool cnd)]) (fun (cnd : Bool) (w : World) => w) (fun (cnd : Bool) (w : World) => (cnd = swW e u) ∧ (HS w0 w [(b14, Row 25 [.float .f64 u.1, .float .f64 u.2]), (b13, Row 25 [.float .f64 e.1, .float .f64 e.2]), (b5, Row 25 [.float .f64 p.1, .float .f64 p.2]), (b6, Row 25 [.float .f64 v.1, .float .f64 v.2])])) ?_ ?_
       ·
        cases h1 : FloatKind.f64.format.order u.2 e.2 == some .lt
        ·
         have h1' : ltB u.2 e.2 = false := h1
         cases h2 : FloatKind.f64.format.order u.2 e.2 == some .eq
         ·
          have h2' : eqB u.2 e.2 = false := h2
          refine W_region ?_
          refine L_fieldAddr rfl (off := 1) Try.underlying25 rfl rfl Try.ti23 rfl ?_
          refine L_load rfl Try.one23 rfl (by first | exact hs.cell (i := 0) rfl rfl | exact hs.cell (i := 1) rfl rfl | exact hs.cell (i := 2) rfl rfl | exact hs.cell (i := 3) rfl rfl) ?_
          refine L_fieldAddr rfl (off := 1) Try.underlying25 rfl rfl Try.ti23 rfl ?_
          refine L_load rfl Try.one23 rfl (by first | exact hs.cell (i := 0) rfl rfl | exact hs.cell (i := 1) rfl rfl | exact hs.cell (i := 2) rfl rfl | exact hs.cell (i := 3) rfl rfl) ?_
          refine L_fcmp rfl rfl rfl (fun _ => by rw [binOp_float_cmp_lss, h1]; rfl) ?_
          refine L_move rfl rfl ?_
          first | (refine RL_want rfl rfl ?_; refine L_fieldAddr rfl (off := 1) Try.underlying25 rfl rfl Try.ti23 rfl ?_) | refine RL_skip rfl rfl rfl rfl ?_ | refine RL_skipU rfl rfl rfl ?_
          first | (refine RL_want rfl rfl ?_; refine L_load rfl Try.one23 rfl (by first | exact hs.cell (i := 0) rfl rfl | exact hs.cell (i := 1) rfl rfl | exact hs.cell (i := 2) rfl rfl | exact hs.cell (i := 3) rfl rfl) ?_) | refine RL_skip rfl rfl rfl rfl ?_ | refine RL_skipU rfl rfl rfl ?_
          first | (refine RL_want rfl rfl ?_; refine L_fieldAddr rfl (off := 1) Try.underlying25 rfl rfl Try.ti23 rfl ?_) | refine RL_skip rfl rfl rfl rfl ?_ | refine RL_skipU rfl rfl rfl ?_
          first | (refine RL_want rfl rfl ?_; refine L_load rfl Try.one23 rfl (by first | exact hs.cell (i := 0) rfl rfl | exact hs.cell (i := 1) rfl rfl | exact hs.cell (i := 2) rfl rfl | exact hs.cell (i := 3) rfl rfl) ?_) | refine RL_skip rfl rfl rfl rfl ?_ | refine RL_skipU rfl rfl rfl ?_
          first | (refine RL_want rfl rfl ?_; refine L_fcmp rfl rfl rfl (fun _ => by rw [binOp_float_cmp_eql, h2]; rfl) ?_) | refine RL_skip rfl rfl rfl rfl ?_ | refine RL_skipU rfl rfl rfl ?_
          first | (refine RL_want rfl rfl ?_; refine L_move rfl rfl ?_) | refine RL_skip rfl rfl rfl rfl ?_ | refine RL_skipU rfl rfl rfl ?_
          first | (refine RL_want rfl rfl ?_; refine L_fieldAddr rfl (off := 0) Try.underlying25 rfl rfl Try.ti23 rfl ?_) | refine RL_skip rfl rfl rfl rfl ?_ | refine RL_skipU rfl rfl rfl ?_
          first | (refine RL_want rfl rfl ?_; refine L_load rfl Try.one23 rfl (by first | exact hs.cell (i := 0) rfl rfl | exact hs.cell (i := 1) rfl rfl | exact hs.cell (i := 2) rfl rfl | exact hs.cell (i := 3) rfl rfl) ?_) | refine RL_skip rfl rfl rfl rfl ?_ | refine RL_skipU rfl rfl rfl ?_
          first | (refine RL_want rfl rfl ?_; refine L_fieldAddr rfl (off := 0) Try.underlying25 rfl rfl Try.ti23 rfl ?_) | refine RL_skip rfl rfl rfl rfl ?_ | refine RL_skipU rfl rfl rfl ?_
          first | (refine RL_want rfl rfl ?_; refine L_load rfl Try.one23 rfl (by first | exact hs.cell (i := 0) rfl rfl | exact hs.cell (i := 1) rfl rfl | exact hs.cell (i := 2) rfl rfl | exact hs.cell (i := 3) rfl rfl) ?_) | refine RL_skip rfl rfl rfl rfl ?_ | refine RL_skipU rfl rfl rfl ?_
          first | (refine RL_want rfl rfl ?_; refine L_fcmp rfl rfl rfl (fun _ => by rw [binOp_float_cmp_lss]; rfl) ?_) | refine RL_skip rfl rfl rfl rfl ?_ | refine RL_skipU rfl rfl rfl ?_
          first | (refine RL_want rfl rfl ?_; (first | refine L_pick_t rfl rfl rfl ?_ | refine L_pick_f rfl rfl rfl ?_)) | refine RL_skip rfl rfl rfl rfl ?_ | refine RL_skipU rfl rfl rfl ?_
          first | refine L_pick_t rfl rfl rfl ?_ | refine L_pick_f rfl rfl rfl ?_
          refine RL_nil' ?_
          refine Nx_cutP (false, _) (is := [0, 3, 5, 6, 10, 11, 13, 14, 38, 39, 40, 71]) (I' := (fun (cnd : Bool) (w : World) => (cnd = swW e u) ∧ (HS w0 w [(b14, Row 25 [.float .f64 u.1, .float .f64 u.2]), (b13, Row 25 [.float .f64 e.1, .float .f64 e.2]), (b5, Row 25 [.float .f64 p.1, .float .f64 p.2]), (b6, Row 25 [.float .f64 v.1, .float .f64 v.2])])) (false) (_)) rfl rfl rfl ?_
          exact ⟨by unfold swW; rw [h1', h2']; rfl, hs⟩
         ·
          have h2' : eqB u.2 e.2 = true := h2
          refine W_region ?_
          refine L_fieldAddr rfl (off := 1) Try.underlying25 rfl rfl Try.ti23 rfl ?_
          refine L_load rfl Try.one23 rfl (by first | exact hs.cell (i := 0) rfl rfl | exact hs.cell (i := 1) rfl rfl | exact hs.cell (i := 2) rfl rfl | exact hs.cell (i := 3) rfl rfl) ?_
          refine L_fieldAddr rfl (off := 1) Try.underlying25 rfl rfl Try.ti23 rfl ?_
          refine L_load rfl Try.one23 rfl (by first | exact hs.cell (i := 0) rfl rfl | exact hs.cell (i := 1) rfl rfl | exact hs.cell (i := 2) rfl rfl | exact hs.cell (i := 3) rfl rfl) ?_
          refine L_fcmp rfl rfl rfl (fun _ => by rw [binOp_float_cmp_lss, h1]; rfl) ?_
          refine L_move rfl rfl ?_
          first | (refine RL_want rfl rfl ?_; refine L_fieldAddr rfl (off := 1) Try.underlying25 rfl rfl Try.ti23 rfl ?_) | refine RL_skip rfl rfl rfl rfl ?_ | refine RL_skipU rfl rfl rfl ?_
          first | (refine RL_want rfl rfl ?_; refine L_load rfl Try.one23 rfl (by first | exact hs.cell (i := 0) rfl rfl | exact hs.cell (i := 1) rfl rfl | exact hs.cell (i := 2) rfl rfl | exact hs.cell (i := 3) rfl rfl) ?_) | refine RL_skip rfl rfl rfl rfl ?_ | refine RL_skipU rfl rfl rfl ?_
          first | (refine RL_want rfl rfl ?_; refine L_fieldAddr rfl (off := 1) Try.underlying25 rfl rfl Try.ti23 rfl ?_) | refine RL_skip rfl rfl rfl rfl ?_ | refine RL_skipU rfl rfl rfl ?_
          first | (refine RL_want rfl rfl ?_; refine L_load rfl Try.one23 rfl (by first | exact hs.cell (i := 0) rfl rfl | exact hs.cell (i := 1) rfl rfl | exact hs.cell (i := 2) rfl rfl | exact hs.cell (i := 3) rfl rfl) ?_) | refine RL_skip rfl rfl rfl rfl ?_ | refine RL_skipU rfl rfl rfl ?_
          first | (refine RL_want rfl rfl ?_; refine L_fcmp rfl rfl rfl (fun _ => by rw [binOp_float_cmp_eql, h2]; rfl) ?_) | refine RL_skip rfl rfl rfl rfl ?_ | refine RL_skipU rfl rfl rfl ?_
          first | (refine RL_want rfl rfl ?_; refine L_move rfl rfl ?_) | refine RL_skip rfl rfl rfl rfl ?_ | refine RL_skipU rfl rfl rfl ?_
          first | (refine RL_want rfl rfl ?_; refine L_fieldAddr rfl (off := 0) Try.underlying25 rfl rfl Try.ti23 rfl ?_) | refine RL_skip rfl rfl rfl rfl ?_ | refine RL_skipU rfl rfl rfl ?_
          first | (refine RL_want rfl rfl ?_; refine L_load rfl Try.one23 rfl (by first | exact hs.cell (i := 0) rfl rfl | exact hs.cell (i := 1) rfl rfl | exact hs.cell (i := 2) rfl rfl | exact hs.cell (i := 3) rfl rfl) ?_) | refine RL_skip rfl rfl rfl rfl ?_ | refine RL_skipU rfl rfl rfl ?_
          first | (refine RL_want rfl rfl ?_; refine L_fieldAddr rfl (off := 0) Try.underlying25 rfl rfl Try.ti23 rfl ?_) | refine RL_skip rfl rfl rfl rfl ?_ | refine RL_skipU rfl rfl rfl ?_
          first | (refine RL_want rfl rfl ?_; refine L_load rfl Try.one23 rfl (by first | exact hs.cell (i := 0) rfl rfl | exact hs.cell (i := 1) rfl rfl | exact hs.cell (i := 2) rfl rfl | exact hs.cell (i := 3) rfl rfl) ?_) | refine RL_skip rfl rfl rfl rfl ?_ | refine RL_skipU rfl rfl rfl ?_
          first | (refine RL_want rfl rfl ?_; refine L_fcmp rfl rfl rfl (fun _ => by rw [binOp_float_cmp_lss]; rfl) ?_) | refine RL_skip rfl rfl rfl rfl ?_ | refine RL_skipU rfl rfl rfl ?_
          first | (refine RL_want rfl rfl ?_; (first | refine L_pick_t rfl rfl rfl ?_ | refine L_pick_f rfl rfl rfl ?_)) | refine RL_skip rfl rfl rfl rfl ?_ | refine RL_skipU rfl rfl rfl ?_
          first | refine L_pick_t rfl rfl rfl ?_ | refine L_pick_f rfl rfl rfl ?_
          refine RL_nil' ?_
          refine Nx_cutP (ltB u.1 e.1, _) (is := [0, 3, 5, 6, 10, 11, 13, 14, 38, 39, 40, 71]) (I' := (fun (cnd : Bool) (w : World) => (cnd = swW e u) ∧ (HS w0 w [(b14, Row 25 [.float .f64 u.1, .float .f64 u.2]), (b13, Row 25 [.float .f64 e.1, .float .f64 e.2]), (b5, Row 25 [.float .f64 p.1, .float .f64 p.2]), (b6, Row 25 [.float .f64 v.1, .float .f64 v.2])])) (ltB u.1 e.1) (_)) rfl rfl rfl ?_
          exact ⟨by unfold swW; rw [h1', h2']; rfl, hs⟩
        ·
         have h1' : ltB u.2 e.2 = true := h1
         refine W_region ?_
         refine L_fieldAddr rfl (off := 1) Try.underlying25 rfl rfl Try.ti23 rfl ?_
         refine L_load rfl Try.one23 rfl (by first | exact hs.cell (i := 0) rfl rfl | exact hs.cell (i := 1) rfl rfl | exact hs.cell (i := 2) rfl rfl | exact hs.cell (i := 3) rfl rfl) ?_
         refine L_fieldAddr rfl (off := 1) Try.underlying25 rfl rfl Try.ti23 rfl ?_
         refine L_load rfl Try.one23 rfl (by first | exact hs.cell (i := 0) rfl rfl | exact hs.cell (i := 1) rfl rfl | exact hs.cell (i := 2) rfl rfl | exact hs.cell (i := 3) rfl rfl) ?_
         refine L_fcmp rfl rfl rfl (fun _ => by rw [binOp_float_cmp_lss, h1]; rfl) ?_
         refine L_move rfl rfl ?_
         first | (refine RL_want rfl rfl ?_; refine L_fieldAddr rfl (off := 1) Try.underlying25 rfl rfl Try.ti23 rfl ?_) | refine RL_skip rfl rfl rfl rfl ?_ | refine RL_skipU rfl rfl rfl ?_
         first | (refine RL_want rfl rfl ?_; refine L_load rfl Try.one23 rfl (by first | exact hs.cell (i := 0) rfl rfl | exact hs.cell (i := 1) rfl rfl | exact hs.cell (i := 2) rfl rfl | exact hs.cell (i := 3) rfl rfl) ?_) | refine RL_skip rfl rfl rfl rfl ?_ | refine RL_skipU rfl rfl rfl ?_
         first | (refine RL_want rfl rfl ?_; refine L_fieldAddr rfl (off := 1) Try.underlying25 rfl rfl Try.ti23 rfl ?_) | refine RL_skip rfl rfl rfl rfl ?_ | refine RL_skipU rfl rfl rfl ?_
         first | (refine RL_want rfl rfl ?_; refine L_load rfl Try.one23 rfl (by first | exact hs.cell (i := 0) rfl rfl | exact hs.cell (i := 1) rfl rfl | exact hs.cell (i := 2) rfl rfl | exact hs.cell (i := 3) rfl rfl) ?_) | refine RL_skip rfl rfl rfl rfl ?_ | refine RL_skipU rfl rfl rfl ?_
         first | (refine RL_want rfl rfl ?_; refine L_fcmp rfl rfl rfl (fun _ => by rw [binOp_float_cmp_eql, h2]; rfl) ?_) | refine RL_skip rfl rfl rfl rfl ?_ | refine RL_skipU rfl rfl rfl ?_
         first | (refine RL_want rfl rfl ?_; refine L_move rfl rfl ?_) | refine RL_skip rfl rfl rfl rfl ?_ | refine RL_skipU rfl rfl rfl ?_
         first | (refine RL_want rfl rfl ?_; refine L_fieldAddr rfl (off := 0) Try.underlying25 rfl rfl Try.ti23 rfl ?_) | refine RL_skip rfl rfl rfl rfl ?_ | refine RL_skipU rfl rfl rfl ?_
         first | (refine RL_want rfl rfl ?_; refine L_load rfl Try.one23 rfl (by first | exact hs.cell (i := 0) rfl rfl | exact hs.cell (i := 1) rfl rfl | exact hs.cell (i := 2) rfl rfl | exact hs.cell (i := 3) rfl rfl) ?_) | refine RL_skip rfl rfl rfl rfl ?_ | refine RL_skipU rfl rfl rfl ?_
         first | (refine RL_want rfl rfl ?_; refine L_fieldAddr rfl (off := 0) Try.underlying25 rfl rfl Try.ti23 rfl ?_) | refine RL_skip rfl rfl rfl rfl ?_ | refine RL_skipU rfl rfl rfl ?_
         first | (refine RL_want rfl rfl ?_; refine L_load rfl Try.one23 rfl (by first | exact hs.cell (i := 0) rfl rfl | exact hs.cell (i := 1) rfl rfl | exact hs.cell (i := 2) rfl rfl | exact hs.cell (i := 3) rfl rfl) ?_) | refine RL_skip rfl rfl rfl rfl ?_ | refine RL_skipU rfl rfl rfl ?_
         first | (refine RL_want rfl rfl ?_; refine L_fcmp rfl rfl rfl (fun _ => by rw [binOp_float_cmp_lss]; rfl) ?_) | refine RL_skip rfl rfl rfl rfl ?_ | refine RL_skipU rfl rfl rfl ?_
         first | (refine RL_want rfl rfl ?_; (first | refine L_pick_t rfl rfl rfl ?_ | refine L_pick_f rfl rfl rfl ?_)) | refine RL_skip rfl rfl rfl rfl ?_ | refine RL_skipU rfl rfl rfl ?_
         first | refine L_pick_t rfl rfl rfl ?_ | refine L_pick_f rfl rfl rfl ?_
         refine RL_nil' ?_
         refine Nx_cutP (true, _) (is := [0, 3, 5, 6, 10, 11, 13, 14, 38, 39, 40, 71]) (I' := (fun (cnd : Bool) (w : World) => (cnd = swW e u) ∧ (HS w0 w [(b14, Row 25 [.float .f64 u.1, .float .f64 u.2]), (b13, Row 25 [.float .f64 e.1, .float .f64 e.2]), (b5, Row 25 [.float .f64 p.1, .float .f64 p.2]), (b6, Row 25 [.float .f64 v.1, .float .f64 v.2])])) (true) (_)) rfl rfl rfl ?_
         exact ⟨by unfold swW; rw [h1']; rfl, hs⟩
       ·
        clear hs
        intro cnd w hI
        show W _ _ _ _ [(0, .slice a k c), (3, .float .f64 most), (5, .pointer (some ⟨b5, 0, none⟩)), (6, .pointer (some ⟨b6, 0, none⟩)), (10, .float .f64 s.1), (11, .bool s.2), (13, .pointer (some ⟨b13, 0, none⟩)), (14, .pointer (some ⟨b14, 0, none⟩)), (38, .slice a k c), (39, .int .i64 k), (40, .int .i64 i), (71, .bool cnd)] w
        obtain ⟨hcnd, hs⟩ := hI
        refine W_cut3 (fun (lo : Pt) (hi : Pt) (w : World) => [(0, .slice a k c), (3, .float .f64 most), (5, .pointer (some ⟨b5, 0, none⟩)), (6, .pointer (some ⟨b6, 0, none⟩)), (10, .float .f64 s.1), (11, .bool s.2), (13, .pointer (some ⟨b13, 0, none⟩)), (14, .pointer (some ⟨b14, 0, none⟩)), (38, .slice a k c), (39, .int .i64 k), (40, .int .i64 i)]) (fun (lo : Pt) (hi : Pt) (w : World) => w) (fun (lo : Pt) (hi : Pt) (w : World) => (lo = lowW e u) ∧ (hi = highW e u) ∧ (HS w0 w [(b14, Row 25 [.float .f64 hi.1, .float .f64 hi.2]), (b13, Row 25 [.float .f64 lo.1, .float .f64 lo.2]), (b5, Row 25 [.float .f64 p.1, .float .f64 p.2]), (b6, Row 25 [.float .f64 v.1, .float .f64 v.2])])) ?_ ?_
        ·
         cases cnd
         ·
          refine W_if_false rfl ?_
          refine W_skip' ?_
          refine Nx_cutP (e, u, _) (is := [0, 3, 5, 6, 10, 11, 13, 14, 38, 39, 40]) (I' := (fun (lo : Pt) (hi : Pt) (w : World) => (lo = lowW e u) ∧ (hi = highW e u) ∧ (HS w0 w [(b14, Row 25 [.float .f64 hi.1, .float .f64 hi.2]), (b13, Row 25 [.float .f64 lo.1, .float .f64 lo.2]), (b5, Row 25 [.float .f64 p.1, .float .f64 p.2]), (b6, Row 25 [.float .f64 v.1, .float .f64 v.2])])) (e) (u) (_)) rfl rfl rfl ?_
          exact ⟨by simp [lowW, ← hcnd], by simp [highW, ← hcnd], hs⟩
         ·
          skip
          refine W_if_true rfl ?_
          refine W_region ?_
          refine L_loadA rfl Try.agg25 Try.ti25 rfl (by first | exact cellsAt2' (hs.get (i := 0) rfl) rfl rfl | exact cellsAt2' (hs.get (i := 1) rfl) rfl rfl) ?_
          refine L_loadA rfl Try.agg25 Try.ti25 rfl (by first | exact cellsAt2' (hs.get (i := 0) rfl) rfl rfl | exact cellsAt2' (hs.get (i := 1) rfl) rfl rfl) ?_
          first | (refine L_storeA hs (i := 0) rfl Try.ti25 rfl rfl (by first | rfl | exact add_lit0 _ _ | exact Addr.add_lit .. | (rw [add_add]; exact add_lit0 _ _)) (by simp) (by first | (simp; done) | simp [Value.oneCell']) ?_; intro w hs; try dsimp only [List.set_cons_succ, List.set_cons_zero, List.cons_append, List.nil_append] at hs) | (refine L_storeA hs (i := 1) rfl Try.ti25 rfl rfl (by first | rfl | exact add_lit0 _ _ | exact Addr.add_lit .. | (rw [add_add]; exact add_lit0 _ _)) (by simp) (by first | (simp; done) | simp [Value.oneCell']) ?_; intro w hs; try dsimp only [List.set_cons_succ, List.set_cons_zero, List.cons_append, List.nil_append] at hs)
          first | (refine L_storeA hs (i := 0) rfl Try.ti25 rfl rfl (by first | rfl | exact add_lit0 _ _ | exact Addr.add_lit .. | (rw [add_add]; exact add_lit0 _ _)) (by simp) (by first | (simp; done) | simp [Value.oneCell']) ?_; intro w hs; try dsimp only [List.set_cons_succ, List.set_cons_zero, List.cons_append, List.nil_append] at hs) | (refine L_storeA hs (i := 1) rfl Try.ti25 rfl rfl (by first | rfl | exact add_lit0 _ _ | exact Addr.add_lit .. | (rw [add_add]; exact add_lit0 _ _)) (by simp) (by first | (simp; done) | simp [Value.oneCell']) ?_; intro w hs; try dsimp only [List.set_cons_succ, List.set_cons_zero, List.cons_append, List.nil_append] at hs)
          refine RL_nil' ?_
          refine Nx_cutP (u, e, _) (is := [0, 3, 5, 6, 10, 11, 13, 14, 38, 39, 40]) (I' := (fun (lo : Pt) (hi : Pt) (w : World) => (lo = lowW e u) ∧ (hi = highW e u) ∧ (HS w0 w [(b14, Row 25 [.float .f64 hi.1, .float .f64 hi.2]), (b13, Row 25 [.float .f64 lo.1, .float .f64 lo.2]), (b5, Row 25 [.float .f64 p.1, .float .f64 p.2]), (b6, Row 25 [.float .f64 v.1, .float .f64 v.2])])) (u) (e) (_)) rfl rfl rfl ?_
          exact ⟨by simp [lowW, ← hcnd], by simp [highW, ← hcnd], hs⟩
        ·
         clear hs
         intro lo hi w hI
         show W _ _ _ _ [(0, .slice a k c), (3, .float .f64 most), (5, .pointer (some ⟨b5, 0, none⟩)), (6, .pointer (some ⟨b6, 0, none⟩)), (10, .float .f64 s.1), (11, .bool s.2), (13, .pointer (some ⟨b13, 0, none⟩)), (14, .pointer (some ⟨b14, 0, none⟩)), (38, .slice a k c), (39, .int .i64 k), (40, .int .i64 i)] w
         obtain ⟨hlo, hhi, hs⟩ := hI
         rw [← hlo, ← hhi] at estep
         refine W_seq ?_
         refine W_pht [0, 2, 5, 7] [1, 3, 4, 6, 8, 9, 10, 11] [] (fun _ _ _ => False) Try.mixed (by kernel_rfl) (fun _ _ _ _ _ h => h) hs ?_
         refine PL_val rfl (fun w => R_fieldAddr (off := 0) Try.underlying25 rfl rfl Try.ti23 rfl) ?_
         refine PL_val rfl (fun w => R_fieldAddr (off := 0) Try.underlying25 rfl rfl Try.ti23 rfl) ?_
         refine PL_val rfl (fun w => R_fieldAddr (off := 1) Try.underlying25 rfl rfl Try.ti23 rfl) ?_
         refine PL_val rfl (fun w => R_fieldAddr (off := 1) Try.underlying25 rfl rfl Try.ti23 rfl) ?_
         refine PL_end ?_
         refine HL_val rfl (fun w hs => R_load Try.one23 rfl (by first | exact hs.cell (i := 0) rfl rfl | exact hs.cell (i := 1) rfl rfl | exact hs.cell (i := 2) rfl rfl | exact hs.cell (i := 3) rfl rfl)) ?_
         refine HL_val rfl (fun w hs => R_load Try.one23 rfl (by first | exact hs.cell (i := 0) rfl rfl | exact hs.cell (i := 1) rfl rfl | exact hs.cell (i := 2) rfl rfl | exact hs.cell (i := 3) rfl rfl)) ?_
         refine HL_farith rfl (op := .sub) rfl rfl rfl ?_
         intro r78 hr78
         refine HL_val rfl (fun w hs => R_load Try.one23 rfl (by first | exact hs.cell (i := 0) rfl rfl | exact hs.cell (i := 1) rfl rfl | exact hs.cell (i := 2) rfl rfl | exact hs.cell (i := 3) rfl rfl)) ?_
         refine HL_val rfl (fun w hs => R_load Try.one23 rfl (by first | exact hs.cell (i := 0) rfl rfl | exact hs.cell (i := 1) rfl rfl | exact hs.cell (i := 2) rfl rfl | exact hs.cell (i := 3) rfl rfl)) ?_
         refine HL_farith rfl (op := .sub) rfl rfl rfl ?_
         intro r83 hr83
         refine HL_val rfl (fun w hs => R_assign rfl) ?_
         refine HL_val rfl (fun w hs => R_assign rfl) ?_
         refine HL_tail ?_
         intro w hs
         refine RL_then ?_
         refine W_seq ?_
         refine W_pht [0, 2, 5, 7] [1, 3, 4, 6, 8, 9, 10, 11] [] (fun _ _ _ => False) Try.mixed (by kernel_rfl) (fun _ _ _ _ _ h => h) hs ?_
         refine PL_val rfl (fun w => R_fieldAddr (off := 0) Try.underlying25 rfl rfl Try.ti23 rfl) ?_
         refine PL_val rfl (fun w => R_fieldAddr (off := 0) Try.underlying25 rfl rfl Try.ti23 rfl) ?_
         refine PL_val rfl (fun w => R_fieldAddr (off := 1) Try.underlying25 rfl rfl Try.ti23 rfl) ?_
         refine PL_val rfl (fun w => R_fieldAddr (off := 1) Try.underlying25 rfl rfl Try.ti23 rfl) ?_
         refine PL_end ?_
         refine HL_val rfl (fun w hs => R_load Try.one23 rfl (by first | exact hs.cell (i := 0) rfl rfl | exact hs.cell (i := 1) rfl rfl | exact hs.cell (i := 2) rfl rfl | exact hs.cell (i := 3) rfl rfl)) ?_
         refine HL_val rfl (fun w hs => R_load Try.one23 rfl (by first | exact hs.cell (i := 0) rfl rfl | exact hs.cell (i := 1) rfl rfl | exact hs.cell (i := 2) rfl rfl | exact hs.cell (i := 3) rfl rfl)) ?_
         refine HL_farith rfl (op := .sub) rfl rfl rfl ?_
         intro r88 hr88
         refine HL_val rfl (fun w hs => R_load Try.one23 rfl (by first | exact hs.cell (i := 0) rfl rfl | exact hs.cell (i := 1) rfl rfl | exact hs.cell (i := 2) rfl rfl | exact hs.cell (i := 3) rfl rfl)) ?_
         refine HL_val rfl (fun w hs => R_load Try.one23 rfl (by first | exact hs.cell (i := 0) rfl rfl | exact hs.cell (i := 1) rfl rfl | exact hs.cell (i := 2) rfl rfl | exact hs.cell (i := 3) rfl rfl)) ?_
         refine HL_farith rfl (op := .sub) rfl rfl rfl ?_
         intro r93 hr93
         refine HL_val rfl (fun w hs => R_assign rfl) ?_
         refine HL_val rfl (fun w hs => R_assign rfl) ?_
         refine HL_tail ?_
         intro w hs
         refine RL_then ?_
         refine W_seq ?_
         refine W_region ?_
         refine L_fieldAddr rfl (off := 0) Try.underlying25 rfl rfl Try.ti23 rfl ?_
         refine L_load rfl Try.one23 rfl (by first | exact hs.cell (i := 0) rfl rfl | exact hs.cell (i := 1) rfl rfl | exact hs.cell (i := 2) rfl rfl | exact hs.cell (i := 3) rfl rfl) ?_
         refine L_move rfl rfl ?_
         refine L_farith rfl (op := .mul) rfl rfl rfl ?_
         intro r97 k97 hr97
         try replace hs := hs.drewN k97
         refine L_fieldAddr rfl (off := 1) Try.underlying25 rfl rfl Try.ti23 rfl ?_
         refine L_load rfl Try.one23 rfl (by first | exact hs.cell (i := 0) rfl rfl | exact hs.cell (i := 1) rfl rfl | exact hs.cell (i := 2) rfl rfl | exact hs.cell (i := 3) rfl rfl) ?_
         refine L_move rfl rfl ?_
         refine L_farith rfl (op := .mul) rfl rfl rfl ?_
         intro r101 k101 hr101
         try replace hs := hs.drewN k101
         refine L_farith rfl (op := .sub) rfl rfl rfl ?_
         intro r102 k102 hr102
         try replace hs := hs.drewN k102
         refine L_assign rfl rfl ?_
         refine RL_then ?_
         refine W_seq ?_
         refine W_seq ?_
         refine W_region ?_
         refine L_move rfl rfl ?_
         refine L_fcmp rfl rfl rfl (fun _ => by rw [binOp_float_cmp_eql]; rfl) ?_
         refine RL_then ?_
         have eN : cn r102 = cn (wN v lo hi) := Fs.of hr102 (Fs.of hr97 rfl (Fs.of hr83 rfl rfl)) (Fs.of hr101 rfl (Fs.of hr78 rfl rfl))
         cases hz : FloatKind.f64.format.order r102 0 == some .eq
         ·
          have hz' : eqB (wN v lo hi) 0 = false := (eqB_congr eN rfl).symm.trans hz
          refine W_if_false rfl ?_
          refine W_skip' ?_
          refine Nx_then ?_
          refine W_seq ?_
          refine W_region ?_
          refine L_move rfl rfl ?_
          refine L_move rfl rfl ?_
          refine L_farith rfl (op := .mul) rfl rfl rfl ?_
          intro r107 k107 hr107
          try replace hs := hs.drewN k107
          refine L_move rfl rfl ?_
          refine L_move rfl rfl ?_
          refine L_farith rfl (op := .mul) rfl rfl rfl ?_
          intro r110 k110 hr110
          try replace hs := hs.drewN k110
          refine L_farith rfl (op := .sub) rfl rfl rfl ?_
          intro r111 k111 hr111
          try replace hs := hs.drewN k111
          refine L_move rfl rfl ?_
          refine L_farith rfl (op := .quo) rfl rfl rfl ?_
          intro r113 k113 hr113
          try replace hs := hs.drewN k113
          refine L_assign rfl rfl ?_
          refine RL_then ?_
          refine W_seq ?_
          refine W_region ?_
          refine L_move rfl rfl ?_
          refine L_fieldAddr rfl (off := 1) Try.underlying25 rfl rfl Try.ti23 rfl ?_
          refine L_load rfl Try.one23 rfl (by first | exact hs.cell (i := 0) rfl rfl | exact hs.cell (i := 1) rfl rfl | exact hs.cell (i := 2) rfl rfl | exact hs.cell (i := 3) rfl rfl) ?_
          refine L_farith rfl (op := .mul) rfl rfl rfl ?_
          intro r117 k117 hr117
          try replace hs := hs.drewN k117
          refine L_move rfl rfl ?_
          refine L_fieldAddr rfl (off := 0) Try.underlying25 rfl rfl Try.ti23 rfl ?_
          refine L_load rfl Try.one23 rfl (by first | exact hs.cell (i := 0) rfl rfl | exact hs.cell (i := 1) rfl rfl | exact hs.cell (i := 2) rfl rfl | exact hs.cell (i := 3) rfl rfl) ?_
          refine L_farith rfl (op := .mul) rfl rfl rfl ?_
          intro r121 k121 hr121
          try replace hs := hs.drewN k121
          refine L_farith rfl (op := .sub) rfl rfl rfl ?_
          intro r122 k122 hr122
          try replace hs := hs.drewN k122
          refine L_move rfl rfl ?_
          refine L_farith rfl (op := .quo) rfl rfl rfl ?_
          intro r124 k124 hr124
          try replace hs := hs.drewN k124
          refine L_assign rfl rfl ?_
          refine RL_then ?_
          refine W_seq ?_
          have eT : cn r113 = cn (wT p v lo hi) := Fs.of hr113 (Fs.of hr111 (Fs.of hr107 (Fs.of hr88 rfl rfl) (Fs.of hr83 rfl rfl)) (Fs.of hr110 (Fs.of hr93 rfl rfl) (Fs.of hr78 rfl rfl))) eN
          have eU : cn r124 = cn (wU p v lo hi) := Fs.of hr124 (Fs.of hr122 (Fs.of hr117 (Fs.of hr88 rfl rfl) rfl) (Fs.of hr121 (Fs.of hr93 rfl rfl) rfl)) eN
          have g1 : leB 0 (wT p v lo hi) = geB r113 0 := by rw [geB_leB]; exact (leB_congr rfl eT).symm
          have g2 : leB (wT p v lo hi) most = leB r113 most := (leB_congr eT rfl).symm
          have g3 : leB 0 (wU p v lo hi) = geB r124 0 := by rw [geB_leB]; exact (leB_congr rfl eU).symm
          have g4 : leB (wU p v lo hi) 4607182418800017408 = leB r124 4607182418800017408 := (leB_congr eU rfl).symm
          have g5 : ltB (wT p v lo hi) s.1 = ltB r113 s.1 := (ltB_congr eT rfl).symm
          refine W_cut2 (fun (cnd : Bool) (w : World) => [(0, .slice a k c), (3, .float .f64 most), (5, .pointer (some ⟨b5, 0, none⟩)), (6, .pointer (some ⟨b6, 0, none⟩)), (10, .float .f64 s.1), (11, .bool s.2), (20, .float .f64 r113), (38, .slice a k c), (39, .int .i64 k), (40, .int .i64 i), (148, .bool cnd)]) (fun (cnd : Bool) (w : World) => w) (fun (cnd : Bool) (w : World) => (cnd = betB p v most lo hi s) ∧ (HS w0 w [(b14, Row 25 [.float .f64 hi.1, .float .f64 hi.2]), (b13, Row 25 [.float .f64 lo.1, .float .f64 lo.2]), (b5, Row 25 [.float .f64 p.1, .float .f64 p.2]), (b6, Row 25 [.float .f64 v.1, .float .f64 v.2])])) ?_ ?_
          ·
           cases h1 : FloatKind.f64.format.order r113 0 == some .gt || FloatKind.f64.format.order r113 0 == some .eq
           ·
            skip
            refine W_region ?_
            refine L_move rfl rfl ?_
            refine L_fcmp rfl rfl rfl (fun _ => by rw [binOp_float_cmp_geq, h1]; rfl) ?_
            refine L_move rfl rfl ?_
            first | (refine RL_want rfl rfl ?_; refine L_move rfl rfl ?_) | refine RL_skip rfl rfl rfl rfl ?_ | refine RL_skipU rfl rfl rfl ?_
            first | (refine RL_want rfl rfl ?_; refine L_move rfl rfl ?_) | refine RL_skip rfl rfl rfl rfl ?_ | refine RL_skipU rfl rfl rfl ?_
            first | (refine RL_want rfl rfl ?_; refine L_fcmp rfl rfl rfl (fun _ => by rw [binOp_float_cmp_leq]; rfl) ?_) | refine RL_skip rfl rfl rfl rfl ?_ | refine RL_skipU rfl rfl rfl ?_
            first | refine L_pick_t rfl rfl rfl ?_ | refine L_pick_f rfl rfl rfl ?_
            refine L_move rfl rfl ?_
            first | (refine RL_want rfl rfl ?_; refine L_move rfl rfl ?_) | refine RL_skip rfl rfl rfl rfl ?_ | refine RL_skipU rfl rfl rfl ?_
            first | (refine RL_want rfl rfl ?_; refine L_fcmp rfl rfl rfl (fun _ => by rw [binOp_float_cmp_geq]; rfl) ?_) | refine RL_skip rfl rfl rfl rfl ?_ | refine RL_skipU rfl rfl rfl ?_
            first | refine L_pick_t rfl rfl rfl ?_ | refine L_pick_f rfl rfl rfl ?_
            refine L_move rfl rfl ?_
            first | (refine RL_want rfl rfl ?_; refine L_move rfl rfl ?_) | refine RL_skip rfl rfl rfl rfl ?_ | refine RL_skipU rfl rfl rfl ?_
            first | (refine RL_want rfl rfl ?_; refine L_fcmp rfl rfl rfl (fun _ => by rw [binOp_float_cmp_leq]; rfl) ?_) | refine RL_skip rfl rfl rfl rfl ?_ | refine RL_skipU rfl rfl rfl ?_
            first | refine L_pick_t rfl rfl rfl ?_ | refine L_pick_f rfl rfl rfl ?_
            refine L_move rfl rfl ?_
            first | (refine RL_want rfl rfl ?_; refine L_move rfl rfl ?_) | refine RL_skip rfl rfl rfl rfl ?_ | refine RL_skipU rfl rfl rfl ?_
            first | (refine RL_want rfl rfl ?_; refine L_not rfl rfl ?_) | refine RL_skip rfl rfl rfl rfl ?_ | refine RL_skipU rfl rfl rfl ?_
            first | (refine RL_want rfl rfl ?_; refine L_move rfl rfl ?_) | refine RL_skip rfl rfl rfl rfl ?_ | refine RL_skipU rfl rfl rfl ?_
            first | (refine RL_want rfl rfl ?_; refine L_move rfl rfl ?_) | refine RL_skip rfl rfl rfl rfl ?_ | refine RL_skipU rfl rfl rfl ?_
            first | (refine RL_want rfl rfl ?_; refine L_move rfl rfl ?_) | refine RL_skip rfl rfl rfl rfl ?_ | refine RL_skipU rfl rfl rfl ?_
            first | (refine RL_want rfl rfl ?_; refine L_fcmp rfl rfl rfl (fun _ => by rw [binOp_float_cmp_lss]; rfl) ?_) | refine RL_skip rfl rfl rfl rfl ?_ | refine RL_skipU rfl rfl rfl ?_
            first | (refine RL_want rfl rfl ?_; (first | refine L_pick_t rfl rfl rfl ?_ | refine L_pick_f rfl rfl rfl ?_)) | refine RL_skip rfl rfl rfl rfl ?_ | refine RL_skipU rfl rfl rfl ?_
            first | refine L_pick_t rfl rfl rfl ?_ | refine L_pick_f rfl rfl rfl ?_
            refine RL_nil' ?_
            refine Nx_cutP (false, _) (is := [0, 3, 5, 6, 10, 11, 20, 38, 39, 40, 148]) (I' := (fun (cnd : Bool) (w : World) => (cnd = betB p v most lo hi s) ∧ (HS w0 w [(b14, Row 25 [.float .f64 hi.1, .float .f64 hi.2]), (b13, Row 25 [.float .f64 lo.1, .float .f64 lo.2]), (b5, Row 25 [.float .f64 p.1, .float .f64 p.2]), (b6, Row 25 [.float .f64 v.1, .float .f64 v.2])])) (false) (_)) rfl rfl rfl ?_
            exact ⟨by unfold betB hitB; rw [g1.trans h1]; rfl, hs⟩
           ·
            skip
            cases h2 : FloatKind.f64.format.order r113 most == some .lt || FloatKind.f64.format.order r113 most == some .eq
            ·
             skip
             refine W_region ?_
             refine L_move rfl rfl ?_
             refine L_fcmp rfl rfl rfl (fun _ => by rw [binOp_float_cmp_geq, h1]; rfl) ?_
             refine L_move rfl rfl ?_
             first | (refine RL_want rfl rfl ?_; refine L_move rfl rfl ?_) | refine RL_skip rfl rfl rfl rfl ?_ | refine RL_skipU rfl rfl rfl ?_
             first | (refine RL_want rfl rfl ?_; refine L_move rfl rfl ?_) | refine RL_skip rfl rfl rfl rfl ?_ | refine RL_skipU rfl rfl rfl ?_
             first | (refine RL_want rfl rfl ?_; refine L_fcmp rfl rfl rfl (fun _ => by rw [binOp_float_cmp_leq, h2]; rfl) ?_) | refine RL_skip rfl rfl rfl rfl ?_ | refine RL_skipU rfl rfl rfl ?_
             first | refine L_pick_t rfl rfl rfl ?_ | refine L_pick_f rfl rfl rfl ?_
             refine L_move rfl rfl ?_
             first | (refine RL_want rfl rfl ?_; refine L_move rfl rfl ?_) | refine RL_skip rfl rfl rfl rfl ?_ | refine RL_skipU rfl rfl rfl ?_
             first | (refine RL_want rfl rfl ?_; refine L_fcmp rfl rfl rfl (fun _ => by rw [binOp_float_cmp_geq]; rfl) ?_) | refine RL_skip rfl rfl rfl rfl ?_ | refine RL_skipU rfl rfl rfl ?_
             first | refine L_pick_t rfl rfl rfl ?_ | refine L_pick_f rfl rfl rfl ?_
             refine L_move rfl rfl ?_
             first | (refine RL_want rfl rfl ?_; refine L_move rfl rfl ?_) | refine RL_skip rfl rfl rfl rfl ?_ | refine RL_skipU rfl rfl rfl ?_
             first | (refine RL_want rfl rfl ?_; refine L_fcmp rfl rfl rfl (fun _ => by rw [binOp_float_cmp_leq]; rfl) ?_) | refine RL_skip rfl rfl rfl rfl ?_ | refine RL_skipU rfl rfl rfl ?_
             first | refine L_pick_t rfl rfl rfl ?_ | refine L_pick_f rfl rfl rfl ?_
             refine L_move rfl rfl ?_
             first | (refine RL_want rfl rfl ?_; refine L_move rfl rfl ?_) | refine RL_skip rfl rfl rfl rfl ?_ | refine RL_skipU rfl rfl rfl ?_
             first | (refine RL_want rfl rfl ?_; refine L_not rfl rfl ?_) | refine RL_skip rfl rfl rfl rfl ?_ | refine RL_skipU rfl rfl rfl ?_
             first | (refine RL_want rfl rfl ?_; refine L_move rfl rfl ?_) | refine RL_skip rfl rfl rfl rfl ?_ | refine RL_skipU rfl rfl rfl ?_
             first | (refine RL_want rfl rfl ?_; refine L_move rfl rfl ?_) | refine RL_skip rfl rfl rfl rfl ?_ | refine RL_skipU rfl rfl rfl ?_
             first | (refine RL_want rfl rfl ?_; refine L_move rfl rfl ?_) | refine RL_skip rfl rfl rfl rfl ?_ | refine RL_skipU rfl rfl rfl ?_
             first | (refine RL_want rfl rfl ?_; refine L_fcmp rfl rfl rfl (fun _ => by rw [binOp_float_cmp_lss]; rfl) ?_) | refine RL_skip rfl rfl rfl rfl ?_ | refine RL_skipU rfl rfl rfl ?_
             first | (refine RL_want rfl rfl ?_; (first | refine L_pick_t rfl rfl rfl ?_ | refine L_pick_f rfl rfl rfl ?_)) | refine RL_skip rfl rfl rfl rfl ?_ | refine RL_skipU rfl rfl rfl ?_
             first | refine L_pick_t rfl rfl rfl ?_ | refine L_pick_f rfl rfl rfl ?_
             refine RL_nil' ?_
             refine Nx_cutP (false, _) (is := [0, 3, 5, 6, 10, 11, 20, 38, 39, 40, 148]) (I' := (fun (cnd : Bool) (w : World) => (cnd = betB p v most lo hi s) ∧ (HS w0 w [(b14, Row 25 [.float .f64 hi.1, .float .f64 hi.2]), (b13, Row 25 [.float .f64 lo.1, .float .f64 lo.2]), (b5, Row 25 [.float .f64 p.1, .float .f64 p.2]), (b6, Row 25 [.float .f64 v.1, .float .f64 v.2])])) (false) (_)) rfl rfl rfl ?_
             exact ⟨by unfold betB hitB; rw [g1.trans h1, g2.trans h2]; rfl, hs⟩
            ·
             skip
             cases h3 : FloatKind.f64.format.order r124 0 == some .gt || FloatKind.f64.format.order r124 0 == some .eq
             ·
              skip
              refine W_region ?_
              refine L_move rfl rfl ?_
              refine L_fcmp rfl rfl rfl (fun _ => by rw [binOp_float_cmp_geq, h1]; rfl) ?_
              refine L_move rfl rfl ?_
              first | (refine RL_want rfl rfl ?_; refine L_move rfl rfl ?_) | refine RL_skip rfl rfl rfl rfl ?_ | refine RL_skipU rfl rfl rfl ?_
              first | (refine RL_want rfl rfl ?_; refine L_move rfl rfl ?_) | refine RL_skip rfl rfl rfl rfl ?_ | refine RL_skipU rfl rfl rfl ?_
              first | (refine RL_want rfl rfl ?_; refine L_fcmp rfl rfl rfl (fun _ => by rw [binOp_float_cmp_leq, h2]; rfl) ?_) | refine RL_skip rfl rfl rfl rfl ?_ | refine RL_skipU rfl rfl rfl ?_
              first | refine L_pick_t rfl rfl rfl ?_ | refine L_pick_f rfl rfl rfl ?_
              refine L_move rfl rfl ?_
              first | (refine RL_want rfl rfl ?_; refine L_move rfl rfl ?_) | refine RL_skip rfl rfl rfl rfl ?_ | refine RL_skipU rfl rfl rfl ?_
              first | (refine RL_want rfl rfl ?_; refine L_fcmp rfl rfl rfl (fun _ => by rw [binOp_float_cmp_geq, h3]; rfl) ?_) | refine RL_skip rfl rfl rfl rfl ?_ | refine RL_skipU rfl rfl rfl ?_
              first | refine L_pick_t rfl rfl rfl ?_ | refine L_pick_f rfl rfl rfl ?_
              refine L_move rfl rfl ?_
              first | (refine RL_want rfl rfl ?_; refine L_move rfl rfl ?_) | refine RL_skip rfl rfl rfl rfl ?_ | refine RL_skipU rfl rfl rfl ?_
              first | (refine RL_want rfl rfl ?_; refine L_fcmp rfl rfl rfl (fun _ => by rw [binOp_float_cmp_leq]; rfl) ?_) | refine RL_skip rfl rfl rfl rfl ?_ | refine RL_skipU rfl rfl rfl ?_
              first | refine L_pick_t rfl rfl rfl ?_ | refine L_pick_f rfl rfl rfl ?_
              refine L_move rfl rfl ?_
              first | (refine RL_want rfl rfl ?_; refine L_move rfl rfl ?_) | refine RL_skip rfl rfl rfl rfl ?_ | refine RL_skipU rfl rfl rfl ?_
              first | (refine RL_want rfl rfl ?_; refine L_not rfl rfl ?_) | refine RL_skip rfl rfl rfl rfl ?_ | refine RL_skipU rfl rfl rfl ?_
              first | (refine RL_want rfl rfl ?_; refine L_move rfl rfl ?_) | refine RL_skip rfl rfl rfl rfl ?_ | refine RL_skipU rfl rfl rfl ?_
              first | (refine RL_want rfl rfl ?_; refine L_move rfl rfl ?_) | refine RL_skip rfl rfl rfl rfl ?_ | refine RL_skipU rfl rfl rfl ?_
              first | (refine RL_want rfl rfl ?_; refine L_move rfl rfl ?_) | refine RL_skip rfl rfl rfl rfl ?_ | refine RL_skipU rfl rfl rfl ?_
              first | (refine RL_want rfl rfl ?_; refine L_fcmp rfl rfl rfl (fun _ => by rw [binOp_float_cmp_lss]; rfl) ?_) | refine RL_skip rfl rfl rfl rfl ?_ | refine RL_skipU rfl rfl rfl ?_
              first | (refine RL_want rfl rfl ?_; (first | refine L_pick_t rfl rfl rfl ?_ | refine L_pick_f rfl rfl rfl ?_)) | refine RL_skip rfl rfl rfl rfl ?_ | refine RL_skipU rfl rfl rfl ?_
              first | refine L_pick_t rfl rfl rfl ?_ | refine L_pick_f rfl rfl rfl ?_
              refine RL_nil' ?_
              refine Nx_cutP (false, _) (is := [0, 3, 5, 6, 10, 11, 20, 38, 39, 40, 148]) (I' := (fun (cnd : Bool) (w : World) => (cnd = betB p v most lo hi s) ∧ (HS w0 w [(b14, Row 25 [.float .f64 hi.1, .float .f64 hi.2]), (b13, Row 25 [.float .f64 lo.1, .float .f64 lo.2]), (b5, Row 25 [.float .f64 p.1, .float .f64 p.2]), (b6, Row 25 [.float .f64 v.1, .float .f64 v.2])])) (false) (_)) rfl rfl rfl ?_
              exact ⟨by unfold betB hitB; rw [g1.trans h1, g2.trans h2, g3.trans h3]; rfl, hs⟩
             ·
              skip
              cases h4 : FloatKind.f64.format.order r124 4607182418800017408 == some .lt || FloatKind.f64.format.order r124 4607182418800017408 == some .eq
              ·
               skip
               refine W_region ?_
               refine L_move rfl rfl ?_
               refine L_fcmp rfl rfl rfl (fun _ => by rw [binOp_float_cmp_geq, h1]; rfl) ?_
               refine L_move rfl rfl ?_
               first | (refine RL_want rfl rfl ?_; refine L_move rfl rfl ?_) | refine RL_skip rfl rfl rfl rfl ?_ | refine RL_skipU rfl rfl rfl ?_
               first | (refine RL_want rfl rfl ?_; refine L_move rfl rfl ?_) | refine RL_skip rfl rfl rfl rfl ?_ | refine RL_skipU rfl rfl rfl ?_
               first | (refine RL_want rfl rfl ?_; refine L_fcmp rfl rfl rfl (fun _ => by rw [binOp_float_cmp_leq, h2]; rfl) ?_) | refine RL_skip rfl rfl rfl rfl ?_ | refine RL_skipU rfl rfl rfl ?_
               first | refine L_pick_t rfl rfl rfl ?_ | refine L_pick_f rfl rfl rfl ?_
               refine L_move rfl rfl ?_
               first | (refine RL_want rfl rfl ?_; refine L_move rfl rfl ?_) | refine RL_skip rfl rfl rfl rfl ?_ | refine RL_skipU rfl rfl rfl ?_
               first | (refine RL_want rfl rfl ?_; refine L_fcmp rfl rfl rfl (fun _ => by rw [binOp_float_cmp_geq, h3]; rfl) ?_) | refine RL_skip rfl rfl rfl rfl ?_ | refine RL_skipU rfl rfl rfl ?_
               first | refine L_pick_t rfl rfl rfl ?_ | refine L_pick_f rfl rfl rfl ?_
               refine L_move rfl rfl ?_
               first | (refine RL_want rfl rfl ?_; refine L_move rfl rfl ?_) | refine RL_skip rfl rfl rfl rfl ?_ | refine RL_skipU rfl rfl rfl ?_
               first | (refine RL_want rfl rfl ?_; refine L_fcmp rfl rfl rfl (fun _ => by rw [binOp_float_cmp_leq, h4]; rfl) ?_) | refine RL_skip rfl rfl rfl rfl ?_ | refine RL_skipU rfl rfl rfl ?_
               first | refine L_pick_t rfl rfl rfl ?_ | refine L_pick_f rfl rfl rfl ?_
               refine L_move rfl rfl ?_
               first | (refine RL_want rfl rfl ?_; refine L_move rfl rfl ?_) | refine RL_skip rfl rfl rfl rfl ?_ | refine RL_skipU rfl rfl rfl ?_
               first | (refine RL_want rfl rfl ?_; refine L_not rfl rfl ?_) | refine RL_skip rfl rfl rfl rfl ?_ | refine RL_skipU rfl rfl rfl ?_
               first | (refine RL_want rfl rfl ?_; refine L_move rfl rfl ?_) | refine RL_skip rfl rfl rfl rfl ?_ | refine RL_skipU rfl rfl rfl ?_
               first | (refine RL_want rfl rfl ?_; refine L_move rfl rfl ?_) | refine RL_skip rfl rfl rfl rfl ?_ | refine RL_skipU rfl rfl rfl ?_
               first | (refine RL_want rfl rfl ?_; refine L_move rfl rfl ?_) | refine RL_skip rfl rfl rfl rfl ?_ | refine RL_skipU rfl rfl rfl ?_
               first | (refine RL_want rfl rfl ?_; refine L_fcmp rfl rfl rfl (fun _ => by rw [binOp_float_cmp_lss]; rfl) ?_) | refine RL_skip rfl rfl rfl rfl ?_ | refine RL_skipU rfl rfl rfl ?_
               first | (refine RL_want rfl rfl ?_; (first | refine L_pick_t rfl rfl rfl ?_ | refine L_pick_f rfl rfl rfl ?_)) | refine RL_skip rfl rfl rfl rfl ?_ | refine RL_skipU rfl rfl rfl ?_
               first | refine L_pick_t rfl rfl rfl ?_ | refine L_pick_f rfl rfl rfl ?_
               refine RL_nil' ?_
               refine Nx_cutP (false, _) (is := [0, 3, 5, 6, 10, 11, 20, 38, 39, 40, 148]) (I' := (fun (cnd : Bool) (w : World) => (cnd = betB p v most lo hi s) ∧ (HS w0 w [(b14, Row 25 [.float .f64 hi.1, .float .f64 hi.2]), (b13, Row 25 [.float .f64 lo.1, .float .f64 lo.2]), (b5, Row 25 [.float .f64 p.1, .float .f64 p.2]), (b6, Row 25 [.float .f64 v.1, .float .f64 v.2])])) (false) (_)) rfl rfl rfl ?_
               exact ⟨by unfold betB hitB; rw [g1.trans h1, g2.trans h2, g3.trans h3, g4.trans h4]; rfl, hs⟩
              ·
               skip
               cases hf : s.2
               ·
                refine W_region ?_
                refine L_move rfl rfl ?_
                refine L_fcmp rfl rfl rfl (fun _ => by rw [binOp_float_cmp_geq, h1]; rfl) ?_
                refine L_move rfl rfl ?_
                first | (refine RL_want rfl rfl ?_; refine L_move rfl rfl ?_) | refine RL_skip rfl rfl rfl rfl ?_ | refine RL_skipU rfl rfl rfl ?_
                first | (refine RL_want rfl rfl ?_; refine L_move rfl rfl ?_) | refine RL_skip rfl rfl rfl rfl ?_ | refine RL_skipU rfl rfl rfl ?_
                first | (refine RL_want rfl rfl ?_; refine L_fcmp rfl rfl rfl (fun _ => by rw [binOp_float_cmp_leq, h2]; rfl) ?_) | refine RL_skip rfl rfl rfl rfl ?_ | refine RL_skipU rfl rfl rfl ?_
                first | refine L_pick_t rfl rfl rfl ?_ | refine L_pick_f rfl rfl rfl ?_
                refine L_move rfl rfl ?_
                first | (refine RL_want rfl rfl ?_; refine L_move rfl rfl ?_) | refine RL_skip rfl rfl rfl rfl ?_ | refine RL_skipU rfl rfl rfl ?_
                first | (refine RL_want rfl rfl ?_; refine L_fcmp rfl rfl rfl (fun _ => by rw [binOp_float_cmp_geq, h3]; rfl) ?_) | refine RL_skip rfl rfl rfl rfl ?_ | refine RL_skipU rfl rfl rfl ?_
                first | refine L_pick_t rfl rfl rfl ?_ | refine L_pick_f rfl rfl rfl ?_
                refine L_move rfl rfl ?_
                first | (refine RL_want rfl rfl ?_; refine L_move rfl rfl ?_) | refine RL_skip rfl rfl rfl rfl ?_ | refine RL_skipU rfl rfl rfl ?_
                first | (refine RL_want rfl rfl ?_; refine L_fcmp rfl rfl rfl (fun _ => by rw [binOp_float_cmp_leq, h4]; rfl) ?_) | refine RL_skip rfl rfl rfl rfl ?_ | refine RL_skipU rfl rfl rfl ?_
                first | refine L_pick_t rfl rfl rfl ?_ | refine L_pick_f rfl rfl rfl ?_
                refine L_move rfl rfl ?_
                first | (refine RL_want rfl rfl ?_; refine L_move rfl rfl ?_) | refine RL_skip rfl rfl rfl rfl ?_ | refine RL_skipU rfl rfl rfl ?_
                first | (refine RL_want rfl rfl ?_; refine L_not rfl rfl ?_) | refine RL_skip rfl rfl rfl rfl ?_ | refine RL_skipU rfl rfl rfl ?_
                first | (refine RL_want rfl rfl ?_; refine L_move rfl rfl ?_) | refine RL_skip rfl rfl rfl rfl ?_ | refine RL_skipU rfl rfl rfl ?_
                first | (refine RL_want rfl rfl ?_; refine L_move rfl rfl ?_) | refine RL_skip rfl rfl rfl rfl ?_ | refine RL_skipU rfl rfl rfl ?_
                first | (refine RL_want rfl rfl ?_; refine L_move rfl rfl ?_) | refine RL_skip rfl rfl rfl rfl ?_ | refine RL_skipU rfl rfl rfl ?_
                first | (refine RL_want rfl rfl ?_; refine L_fcmp rfl rfl rfl (fun _ => by rw [binOp_float_cmp_lss]; rfl) ?_) | refine RL_skip rfl rfl rfl rfl ?_ | refine RL_skipU rfl rfl rfl ?_
                first | (refine RL_want rfl rfl ?_; (first | refine L_pick_t rfl rfl rfl ?_ | refine L_pick_f rfl rfl rfl ?_)) | refine RL_skip rfl rfl rfl rfl ?_ | refine RL_skipU rfl rfl rfl ?_
                first | refine L_pick_t rfl rfl rfl ?_ | refine L_pick_f rfl rfl rfl ?_
                refine RL_nil' ?_
                refine Nx_cutP (true, _) (is := [0, 3, 5, 6, 10, 11, 20, 38, 39, 40, 148]) (I' := (fun (cnd : Bool) (w : World) => (cnd = betB p v most lo hi s) ∧ (HS w0 w [(b14, Row 25 [.float .f64 hi.1, .float .f64 hi.2]), (b13, Row 25 [.float .f64 lo.1, .float .f64 lo.2]), (b5, Row 25 [.float .f64 p.1, .float .f64 p.2]), (b6, Row 25 [.float .f64 v.1, .float .f64 v.2])])) (true) (_)) rfl rfl rfl ?_
                exact ⟨by unfold betB hitB; rw [g1.trans h1, g2.trans h2, g3.trans h3, g4.trans h4, hf]; rfl, hs⟩
               ·
                refine W_region ?_
                refine L_move rfl rfl ?_
                refine L_fcmp rfl rfl rfl (fun _ => by rw [binOp_float_cmp_geq, h1]; rfl) ?_
                refine L_move rfl rfl ?_
                first | (refine RL_want rfl rfl ?_; refine L_move rfl rfl ?_) | refine RL_skip rfl rfl rfl rfl ?_ | refine RL_skipU rfl rfl rfl ?_
                first | (refine RL_want rfl rfl ?_; refine L_move rfl rfl ?_) | refine RL_skip rfl rfl rfl rfl ?_ | refine RL_skipU rfl rfl rfl ?_
                first | (refine RL_want rfl rfl ?_; refine L_fcmp rfl rfl rfl (fun _ => by rw [binOp_float_cmp_leq, h2]; rfl) ?_) | refine RL_skip rfl rfl rfl rfl ?_ | refine RL_skipU rfl rfl rfl ?_
                first | refine L_pick_t rfl rfl rfl ?_ | refine L_pick_f rfl rfl rfl ?_
                refine L_move rfl rfl ?_
                first | (refine RL_want rfl rfl ?_; refine L_move rfl rfl ?_) | refine RL_skip rfl rfl rfl rfl ?_ | refine RL_skipU rfl rfl rfl ?_
                first | (refine RL_want rfl rfl ?_; refine L_fcmp rfl rfl rfl (fun _ => by rw [binOp_float_cmp_geq, h3]; rfl) ?_) | refine RL_skip rfl rfl rfl rfl ?_ | refine RL_skipU rfl rfl rfl ?_
                first | refine L_pick_t rfl rfl rfl ?_ | refine L_pick_f rfl rfl rfl ?_
                refine L_move rfl rfl ?_
                first | (refine RL_want rfl rfl ?_; refine L_move rfl rfl ?_) | refine RL_skip rfl rfl rfl rfl ?_ | refine RL_skipU rfl rfl rfl ?_
                first | (refine RL_want rfl rfl ?_; refine L_fcmp rfl rfl rfl (fun _ => by rw [binOp_float_cmp_leq, h4]; rfl) ?_) | refine RL_skip rfl rfl rfl rfl ?_ | refine RL_skipU rfl rfl rfl ?_
                first | refine L_pick_t rfl rfl rfl ?_ | refine L_pick_f rfl rfl rfl ?_
                refine L_move rfl rfl ?_
                first | (refine RL_want rfl rfl ?_; refine L_move rfl rfl ?_) | refine RL_skip rfl rfl rfl rfl ?_ | refine RL_skipU rfl rfl rfl ?_
                first | (refine RL_want rfl rfl ?_; refine L_not rfl rfl ?_) | refine RL_skip rfl rfl rfl rfl ?_ | refine RL_skipU rfl rfl rfl ?_
                first | (refine RL_want rfl rfl ?_; refine L_move rfl rfl ?_) | refine RL_skip rfl rfl rfl rfl ?_ | refine RL_skipU rfl rfl rfl ?_
                first | (refine RL_want rfl rfl ?_; refine L_move rfl rfl ?_) | refine RL_skip rfl rfl rfl rfl ?_ | refine RL_skipU rfl rfl rfl ?_
                first | (refine RL_want rfl rfl ?_; refine L_move rfl rfl ?_) | refine RL_skip rfl rfl rfl rfl ?_ | refine RL_skipU rfl rfl rfl ?_
                first | (refine RL_want rfl rfl ?_; refine L_fcmp rfl rfl rfl (fun _ => by rw [binOp_float_cmp_lss]; rfl) ?_) | refine RL_skip rfl rfl rfl rfl ?_ | refine RL_skipU rfl rfl rfl ?_
                first | (refine RL_want rfl rfl ?_; (first | refine L_pick_t rfl rfl rfl ?_ | refine L_pick_f rfl rfl rfl ?_)) | refine RL_skip rfl rfl rfl rfl ?_ | refine RL_skipU rfl rfl rfl ?_
                first | refine L_pick_t rfl rfl rfl ?_ | refine L_pick_f rfl rfl rfl ?_
                refine RL_nil' ?_
                refine Nx_cutP (ltB r113 s.1, _) (is := [0, 3, 5, 6, 10, 11, 20, 38, 39, 40, 148]) (I' := (fun (cnd : Bool) (w : World) => (cnd = betB p v most lo hi s) ∧ (HS w0 w [(b14, Row 25 [.float .f64 hi.1, .float .f64 hi.2]), (b13, Row 25 [.float .f64 lo.1, .float .f64 lo.2]), (b5, Row 25 [.float .f64 p.1, .float .f64 p.2]), (b6, Row 25 [.float .f64 v.1, .float .f64 v.2])])) (ltB r113 s.1) (_)) rfl rfl rfl ?_
                exact ⟨by unfold betB hitB; rw [g1.trans h1, g2.trans h2, g3.trans h3, g4.trans h4, hf, g5]; rfl, hs⟩
          ·
           clear hs
           intro cnd w hI
           show W _ _ _ _ [(0, .slice a k c), (3, .float .f64 most), (5, .pointer (some ⟨b5, 0, none⟩)), (6, .pointer (some ⟨b6, 0, none⟩)), (10, .float .f64 s.1), (11, .bool s.2), (20, .float .f64 r113), (38, .slice a k c), (39, .int .i64 k), (40, .int .i64 i), (148, .bool cnd)] w
           obtain ⟨hbet, hs⟩ := hI
           cases cnd
           ·
            -- STOP: cond
            refine W_if_false rfl ?_
            refine W_skip' ?_
            refine Nx_block ?_
            refine Nx_then ?_
            refine W_region ?_
            first | refine L_add rfl rfl rfl (wrp_i64 (by omega)) ?_ | refine L_add rfl rfl rfl rfl ?_
            refine L_move rfl rfl ?_
            refine RL_nil' ?_
            have e9 : whenS ps p v most (i + 1) = s := by rw [estep]; unfold whenStep; rw [hz', if_neg (by decide), ← hbet, if_neg (by decide)]
            refine Nx_set 10 (v' := .float .f64 (whenS ps p v most (i + 1)).1) rfl (by rw [e9]) ?_
            refine Nx_set 11 (v' := .bool (whenS ps p v most (i + 1)).2) rfl (by rw [e9]) ?_
            refine Nx_loopP (i + 1, _) (is := [0, 3, 5, 6, 10, 11, 38, 39, 40]) (I' := (fun (i : Nat) (w : World) => (i ≤ k) ∧ (HS w0 w [(b5, Row 25 [.float .f64 p.1, .float .f64 p.2]), (b6, Row 25 [.float .f64 v.1, .float .f64 v.2])])) (i + 1) (_)) rfl rfl rfl ?_ ?_
            ·
             exact ⟨hlt, HS.pop (HS.pop hs hb14) hb13⟩
            ·
             omega
           ·
            have hb := hbet.symm
            have e9 : whenS ps p v most (i + 1) = (wT p v lo hi, true) := by rw [estep]; unfold whenStep; rw [hz', if_neg (by decide), hb, if_pos rfl]
            unfold betB hitB at hb
            simp only [Bool.and_eq_true] at hb
            obtain rfl : r113 = wT p v lo hi := cn_same eT (leB_num hb.1.1.1.1)
            refine W_if_true rfl ?_
            refine W_region ?_
            refine L_move rfl rfl ?_
            refine L_assign rfl rfl ?_
            refine L_assign rfl rfl ?_
            refine RL_nil' ?_
            refine Nx_block ?_
            refine Nx_then ?_
            refine W_region ?_
            first | refine L_add rfl rfl rfl (wrp_i64 (by omega)) ?_ | refine L_add rfl rfl rfl rfl ?_
            refine L_move rfl rfl ?_
            refine RL_nil' ?_
            refine Nx_set 10 (v' := .float .f64 (whenS ps p v most (i + 1)).1) rfl (by rw [e9]) ?_
            refine Nx_set 11 (v' := .bool (whenS ps p v most (i + 1)).2) rfl (by rw [e9]) ?_
            refine Nx_loopP (i + 1, _) (is := [0, 3, 5, 6, 10, 11, 38, 39, 40]) (I' := (fun (i : Nat) (w : World) => (i ≤ k) ∧ (HS w0 w [(b5, Row 25 [.float .f64 p.1, .float .f64 p.2]), (b6, Row 25 [.float .f64 v.1, .float .f64 v.2])])) (i + 1) (_)) rfl rfl rfl ?_ ?_
            ·
             exact ⟨hlt, HS.pop (HS.pop hs hb14) hb13⟩
            ·
             omega
         ·
          have hz' : eqB (wN v lo hi) 0 = true := (eqB_congr eN rfl).symm.trans hz
          refine W_if_true rfl ?_
          refine W_exit' ?_
          refine Ex_then_exit ?_
          refine Ex_block_hit ?_
          refine Nx_then ?_
          refine W_region ?_
          first | refine L_add rfl rfl rfl (wrp_i64 (by omega)) ?_ | refine L_add rfl rfl rfl rfl ?_
          refine L_move rfl rfl ?_
          refine RL_nil' ?_
          have e9 : whenS ps p v most (i + 1) = s := by rw [estep]; unfold whenStep; rw [hz', if_pos rfl]
          refine Nx_set 10 (v' := .float .f64 (whenS ps p v most (i + 1)).1) rfl (by rw [e9]) ?_
          refine Nx_set 11 (v' := .bool (whenS ps p v most (i + 1)).2) rfl (by rw [e9]) ?_
          refine Nx_loopP (i + 1, _) (is := [0, 3, 5, 6, 10, 11, 38, 39, 40]) (I' := (fun (i : Nat) (w : World) => (i ≤ k) ∧ (HS w0 w [(b5, Row 25 [.float .f64 p.1, .float .f64 p.2]), (b6, Row 25 [.float .f64 v.1, .float .f64 v.2])])) (i + 1) (_)) rfl rfl rfl ?_ ?_
          ·
           exact ⟨hlt, HS.pop (HS.pop hs hb14) hb13⟩
          ·
           omega
      ·
       obtain rfl : i = k := by omega
       have hn := whenS_num ps p v most i
       refine W_seq ?_
       refine W_region ?_
       first | refine L_lss rfl rfl rfl (dtrue (by omega)) ?_ | refine L_lss rfl rfl rfl (dfalse (by omega)) ?_ | refine L_lss rfl rfl rfl rfl ?_
       refine RL_then ?_
       refine W_seq ?_
       refine W_if_false rfl ?_
       refine W_exit' ?_
       refine Ex_then_exit ?_
       refine Ex_loop_exit ?_
       refine Ex_block_hit ?_
       refine Nx_then ?_
       refine W_seq ?_
       refine W_region ?_
       refine L_move rfl rfl ?_
       refine L_farith rfl (op := .add) rfl rfl rfl ?_
       intro r152 k152 hr152
       try replace hs := hs.drewN k152
       refine L_move rfl rfl ?_
       refine L_assign rfl rfl ?_
       refine L_assign rfl rfl ?_
       refine RL_then ?_
       refine W_ret' ?_
       refine Ex_done2 rfl rfl rfl ?_
       refine ⟨_, rfl, ?_, hs.forget ho2⟩
       rw [add0_val hn hr152]
       unfold whenF
       rw [if_neg (by rw [hm']; simp; omega), hin, if_neg (by decide), hk]
    ·
     refine W_if_true rfl ?_
     refine W_seq ?_
     refine W_region ?_
     refine L_assign rfl rfl ?_
     refine L_assign rfl rfl ?_
     refine RL_then ?_
     refine W_ret' ?_
     refine Ex_then_ret ?_
     refine Ex_done2 rfl rfl rfl ?_
     exact ⟨_, rfl, by unfold whenF; rw [if_neg (by rw [hm']; simp; omega), hin, if_pos rfl], hs.forget ho2⟩
end Go.Proofs.Ytoiobncojfeoiaa
