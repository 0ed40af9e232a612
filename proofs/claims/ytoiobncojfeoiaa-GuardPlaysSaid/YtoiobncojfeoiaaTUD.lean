/-
 A part of the proof: what functions that the statement reaches do, or a plain law on what they do. Each theorem holds under its own premises alone.
-/
import Derived.Test.YtoiobncojfeoiaaTUC
namespace Go.Proofs.Ytoiobncojfeoiaa
open Go Go.Lk
/-! ### The document's When -/
def whenR (ps : List Pt) (p v : Pt) (most : Nat) : Nat := if ps.length < 3 ∨ 64 < ps.length ∨ geB most 0 = false then 0 else if insF ps p.1 p.2 then 0 else if eqB (whenS ps p v most ps.length).1 0 then 0 else (whenS ps p v most ps.length).1
set_option maxHeartbeats 2000000 in
theorem rwhen_ok (a : Option Addr) (k c : Nat) (ps : List Pt) (p v : Pt) (most : Nat) (w0 : World) (hx : SlC w0 a (pcs ps)) (hk : ps.length = k) :
  Ret Try.prog 10 [.slice a k c, .agg #[.float .f64 p.1, .float .f64 p.2], .agg #[.float .f64 v.1, .float .f64 v.2], .float .f64 most] w0 fun r w' => r = .tuple #[.float .f64 (whenR ps p v most), .bool (whenF ps p v most).2] ∧ HS w0 w' [] := by
 refine Ret.start fun w hs => ?_
 refine calls_of_W Try.func10 rfl rfl rfl ?_
 refine W_seq ?_
 refine W_region ?_
 refine L_box rfl hs rfl ?_
 intro b5 w hb5 hnb5 hs
 try dsimp only [List.set_cons_succ, List.set_cons_zero, List.cons_append, List.nil_append] at hs
 refine L_box rfl hs rfl ?_
 intro b6 w hb6 hnb6 hs
 try dsimp only [List.set_cons_succ, List.set_cons_zero, List.cons_append, List.nil_append] at hs
 refine L_assign rfl rfl ?_
 refine L_assign rfl rfl ?_
 refine RL_then ?_
 refine W_seq ?_
 refine W_seq ?_
 refine W_region ?_
 replace hs : HS w0 w [(b5, Row 25 [.float .f64 p.1, .float .f64 p.2]), (b6, Row 25 [.float .f64 v.1, .float .f64 v.2])] := hs
 have ho2 : Own w0 [(b5, Row 25 [.float .f64 p.1, .float .f64 p.2]), (b6, Row 25 [.float .f64 v.1, .float .f64 v.2])] := Own.cons hb5 (Own.cons hb6 Own.nil)
 by_cases h3 : k < 3
 ·
  refine L_move rfl rfl ?_
  refine L_len rfl Try.underlying22 rfl ?_
  first | refine L_lss rfl rfl rfl (dtrue (by omega)) ?_ | refine L_lss rfl rfl rfl (dfalse (by omega)) ?_ | refine L_lss rfl rfl rfl rfl ?_
  refine L_move rfl rfl ?_
  first | (refine RL_want rfl rfl ?_; refine L_move rfl rfl ?_) | refine RL_skip rfl rfl rfl rfl ?_ | refine RL_skipU rfl rfl rfl ?_
  first | (refine RL_want rfl rfl ?_; refine L_len rfl Try.underlying22 rfl ?_) | refine RL_skip rfl rfl rfl rfl ?_ | refine RL_skipU rfl rfl rfl ?_
  first | (refine RL_want rfl rfl ?_; (first | refine L_gtr rfl rfl rfl (dtrue (by omega)) ?_ | refine L_gtr rfl rfl rfl (dfalse (by omega)) ?_ | refine L_gtr rfl rfl rfl rfl ?_)) | refine RL_skip rfl rfl rfl rfl ?_ | refine RL_skipU rfl rfl rfl ?_
  first | refine L_pick_t rfl rfl rfl ?_ | refine L_pick_f rfl rfl rfl ?_
  refine L_move rfl rfl ?_
  first | (refine RL_want rfl rfl ?_; refine L_move rfl rfl ?_) | refine RL_skip rfl rfl rfl rfl ?_ | refine RL_skipU rfl rfl rfl ?_
  first | (refine RL_want rfl rfl ?_; refine L_fcmp rfl rfl rfl (fun _ => by rw [binOp_float_cmp_geq]; rfl) ?_) | refine RL_skip rfl rfl rfl rfl ?_ | refine RL_skipU rfl rfl rfl ?_
  first | (refine RL_want rfl rfl ?_; refine L_not rfl rfl ?_) | refine RL_skip rfl rfl rfl rfl ?_ | refine RL_skipU rfl rfl rfl ?_
  first | refine L_pick_t rfl rfl rfl ?_ | refine L_pick_f rfl rfl rfl ?_
  refine RL_then ?_
  refine W_if_true rfl ?_
  refine W_seq ?_
  refine W_region ?_
  refine L_assign rfl rfl ?_
  refine L_assign rfl rfl ?_
  refine RL_then ?_
  refine W_ret' ?_
  refine Ex_then_ret ?_
  refine Ex_done2 rfl rfl rfl ?_
  exact ⟨_, rfl, by unfold whenR whenF; rw [if_pos (by omega), if_pos (by omega)], hs.forget ho2⟩
 ·
  by_cases h4 : 64 < k
  ·
   refine L_move rfl rfl ?_
   refine L_len rfl Try.underlying22 rfl ?_
   first | refine L_lss rfl rfl rfl (dtrue (by omega)) ?_ | refine L_lss rfl rfl rfl (dfalse (by omega)) ?_ | refine L_lss rfl rfl rfl rfl ?_
   refine L_move rfl rfl ?_
   first | (refine RL_want rfl rfl ?_; refine L_move rfl rfl ?_) | refine RL_skip rfl rfl rfl rfl ?_ | refine RL_skipU rfl rfl rfl ?_
   first | (refine RL_want rfl rfl ?_; refine L_len rfl Try.underlying22 rfl ?_) | refine RL_skip rfl rfl rfl rfl ?_ | refine RL_skipU rfl rfl rfl ?_
   first | (refine RL_want rfl rfl ?_; (first | refine L_gtr rfl rfl rfl (dtrue (by omega)) ?_ | refine L_gtr rfl rfl rfl (dfalse (by omega)) ?_ | refine L_gtr rfl rfl rfl rfl ?_)) | refine RL_skip rfl rfl rfl rfl ?_ | refine RL_skipU rfl rfl rfl ?_
   first | refine L_pick_t rfl rfl rfl ?_ | refine L_pick_f rfl rfl rfl ?_
   refine L_move rfl rfl ?_
   first | (refine RL_want rfl rfl ?_; refine L_move rfl rfl ?_) | refine RL_skip rfl rfl rfl rfl ?_ | refine RL_skipU rfl rfl rfl ?_
   first | (refine RL_want rfl rfl ?_; refine L_fcmp rfl rfl rfl (fun _ => by rw [binOp_float_cmp_geq]; rfl) ?_) | refine RL_skip rfl rfl rfl rfl ?_ | refine RL_skipU rfl rfl rfl ?_
   first | (refine RL_want rfl rfl ?_; refine L_not rfl rfl ?_) | refine RL_skip rfl rfl rfl rfl ?_ | refine RL_skipU rfl rfl rfl ?_
   first | refine L_pick_t rfl rfl rfl ?_ | refine L_pick_f rfl rfl rfl ?_
   refine RL_then ?_
   refine W_if_true rfl ?_
   refine W_seq ?_
   refine W_region ?_
   refine L_assign rfl rfl ?_
   refine L_assign rfl rfl ?_
   refine RL_then ?_
   refine W_ret' ?_
   refine Ex_then_ret ?_
   refine Ex_done2 rfl rfl rfl ?_
   exact ⟨_, rfl, by unfold whenR whenF; rw [if_pos (by omega), if_pos (by omega)], hs.forget ho2⟩
  ·
   cases hm : (FloatKind.f64.format.order most 0 == some .gt || FloatKind.f64.format.order most 0 == some .eq)
   ·
    have hm' : geB most 0 = false := hm
    refine L_move rfl rfl ?_
    refine L_len rfl Try.underlying22 rfl ?_
    first | refine L_lss rfl rfl rfl (dtrue (by omega)) ?_ | refine L_lss rfl rfl rfl (dfalse (by omega)) ?_ | refine L_lss rfl rfl rfl rfl ?_
    refine L_move rfl rfl ?_
    first | (refine RL_want rfl rfl ?_; refine L_move rfl rfl ?_) | refine RL_skip rfl rfl rfl rfl ?_ | refine RL_skipU rfl rfl rfl ?_
    first | (refine RL_want rfl rfl ?_; refine L_len rfl Try.underlying22 rfl ?_) | refine RL_skip rfl rfl rfl rfl ?_ | refine RL_skipU rfl rfl rfl ?_
    first | (refine RL_want rfl rfl ?_; (first | refine L_gtr rfl rfl rfl (dtrue (by omega)) ?_ | refine L_gtr rfl rfl rfl (dfalse (by omega)) ?_ | refine L_gtr rfl rfl rfl rfl ?_)) | refine RL_skip rfl rfl rfl rfl ?_ | refine RL_skipU rfl rfl rfl ?_
    first | refine L_pick_t rfl rfl rfl ?_ | refine L_pick_f rfl rfl rfl ?_
    refine L_move rfl rfl ?_
    first | (refine RL_want rfl rfl ?_; refine L_move rfl rfl ?_) | refine RL_skip rfl rfl rfl rfl ?_ | refine RL_skipU rfl rfl rfl ?_
    first | (refine RL_want rfl rfl ?_; refine L_fcmp rfl rfl rfl (fun _ => by rw [binOp_float_cmp_geq, hm]; rfl) ?_) | refine RL_skip rfl rfl rfl rfl ?_ | refine RL_skipU rfl rfl rfl ?_
    first | (refine RL_want rfl rfl ?_; refine L_not rfl rfl ?_) | refine RL_skip rfl rfl rfl rfl ?_ | refine RL_skipU rfl rfl rfl ?_
    first | refine L_pick_t rfl rfl rfl ?_ | refine L_pick_f rfl rfl rfl ?_
    refine RL_then ?_
    refine W_if_true rfl ?_
    refine W_seq ?_
    refine W_region ?_
    refine L_assign rfl rfl ?_
    refine L_assign rfl rfl ?_
    refine RL_then ?_
    refine W_ret' ?_
    refine Ex_then_ret ?_
    refine Ex_done2 rfl rfl rfl ?_
    exact ⟨_, rfl, by unfold whenR whenF; rw [if_pos (.inr (.inr hm')), if_pos (.inr (.inr hm'))], hs.forget ho2⟩
   ·
    have hm' : geB most 0 = true := hm
    have hao : a = some (aD a) := hx.ao (by rw [pcs_len]; omega)
    refine L_move rfl rfl ?_
    refine L_len rfl Try.underlying22 rfl ?_
    first | refine L_lss rfl rfl rfl (dtrue (by omega)) ?_ | refine L_lss rfl rfl rfl (dfalse (by omega)) ?_ | refine L_lss rfl rfl rfl rfl ?_
    refine L_move rfl rfl ?_
    first | (refine RL_want rfl rfl ?_; refine L_move rfl rfl ?_) | refine RL_skip rfl rfl rfl rfl ?_ | refine RL_skipU rfl rfl rfl ?_
    first | (refine RL_want rfl rfl ?_; refine L_len rfl Try.underlying22 rfl ?_) | refine RL_skip rfl rfl rfl rfl ?_ | refine RL_skipU rfl rfl rfl ?_
    first | (refine RL_want rfl rfl ?_; (first | refine L_gtr rfl rfl rfl (dtrue (by omega)) ?_ | refine L_gtr rfl rfl rfl (dfalse (by omega)) ?_ | refine L_gtr rfl rfl rfl rfl ?_)) | refine RL_skip rfl rfl rfl rfl ?_ | refine RL_skipU rfl rfl rfl ?_
    first | refine L_pick_t rfl rfl rfl ?_ | refine L_pick_f rfl rfl rfl ?_
    refine L_move rfl rfl ?_
    first | (refine RL_want rfl rfl ?_; refine L_move rfl rfl ?_) | refine RL_skip rfl rfl rfl rfl ?_ | refine RL_skipU rfl rfl rfl ?_
    first | (refine RL_want rfl rfl ?_; refine L_fcmp rfl rfl rfl (fun _ => by rw [binOp_float_cmp_geq, hm]; rfl) ?_) | refine RL_skip rfl rfl rfl rfl ?_ | refine RL_skipU rfl rfl rfl ?_
    first | (refine RL_want rfl rfl ?_; refine L_not rfl rfl ?_) | refine RL_skip rfl rfl rfl rfl ?_ | refine RL_skipU rfl rfl rfl ?_
    first | refine L_pick_t rfl rfl rfl ?_ | refine L_pick_f rfl rfl rfl ?_
    refine RL_then ?_
    refine W_if_false rfl ?_
    refine W_skip' ?_
    refine Nx_then ?_
    refine W_seq ?_
    refine W_region ?_
    refine L_move rfl rfl ?_
    refine L_loadA rfl Try.agg25 Try.ti25 rfl (by exact cellsAt2' (hs.get (i := 0) rfl) rfl rfl) ?_
    refine L_call rfl Try.fun31 rfl (rwithin_ok a k c ps p.1 p.2 w (hx.old hs ho2) hk) ?_
    rintro _ w ⟨rfl, hs'⟩
    replace hs := hs.nil hs'
    clear hs'
    refine L_assign rfl rfl ?_
    refine RL_then ?_
    refine W_seq ?_
    refine W_seq ?_
    refine W_region ?_
    refine L_move rfl rfl ?_
    refine RL_then ?_
    cases hin : insF ps p.1 p.2
    ·
     refine W_if_false rfl ?_
     refine W_skip' ?_
     refine Nx_then ?_
     refine W_seq ?_
     refine W_region ?_
     refine L_assign rfl rfl ?_
     refine RL_then ?_
     refine W_seq ?_
     refine W_region ?_
     refine L_assign rfl rfl ?_
     refine RL_then ?_
     refine W_seq ?_
     refine W_seq ?_
     refine W_region ?_
     refine L_assign rfl rfl ?_
     refine RL_then ?_
     refine W_block ?_
     refine W_loop2 (fun (i : Nat) (w : World) => [(0, .slice a k c), (3, .float .f64 most), (5, .pointer (some ⟨b5, 0, none⟩)), (6, .pointer (some ⟨b6, 0, none⟩)), (11, .float .f64 (whenS ps p v most i).1), (12, .bool (whenS ps p v most i).2), (13, .int .i64 i)]) (fun (i : Nat) (w : World) => w) (fun (i : Nat) (w : World) => (i ≤ k) ∧ (HS w0 w [(b5, Row 25 [.float .f64 p.1, .float .f64 p.2]), (b6, Row 25 [.float .f64 v.1, .float .f64 v.2])])) (fun (i : Nat) (w : World) => k - i) (0) (w) (is := [0, 3, 5, 6, 11, 12, 13]) rfl rfl ?_ ?_
     ·
      exact ⟨Nat.zero_le _, hs⟩
     ·
      clear hs
      intro i w hI
      show W _ _ _ _ [(0, .slice a k c), (3, .float .f64 most), (5, .pointer (some ⟨b5, 0, none⟩)), (6, .pointer (some ⟨b6, 0, none⟩)), (11, .float .f64 (whenS ps p v most i).1), (12, .bool (whenS ps p v most i).2), (13, .int .i64 i)] w
      obtain ⟨hi, hs⟩ := hI
      by_cases hlt : i < k
      ·
       have hmod : (i + 1) % k < k := Nat.mod_lt _ (by omega)
       obtain ⟨e, he⟩ : ∃ e, e = ps.getD i (0, 0) := ⟨_, rfl⟩
       obtain ⟨u, hu⟩ : ∃ u, u = ps.getD ((i + 1) % k) (0, 0) := ⟨_, rfl⟩
       have estep : whenS ps p v most (i + 1) = whenStep p v most (lowW e u) (highW e u) (whenS ps p v most i) := by
        rw [he, hu, ← hk]; rfl
       obtain ⟨s, hs0⟩ : ∃ s, s = whenS ps p v most i := ⟨_, rfl⟩
       rw [← hs0] at estep ⊢
       have hea : ∀ w', HS w0 w' [(b5, Row 25 [.float .f64 p.1, .float .f64 p.2]), (b6, Row 25 [.float .f64 v.1, .float .f64 v.2])] → CellsAt w' ((aD a).add (i * 2)) [.float .f64 e.1, .float .f64 e.2] := fun w' h => by rw [he]; exact pt_at (hx.old h ho2) (by omega)
       have hua : ∀ w', HS w0 w' [(b5, Row 25 [.float .f64 p.1, .float .f64 p.2]), (b6, Row 25 [.float .f64 v.1, .float .f64 v.2])] → CellsAt w' ((aD a).add ((i + 1) % k * 2)) [.float .f64 u.1, .float .f64 u.2] := fun w' h => by rw [hu]; exact pt_at (hx.old h ho2) (by omega)
       refine W_seq ?_
       refine W_seq ?_
       refine W_region ?_
       refine L_move rfl rfl ?_
       refine L_move rfl rfl ?_
       refine L_len rfl Try.underlying22 rfl ?_
       first | refine L_lss rfl rfl rfl (dtrue (by omega)) ?_ | refine L_lss rfl rfl rfl (dfalse (by omega)) ?_ | refine L_lss rfl rfl rfl rfl ?_
       refine RL_then ?_
       refine W_if_true rfl ?_
       refine W_skip' ?_
       refine Nx_then ?_
       refine W_seq ?_
       refine W_block ?_
       refine W_seq ?_
       refine W_region ?_
       refine L_move rfl rfl ?_
       refine L_move rfl rfl ?_
       refine L_idxN rfl Try.underlying22 Try.ti25 rfl rfl (by with_reducible first | exact natc_k _ | exact natc_a1 _ | exact natc_0 | exact natc_1 | exact natc_2 | exact natc_s1 _ (by omega) | exact natc_a2 _ | exact natc_add _ _ | exact natc_mul _ _ | exact natc (by omega)) (by omega) hao ?_
       refine L_loadA rfl Try.agg25 Try.ti25 rfl (by first | exact hea _ hs | exact hua _ (HS.pop hs hb14)) ?_
       refine L_alloc rfl hs Try.ti25 ?_; intro b14 w hb14 _ hs; replace hs := HS.push hs
       refine L_storeA hs (i := 0) rfl Try.ti25 rfl rfl (by first | rfl | exact add_lit0 _ _ | exact Addr.add_lit .. | (rw [add_add]; exact add_lit0 _ _)) (by simp) (by first | (simp; done) | simp [Value.oneCell']) ?_
       intro w hs
       try dsimp only [List.set_cons_succ, List.set_cons_zero, List.cons_append, List.nil_append] at hs
       refine RL_then ?_
       refine W_seq ?_
       refine W_region ?_
       refine L_move rfl rfl ?_
       refine L_move rfl rfl ?_
       first | refine L_add rfl rfl rfl (wrp_i64 (by omega)) ?_ | refine L_add rfl rfl rfl rfl ?_
       refine L_move rfl rfl ?_
       refine L_len rfl Try.underlying22 rfl ?_
       refine L_rem rfl rfl rfl (by omega) ?_
       refine L_idxN rfl Try.underlying22 Try.ti25 rfl rfl modI (by omega) hao ?_
       refine L_loadA rfl Try.agg25 Try.ti25 rfl (by first | exact hea _ hs | exact hua _ (HS.pop hs hb14)) ?_
       refine L_alloc rfl hs Try.ti25 ?_; intro b15 w hb15 _ hs; replace hs := HS.push hs
       refine L_storeA hs (i := 0) rfl Try.ti25 rfl rfl (by first | rfl | exact add_lit0 _ _ | exact Addr.add_lit .. | (rw [add_add]; exact add_lit0 _ _)) (by simp) (by first | (simp; done) | simp [Value.oneCell']) ?_
       intro w hs
       try dsimp only [List.set_cons_succ, List.set_cons_zero, List.cons_append, List.nil_append] at hs
       refine RL_then ?_
       refine W_seq ?_
       refine W_seq ?_
       replace hs : HS w0 w [(b15, Row 25 [.float .f64 u.1, .float .f64 u.2]), (b14, Row 25 [.float .f64 e.1, .float .f64 e.2]), (b5, Row 25 [.float .f64 p.1, .float .f64 p.2]), (b6, Row 25 [.float .f64 v.1, .float .f64 v.2])] := hs
       refine W_cut2 (fun (cnd : Bool) (w : World) => [(0, .slice a k c), (3, .float .f64 most), (5, .pointer (some ⟨b5, 0, none⟩)), (6, .pointer (some ⟨b6, 0, none⟩)), (11, .float .f64 s.1), (12, .bool s.2), (14, .pointer (some ⟨b14, 0, none⟩)), (15, .pointer (some ⟨b15, 0, none⟩)), (13, .int .i64 i), (77, .bool cnd)]) (fun (cnd : Bool) (w : World) => w) (fun (cnd : Bool) (w : World) => (cnd = swW e u) ∧ (HS w0 w [(b15, Row 25 [.float .f64 u.1, .float .f64 u.2]), (b14, Row 25 [.float .f64 e.1, .float .f64 e.2]), (b5, Row 25 [.float .f64 p.1, .float .f64 p.2]), (b6, Row 25 [.float .f64 v.1, .float .f64 v.2])])) ?_ ?_
       ·
        cases h1 : FloatKind.f64.format.order u.2 e.2 == some .lt
        ·
         have h1' : ltB u.2 e.2 = false := h1
         cases h2 : FloatKind.f64.format.order u.2 e.2 == some .eq
         ·
          have h2' : eqB u.2 e.2 = false := h2
          refine W_region ?_
          refine L_fieldAddr rfl (off := 1) Try.underlying25 rfl rfl Try.ti23 rfl ?_
          refine L_load rfl Try.one23 rfl (by first | exact hs.cell (i := 0) rfl rfl | exact hs.cell (i := 1) rfl rfl | exact hs.cell (i := 2) rfl rfl | exact hs.cell (i := 3) rfl rfl) ?_
          refine L_fieldAddr rfl (off := 1) Try.underlying25 rfl rfl Try.ti23 rfl ?_
          refine L_load rfl Try.one23 rfl (by first | exact hs.cell (i := 0) rfl rfl | exact hs.cell (i := 1) rfl rfl | exact hs.cell (i := 2) rfl rfl | exact hs.cell (i := 3) rfl rfl) ?_
          refine L_fcmp rfl rfl rfl (fun _ => by rw [binOp_float_cmp_lss, h1]; rfl) ?_
          refine L_move rfl rfl ?_
          first | (refine RL_want rfl rfl ?_; refine L_fieldAddr rfl (off := 1) Try.underlying25 rfl rfl Try.ti23 rfl ?_) | refine RL_skip rfl rfl rfl rfl ?_ | refine RL_skipU rfl rfl rfl ?_
          first | (refine RL_want rfl rfl ?_; refine L_load rfl Try.one23 rfl (by first | exact hs.cell (i := 0) rfl rfl | exact hs.cell (i := 1) rfl rfl | exact hs.cell (i := 2) rfl rfl | exact hs.cell (i := 3) rfl rfl) ?_) | refine RL_skip rfl rfl rfl rfl ?_ | refine RL_skipU rfl rfl rfl ?_
          first | (refine RL_want rfl rfl ?_; refine L_fieldAddr rfl (off := 1) Try.underlying25 rfl rfl Try.ti23 rfl ?_) | refine RL_skip rfl rfl rfl rfl ?_ | refine RL_skipU rfl rfl rfl ?_
          first | (refine RL_want rfl rfl ?_; refine L_load rfl Try.one23 rfl (by first | exact hs.cell (i := 0) rfl rfl | exact hs.cell (i := 1) rfl rfl | exact hs.cell (i := 2) rfl rfl | exact hs.cell (i := 3) rfl rfl) ?_) | refine RL_skip rfl rfl rfl rfl ?_ | refine RL_skipU rfl rfl rfl ?_
          first | (refine RL_want rfl rfl ?_; refine L_fcmp rfl rfl rfl (fun _ => by rw [binOp_float_cmp_eql, h2]; rfl) ?_) | refine RL_skip rfl rfl rfl rfl ?_ | refine RL_skipU rfl rfl rfl ?_
          first | (refine RL_want rfl rfl ?_; refine L_move rfl rfl ?_) | refine RL_skip rfl rfl rfl rfl ?_ | refine RL_skipU rfl rfl rfl ?_
          first | (refine RL_want rfl rfl ?_; refine L_fieldAddr rfl (off := 0) Try.underlying25 rfl rfl Try.ti23 rfl ?_) | refine RL_skip rfl rfl rfl rfl ?_ | refine RL_skipU rfl rfl rfl ?_
          first | (refine RL_want rfl rfl ?_; refine L_load rfl Try.one23 rfl (by first | exact hs.cell (i := 0) rfl rfl | exact hs.cell (i := 1) rfl rfl | exact hs.cell (i := 2) rfl rfl | exact hs.cell (i := 3) rfl rfl) ?_) | refine RL_skip rfl rfl rfl rfl ?_ | refine RL_skipU rfl rfl rfl ?_
          first | (refine RL_want rfl rfl ?_; refine L_fieldAddr rfl (off := 0) Try.underlying25 rfl rfl Try.ti23 rfl ?_) | refine RL_skip rfl rfl rfl rfl ?_ | refine RL_skipU rfl rfl rfl ?_
          first | (refine RL_want rfl rfl ?_; refine L_load rfl Try.one23 rfl (by first | exact hs.cell (i := 0) rfl rfl | exact hs.cell (i := 1) rfl rfl | exact hs.cell (i := 2) rfl rfl | exact hs.cell (i := 3) rfl rfl) ?_) | refine RL_skip rfl rfl rfl rfl ?_ | refine RL_skipU rfl rfl rfl ?_
          first | (refine RL_want rfl rfl ?_; refine L_fcmp rfl rfl rfl (fun _ => by rw [binOp_float_cmp_lss]; rfl) ?_) | refine RL_skip rfl rfl rfl rfl ?_ | refine RL_skipU rfl rfl rfl ?_
          first | (refine RL_want rfl rfl ?_; (first | refine L_pick_t rfl rfl rfl ?_ | refine L_pick_f rfl rfl rfl ?_)) | refine RL_skip rfl rfl rfl rfl ?_ | refine RL_skipU rfl rfl rfl ?_
          first | refine L_pick_t rfl rfl rfl ?_ | refine L_pick_f rfl rfl rfl ?_
          refine RL_nil' ?_
          refine Nx_cutP (false, _) (is := [0, 3, 5, 6, 11, 12, 14, 15, 13, 77]) (I' := (fun (cnd : Bool) (w : World) => (cnd = swW e u) ∧ (HS w0 w [(b15, Row 25 [.float .f64 u.1, .float .f64 u.2]), (b14, Row 25 [.float .f64 e.1, .float .f64 e.2]), (b5, Row 25 [.float .f64 p.1, .float .f64 p.2]), (b6, Row 25 [.float .f64 v.1, .float .f64 v.2])])) (false) (_)) rfl rfl rfl ?_
          exact ⟨by unfold swW; rw [h1', h2']; rfl, hs⟩
         ·
          have h2' : eqB u.2 e.2 = true := h2
          refine W_region ?_
          refine L_fieldAddr rfl (off := 1) Try.underlying25 rfl rfl Try.ti23 rfl ?_
          refine L_load rfl Try.one23 rfl (by first | exact hs.cell (i := 0) rfl rfl | exact hs.cell (i := 1) rfl rfl | exact hs.cell (i := 2) rfl rfl | exact hs.cell (i := 3) rfl rfl) ?_
          refine L_fieldAddr rfl (off := 1) Try.underlying25 rfl rfl Try.ti23 rfl ?_
          refine L_load rfl Try.one23 rfl (by first | exact hs.cell (i := 0) rfl rfl | exact hs.cell (i := 1) rfl rfl | exact hs.cell (i := 2) rfl rfl | exact hs.cell (i := 3) rfl rfl) ?_
          refine L_fcmp rfl rfl rfl (fun _ => by rw [binOp_float_cmp_lss, h1]; rfl) ?_
          refine L_move rfl rfl ?_
          first | (refine RL_want rfl rfl ?_; refine L_fieldAddr rfl (off := 1) Try.underlying25 rfl rfl Try.ti23 rfl ?_) | refine RL_skip rfl rfl rfl rfl ?_ | refine RL_skipU rfl rfl rfl ?_
          first | (refine RL_want rfl rfl ?_; refine L_load rfl Try.one23 rfl (by first | exact hs.cell (i := 0) rfl rfl | exact hs.cell (i := 1) rfl rfl | exact hs.cell (i := 2) rfl rfl | exact hs.cell (i := 3) rfl rfl) ?_) | refine RL_skip rfl rfl rfl rfl ?_ | refine RL_skipU rfl rfl rfl ?_
          first | (refine RL_want rfl rfl ?_; refine L_fieldAddr rfl (off := 1) Try.underlying25 rfl rfl Try.ti23 rfl ?_) | refine RL_skip rfl rfl rfl rfl ?_ | refine RL_skipU rfl rfl rfl ?_
          first | (refine RL_want rfl rfl ?_; refine L_load rfl Try.one23 rfl (by first | exact hs.cell (i := 0) rfl rfl | exact hs.cell (i := 1) rfl rfl | exact hs.cell (i := 2) rfl rfl | exact hs.cell (i := 3) rfl rfl) ?_) | refine RL_skip rfl rfl rfl rfl ?_ | refine RL_skipU rfl rfl rfl ?_
          first | (refine RL_want rfl rfl ?_; refine L_fcmp rfl rfl rfl (fun _ => by rw [binOp_float_cmp_eql, h2]; rfl) ?_) | refine RL_skip rfl rfl rfl rfl ?_ | refine RL_skipU rfl rfl rfl ?_
          first | (refine RL_want rfl rfl ?_; refine L_move rfl rfl ?_) | refine RL_skip rfl rfl rfl rfl ?_ | refine RL_skipU rfl rfl rfl ?_
          first | (refine RL_want rfl rfl ?_; refine L_fieldAddr rfl (off := 0) Try.underlying25 rfl rfl Try.ti23 rfl ?_) | refine RL_skip rfl rfl rfl rfl ?_ | refine RL_skipU rfl rfl rfl ?_
          first | (refine RL_want rfl rfl ?_; refine L_load rfl Try.one23 rfl (by first | exact hs.cell (i := 0) rfl rfl | exact hs.cell (i := 1) rfl rfl | exact hs.cell (i := 2) rfl rfl | exact hs.cell (i := 3) rfl rfl) ?_) | refine RL_skip rfl rfl rfl rfl ?_ | refine RL_skipU rfl rfl rfl ?_
          first | (refine RL_want rfl rfl ?_; refine L_fieldAddr rfl (off := 0) Try.underlying25 rfl rfl Try.ti23 rfl ?_) | refine RL_skip rfl rfl rfl rfl ?_ | refine RL_skipU rfl rfl rfl ?_
          first | (refine RL_want rfl rfl ?_; refine L_load rfl Try.one23 rfl (by first | exact hs.cell (i := 0) rfl rfl | exact hs.cell (i := 1) rfl rfl | exact hs.cell (i := 2) rfl rfl | exact hs.cell (i := 3) rfl rfl) ?_) | refine RL_skip rfl rfl rfl rfl ?_ | refine RL_skipU rfl rfl rfl ?_
          first | (refine RL_want rfl rfl ?_; refine L_fcmp rfl rfl rfl (fun _ => by rw [binOp_float_cmp_lss]; rfl) ?_) | refine RL_skip rfl rfl rfl rfl ?_ | refine RL_skipU rfl rfl rfl ?_
          first | (refine RL_want rfl rfl ?_; (first | refine L_pick_t rfl rfl rfl ?_ | refine L_pick_f rfl rfl rfl ?_)) | refine RL_skip rfl rfl rfl rfl ?_ | refine RL_skipU rfl rfl rfl ?_
          first | refine L_pick_t rfl rfl rfl ?_ | refine L_pick_f rfl rfl rfl ?_
          refine RL_nil' ?_
          refine Nx_cutP (ltB u.1 e.1, _) (is := [0, 3, 5, 6, 11, 12, 14, 15, 13, 77]) (I' := (fun (cnd : Bool) (w : World) => (cnd = swW e u) ∧ (HS w0 w [(b15, Row 25 [.float .f64 u.1, .float .f64 u.2]), (b14, Row 25 [.float .f64 e.1, .float .f64 e.2]), (b5, Row 25 [.float .f64 p.1, .float .f64 p.2]), (b6, Row 25 [.float .f64 v.1, .float .f64 v.2])])) (ltB u.1 e.1) (_)) rfl rfl rfl ?_
          exact ⟨by unfold swW; rw [h1', h2']; rfl, hs⟩
        ·
         have h1' : ltB u.2 e.2 = true := h1
         refine W_region ?_
         refine L_fieldAddr rfl (off := 1) Try.underlying25 rfl rfl Try.ti23 rfl ?_
         refine L_load rfl Try.one23 rfl (by first | exact hs.cell (i := 0) rfl rfl | exact hs.cell (i := 1) rfl rfl | exact hs.cell (i := 2) rfl rfl | exact hs.cell (i := 3) rfl rfl) ?_
         refine L_fieldAddr rfl (off := 1) Try.underlying25 rfl rfl Try.ti23 rfl ?_
         refine L_load rfl Try.one23 rfl (by first | exact hs.cell (i := 0) rfl rfl | exact hs.cell (i := 1) rfl rfl | exact hs.cell (i := 2) rfl rfl | exact hs.cell (i := 3) rfl rfl) ?_
         refine L_fcmp rfl rfl rfl (fun _ => by rw [binOp_float_cmp_lss, h1]; rfl) ?_
         refine L_move rfl rfl ?_
         first | (refine RL_want rfl rfl ?_; refine L_fieldAddr rfl (off := 1) Try.underlying25 rfl rfl Try.ti23 rfl ?_) | refine RL_skip rfl rfl rfl rfl ?_ | refine RL_skipU rfl rfl rfl ?_
         first | (refine RL_want rfl rfl ?_; refine L_load rfl Try.one23 rfl (by first | exact hs.cell (i := 0) rfl rfl | exact hs.cell (i := 1) rfl rfl | exact hs.cell (i := 2) rfl rfl | exact hs.cell (i := 3) rfl rfl) ?_) | refine RL_skip rfl rfl rfl rfl ?_ | refine RL_skipU rfl rfl rfl ?_
         first | (refine RL_want rfl rfl ?_; refine L_fieldAddr rfl (off := 1) Try.underlying25 rfl rfl Try.ti23 rfl ?_) | refine RL_skip rfl rfl rfl rfl ?_ | refine RL_skipU rfl rfl rfl ?_
         first | (refine RL_want rfl rfl ?_; refine L_load rfl Try.one23 rfl (by first | exact hs.cell (i := 0) rfl rfl | exact hs.cell (i := 1) rfl rfl | exact hs.cell (i := 2) rfl rfl | exact hs.cell (i := 3) rfl rfl) ?_) | refine RL_skip rfl rfl rfl rfl ?_ | refine RL_skipU rfl rfl rfl ?_
         first | (refine RL_want rfl rfl ?_; refine L_fcmp rfl rfl rfl (fun _ => by rw [binOp_float_cmp_eql, h2]; rfl) ?_) | refine RL_skip rfl rfl rfl rfl ?_ | refine RL_skipU rfl rfl rfl ?_
         first | (refine RL_want rfl rfl ?_; refine L_move rfl rfl ?_) | refine RL_skip rfl rfl rfl rfl ?_ | refine RL_skipU rfl rfl rfl ?_
         first | (refine RL_want rfl rfl ?_; refine L_fieldAddr rfl (off := 0) Try.underlying25 rfl rfl Try.ti23 rfl ?_) | refine RL_skip rfl rfl rfl rfl ?_ | refine RL_skipU rfl rfl rfl ?_
         first | (refine RL_want rfl rfl ?_; refine L_load rfl Try.one23 rfl (by first | exact hs.cell (i := 0) rfl rfl | exact hs.cell (i := 1) rfl rfl | exact hs.cell (i := 2) rfl rfl | exact hs.cell (i := 3) rfl rfl) ?_) | refine RL_skip rfl rfl rfl rfl ?_ | refine RL_skipU rfl rfl rfl ?_
         first | (refine RL_want rfl rfl ?_; refine L_fieldAddr rfl (off := 0) Try.underlying25 rfl rfl Try.ti23 rfl ?_) | refine RL_skip rfl rfl rfl rfl ?_ | refine RL_skipU rfl rfl rfl ?_
         first | (refine RL_want rfl rfl ?_; refine L_load rfl Try.one23 rfl (by first | exact hs.cell (i := 0) rfl rfl | exact hs.cell (i := 1) rfl rfl | exact hs.cell (i := 2) rfl rfl | exact hs.cell (i := 3) rfl rfl) ?_) | refine RL_skip rfl rfl rfl rfl ?_ | refine RL_skipU rfl rfl rfl ?_
         first | (refine RL_want rfl rfl ?_; refine L_fcmp rfl rfl rfl (fun _ => by rw [binOp_float_cmp_lss]; rfl) ?_) | refine RL_skip rfl rfl rfl rfl ?_ | refine RL_skipU rfl rfl rfl ?_
         first | (refine RL_want rfl rfl ?_; (first | refine L_pick_t rfl rfl rfl ?_ | refine L_pick_f rfl rfl rfl ?_)) | refine RL_skip rfl rfl rfl rfl ?_ | refine RL_skipU rfl rfl rfl ?_
         first | refine L_pick_t rfl rfl rfl ?_ | refine L_pick_f rfl rfl rfl ?_
         refine RL_nil' ?_
         refine Nx_cutP (true, _) (is := [0, 3, 5, 6, 11, 12, 14, 15, 13, 77]) (I' := (fun (cnd : Bool) (w : World) => (cnd = swW e u) ∧ (HS w0 w [(b15, Row 25 [.float .f64 u.1, .float .f64 u.2]), (b14, Row 25 [.float .f64 e.1, .float .f64 e.2]), (b5, Row 25 [.float .f64 p.1, .float .f64 p.2]), (b6, Row 25 [.float .f64 v.1, .float .f64 v.2])])) (true) (_)) rfl rfl rfl ?_
         exact ⟨by unfold swW; rw [h1']; rfl, hs⟩
       ·
        clear hs
        intro cnd w hI
        show W _ _ _ _ [(0, .slice a k c), (3, .float .f64 most), (5, .pointer (some ⟨b5, 0, none⟩)), (6, .pointer (some ⟨b6, 0, none⟩)), (11, .float .f64 s.1), (12, .bool s.2), (14, .pointer (some ⟨b14, 0, none⟩)), (15, .pointer (some ⟨b15, 0, none⟩)), (13, .int .i64 i), (77, .bool cnd)] w
        obtain ⟨hcnd, hs⟩ := hI
        refine W_cut3 (fun (lo : Pt) (hi : Pt) (w : World) => [(0, .slice a k c), (3, .float .f64 most), (5, .pointer (some ⟨b5, 0, none⟩)), (6, .pointer (some ⟨b6, 0, none⟩)), (11, .float .f64 s.1), (12, .bool s.2), (14, .pointer (some ⟨b14, 0, none⟩)), (15, .pointer (some ⟨b15, 0, none⟩)), (13, .int .i64 i)]) (fun (lo : Pt) (hi : Pt) (w : World) => w) (fun (lo : Pt) (hi : Pt) (w : World) => (lo = lowW e u) ∧ (hi = highW e u) ∧ (HS w0 w [(b15, Row 25 [.float .f64 hi.1, .float .f64 hi.2]), (b14, Row 25 [.float .f64 lo.1, .float .f64 lo.2]), (b5, Row 25 [.float .f64 p.1, .float .f64 p.2]), (b6, Row 25 [.float .f64 v.1, .float .f64 v.2])])) ?_ ?_
        ·
         cases cnd
         ·
          refine W_if_false rfl ?_
          refine W_skip' ?_
          refine Nx_cutP (e, u, _) (is := [0, 3, 5, 6, 11, 12, 14, 15, 13]) (I' := (fun (lo : Pt) (hi : Pt) (w : World) => (lo = lowW e u) ∧ (hi = highW e u) ∧ (HS w0 w [(b15, Row 25 [.float .f64 hi.1, .float .f64 hi.2]), (b14, Row 25 [.float .f64 lo.1, .float .f64 lo.2]), (b5, Row 25 [.float .f64 p.1, .float .f64 p.2]), (b6, Row 25 [.float .f64 v.1, .float .f64 v.2])])) (e) (u) (_)) rfl rfl rfl ?_
          exact ⟨by simp [lowW, ← hcnd], by simp [highW, ← hcnd], hs⟩
         ·
          skip
          refine W_if_true rfl ?_
          refine W_seq ?_
          refine W_region ?_
          refine L_loadA rfl Try.agg25 Try.ti25 rfl (by first | exact cellsAt2' (hs.get (i := 1) rfl) rfl rfl | exact cellsAt2' (hs.get (i := 2) rfl) rfl rfl | exact cellsAt2' (hs.get (i := 0) rfl) rfl rfl) ?_
          refine L_alloc rfl hs Try.ti25 ?_; intro b16 w hb16 _ hs; replace hs := HS.push hs
          first | (refine L_storeA hs (i := 0) rfl Try.ti25 rfl rfl (by first | rfl | exact add_lit0 _ _ | exact Addr.add_lit .. | (rw [add_add]; exact add_lit0 _ _)) (by simp) (by first | (simp; done) | simp [Value.oneCell']) ?_; intro w hs; try dsimp only [List.set_cons_succ, List.set_cons_zero, List.cons_append, List.nil_append] at hs) | (refine L_storeA hs (i := 1) rfl Try.ti25 rfl rfl (by first | rfl | exact add_lit0 _ _ | exact Addr.add_lit .. | (rw [add_add]; exact add_lit0 _ _)) (by simp) (by first | (simp; done) | simp [Value.oneCell']) ?_; intro w hs; try dsimp only [List.set_cons_succ, List.set_cons_zero, List.cons_append, List.nil_append] at hs) | (refine L_storeA hs (i := 2) rfl Try.ti25 rfl rfl (by first | rfl | exact add_lit0 _ _ | exact Addr.add_lit .. | (rw [add_add]; exact add_lit0 _ _)) (by simp) (by first | (simp; done) | simp [Value.oneCell']) ?_; intro w hs; try dsimp only [List.set_cons_succ, List.set_cons_zero, List.cons_append, List.nil_append] at hs)
          refine RL_then ?_
          refine W_seq ?_
          refine W_region ?_
          refine L_loadA rfl Try.agg25 Try.ti25 rfl (by first | exact cellsAt2' (hs.get (i := 1) rfl) rfl rfl | exact cellsAt2' (hs.get (i := 2) rfl) rfl rfl | exact cellsAt2' (hs.get (i := 0) rfl) rfl rfl) ?_
          first | (refine L_storeA hs (i := 0) rfl Try.ti25 rfl rfl (by first | rfl | exact add_lit0 _ _ | exact Addr.add_lit .. | (rw [add_add]; exact add_lit0 _ _)) (by simp) (by first | (simp; done) | simp [Value.oneCell']) ?_; intro w hs; try dsimp only [List.set_cons_succ, List.set_cons_zero, List.cons_append, List.nil_append] at hs) | (refine L_storeA hs (i := 1) rfl Try.ti25 rfl rfl (by first | rfl | exact add_lit0 _ _ | exact Addr.add_lit .. | (rw [add_add]; exact add_lit0 _ _)) (by simp) (by first | (simp; done) | simp [Value.oneCell']) ?_; intro w hs; try dsimp only [List.set_cons_succ, List.set_cons_zero, List.cons_append, List.nil_append] at hs) | (refine L_storeA hs (i := 2) rfl Try.ti25 rfl rfl (by first | rfl | exact add_lit0 _ _ | exact Addr.add_lit .. | (rw [add_add]; exact add_lit0 _ _)) (by simp) (by first | (simp; done) | simp [Value.oneCell']) ?_; intro w hs; try dsimp only [List.set_cons_succ, List.set_cons_zero, List.cons_append, List.nil_append] at hs)
          refine RL_then ?_
          refine W_region ?_
          refine L_loadA rfl Try.agg25 Try.ti25 rfl (by first | exact cellsAt2' (hs.get (i := 1) rfl) rfl rfl | exact cellsAt2' (hs.get (i := 2) rfl) rfl rfl | exact cellsAt2' (hs.get (i := 0) rfl) rfl rfl) ?_
          first | (refine L_storeA hs (i := 0) rfl Try.ti25 rfl rfl (by first | rfl | exact add_lit0 _ _ | exact Addr.add_lit .. | (rw [add_add]; exact add_lit0 _ _)) (by simp) (by first | (simp; done) | simp [Value.oneCell']) ?_; intro w hs; try dsimp only [List.set_cons_succ, List.set_cons_zero, List.cons_append, List.nil_append] at hs) | (refine L_storeA hs (i := 1) rfl Try.ti25 rfl rfl (by first | rfl | exact add_lit0 _ _ | exact Addr.add_lit .. | (rw [add_add]; exact add_lit0 _ _)) (by simp) (by first | (simp; done) | simp [Value.oneCell']) ?_; intro w hs; try dsimp only [List.set_cons_succ, List.set_cons_zero, List.cons_append, List.nil_append] at hs) | (refine L_storeA hs (i := 2) rfl Try.ti25 rfl rfl (by first | rfl | exact add_lit0 _ _ | exact Addr.add_lit .. | (rw [add_add]; exact add_lit0 _ _)) (by simp) (by first | (simp; done) | simp [Value.oneCell']) ?_; intro w hs; try dsimp only [List.set_cons_succ, List.set_cons_zero, List.cons_append, List.nil_append] at hs)
          refine RL_nil' ?_
          refine Nx_cutP (u, e, _) (is := [0, 3, 5, 6, 11, 12, 14, 15, 13]) (I' := (fun (lo : Pt) (hi : Pt) (w : World) => (lo = lowW e u) ∧ (hi = highW e u) ∧ (HS w0 w [(b15, Row 25 [.float .f64 hi.1, .float .f64 hi.2]), (b14, Row 25 [.float .f64 lo.1, .float .f64 lo.2]), (b5, Row 25 [.float .f64 p.1, .float .f64 p.2]), (b6, Row 25 [.float .f64 v.1, .float .f64 v.2])])) (u) (e) (_)) rfl rfl rfl ?_
          exact ⟨by simp [lowW, ← hcnd], by simp [highW, ← hcnd], HS.pop hs hb16⟩
        ·
         clear hs
         intro lo hi w hI
         show W _ _ _ _ [(0, .slice a k c), (3, .float .f64 most), (5, .pointer (some ⟨b5, 0, none⟩)), (6, .pointer (some ⟨b6, 0, none⟩)), (11, .float .f64 s.1), (12, .bool s.2), (14, .pointer (some ⟨b14, 0, none⟩)), (15, .pointer (some ⟨b15, 0, none⟩)), (13, .int .i64 i)] w
         obtain ⟨hlo, hhi, hs⟩ := hI
         rw [← hlo, ← hhi] at estep
         refine W_seq ?_
         refine W_region ?_
         refine L_fieldAddr rfl (off := 0) Try.underlying25 rfl rfl Try.ti23 rfl ?_
         refine L_load rfl Try.one23 rfl (by first | exact hs.cell (i := 0) rfl rfl | exact hs.cell (i := 1) rfl rfl | exact hs.cell (i := 2) rfl rfl | exact hs.cell (i := 3) rfl rfl) ?_
         refine L_fieldAddr rfl (off := 0) Try.underlying25 rfl rfl Try.ti23 rfl ?_
         refine L_load rfl Try.one23 rfl (by first | exact hs.cell (i := 0) rfl rfl | exact hs.cell (i := 1) rfl rfl | exact hs.cell (i := 2) rfl rfl | exact hs.cell (i := 3) rfl rfl) ?_
         refine L_farith rfl (op := .sub) rfl rfl rfl ?_
         intro r85 k85 hr85
         try replace hs := hs.drewN k85
         refine L_assign rfl rfl ?_
         refine RL_then ?_
         refine W_seq ?_
         refine W_region ?_
         refine L_fieldAddr rfl (off := 1) Try.underlying25 rfl rfl Try.ti23 rfl ?_
         refine L_load rfl Try.one23 rfl (by first | exact hs.cell (i := 0) rfl rfl | exact hs.cell (i := 1) rfl rfl | exact hs.cell (i := 2) rfl rfl | exact hs.cell (i := 3) rfl rfl) ?_
         refine L_fieldAddr rfl (off := 1) Try.underlying25 rfl rfl Try.ti23 rfl ?_
         refine L_load rfl Try.one23 rfl (by first | exact hs.cell (i := 0) rfl rfl | exact hs.cell (i := 1) rfl rfl | exact hs.cell (i := 2) rfl rfl | exact hs.cell (i := 3) rfl rfl) ?_
         refine L_farith rfl (op := .sub) rfl rfl rfl ?_
         intro r90 k90 hr90
         try replace hs := hs.drewN k90
         refine L_assign rfl rfl ?_
         refine RL_then ?_
         refine W_seq ?_
         refine W_region ?_
         refine L_fieldAddr rfl (off := 0) Try.underlying25 rfl rfl Try.ti23 rfl ?_
         refine L_load rfl Try.one23 rfl (by first | exact hs.cell (i := 0) rfl rfl | exact hs.cell (i := 1) rfl rfl | exact hs.cell (i := 2) rfl rfl | exact hs.cell (i := 3) rfl rfl) ?_
         refine L_fieldAddr rfl (off := 0) Try.underlying25 rfl rfl Try.ti23 rfl ?_
         refine L_load rfl Try.one23 rfl (by first | exact hs.cell (i := 0) rfl rfl | exact hs.cell (i := 1) rfl rfl | exact hs.cell (i := 2) rfl rfl | exact hs.cell (i := 3) rfl rfl) ?_
         refine L_farith rfl (op := .sub) rfl rfl rfl ?_
         intro r95 k95 hr95
         try replace hs := hs.drewN k95
         refine L_assign rfl rfl ?_
         refine RL_then ?_
         refine W_seq ?_
         refine W_region ?_
         refine L_fieldAddr rfl (off := 1) Try.underlying25 rfl rfl Try.ti23 rfl ?_
         refine L_load rfl Try.one23 rfl (by first | exact hs.cell (i := 0) rfl rfl | exact hs.cell (i := 1) rfl rfl | exact hs.cell (i := 2) rfl rfl | exact hs.cell (i := 3) rfl rfl) ?_
         refine L_fieldAddr rfl (off := 1) Try.underlying25 rfl rfl Try.ti23 rfl ?_
         refine L_load rfl Try.one23 rfl (by first | exact hs.cell (i := 0) rfl rfl | exact hs.cell (i := 1) rfl rfl | exact hs.cell (i := 2) rfl rfl | exact hs.cell (i := 3) rfl rfl) ?_
         refine L_farith rfl (op := .sub) rfl rfl rfl ?_
         intro r100 k100 hr100
         try replace hs := hs.drewN k100
         refine L_assign rfl rfl ?_
         refine RL_then ?_
         refine W_seq ?_
         refine W_region ?_
         refine L_fieldAddr rfl (off := 0) Try.underlying25 rfl rfl Try.ti23 rfl ?_
         refine L_load rfl Try.one23 rfl (by first | exact hs.cell (i := 0) rfl rfl | exact hs.cell (i := 1) rfl rfl | exact hs.cell (i := 2) rfl rfl | exact hs.cell (i := 3) rfl rfl) ?_
         refine L_move rfl rfl ?_
         refine L_farith rfl (op := .mul) rfl rfl rfl ?_
         intro r104 k104 hr104
         try replace hs := hs.drewN k104
         refine L_fieldAddr rfl (off := 1) Try.underlying25 rfl rfl Try.ti23 rfl ?_
         refine L_load rfl Try.one23 rfl (by first | exact hs.cell (i := 0) rfl rfl | exact hs.cell (i := 1) rfl rfl | exact hs.cell (i := 2) rfl rfl | exact hs.cell (i := 3) rfl rfl) ?_
         refine L_move rfl rfl ?_
         refine L_farith rfl (op := .mul) rfl rfl rfl ?_
         intro r108 k108 hr108
         try replace hs := hs.drewN k108
         refine L_farith rfl (op := .sub) rfl rfl rfl ?_
         intro r109 k109 hr109
         try replace hs := hs.drewN k109
         refine L_assign rfl rfl ?_
         refine RL_then ?_
         refine W_seq ?_
         refine W_seq ?_
         refine W_region ?_
         refine L_move rfl rfl ?_
         refine L_fcmp rfl rfl rfl (fun _ => by rw [binOp_float_cmp_eql]; rfl) ?_
         refine RL_then ?_
         have eN : cn r109 = cn (wN v lo hi) := Fs.of hr109 (Fs.of hr104 rfl (Fs.of hr90 rfl rfl)) (Fs.of hr108 rfl (Fs.of hr85 rfl rfl))
         cases hz : FloatKind.f64.format.order r109 0 == some .eq
         ·
          have hz' : eqB (wN v lo hi) 0 = false := (eqB_congr eN rfl).symm.trans hz
          refine W_if_false rfl ?_
          refine W_skip' ?_
          refine Nx_then ?_
          refine W_seq ?_
          refine W_region ?_
          refine L_move rfl rfl ?_
          refine L_move rfl rfl ?_
          refine L_farith rfl (op := .mul) rfl rfl rfl ?_
          intro r114 k114 hr114
          try replace hs := hs.drewN k114
          refine L_move rfl rfl ?_
          refine L_move rfl rfl ?_
          refine L_farith rfl (op := .mul) rfl rfl rfl ?_
          intro r117 k117 hr117
          try replace hs := hs.drewN k117
          refine L_farith rfl (op := .sub) rfl rfl rfl ?_
          intro r118 k118 hr118
          try replace hs := hs.drewN k118
          refine L_move rfl rfl ?_
          refine L_farith rfl (op := .quo) rfl rfl rfl ?_
          intro r120 k120 hr120
          try replace hs := hs.drewN k120
          refine L_assign rfl rfl ?_
          refine RL_then ?_
          refine W_seq ?_
          refine W_region ?_
          refine L_move rfl rfl ?_
          refine L_fieldAddr rfl (off := 1) Try.underlying25 rfl rfl Try.ti23 rfl ?_
          refine L_load rfl Try.one23 rfl (by first | exact hs.cell (i := 0) rfl rfl | exact hs.cell (i := 1) rfl rfl | exact hs.cell (i := 2) rfl rfl | exact hs.cell (i := 3) rfl rfl) ?_
          refine L_farith rfl (op := .mul) rfl rfl rfl ?_
          intro r124 k124 hr124
          try replace hs := hs.drewN k124
          refine L_move rfl rfl ?_
          refine L_fieldAddr rfl (off := 0) Try.underlying25 rfl rfl Try.ti23 rfl ?_
          refine L_load rfl Try.one23 rfl (by first | exact hs.cell (i := 0) rfl rfl | exact hs.cell (i := 1) rfl rfl | exact hs.cell (i := 2) rfl rfl | exact hs.cell (i := 3) rfl rfl) ?_
          refine L_farith rfl (op := .mul) rfl rfl rfl ?_
          intro r128 k128 hr128
          try replace hs := hs.drewN k128
          refine L_farith rfl (op := .sub) rfl rfl rfl ?_
          intro r129 k129 hr129
          try replace hs := hs.drewN k129
          refine L_move rfl rfl ?_
          refine L_farith rfl (op := .quo) rfl rfl rfl ?_
          intro r131 k131 hr131
          try replace hs := hs.drewN k131
          refine L_assign rfl rfl ?_
          refine RL_then ?_
          refine W_seq ?_
          have eT : cn r120 = cn (wT p v lo hi) := Fs.of hr120 (Fs.of hr118 (Fs.of hr114 (Fs.of hr95 rfl rfl) (Fs.of hr90 rfl rfl)) (Fs.of hr117 (Fs.of hr100 rfl rfl) (Fs.of hr85 rfl rfl))) eN
          have eU : cn r131 = cn (wU p v lo hi) := Fs.of hr131 (Fs.of hr129 (Fs.of hr124 (Fs.of hr95 rfl rfl) rfl) (Fs.of hr128 (Fs.of hr100 rfl rfl) rfl)) eN
          have g1 : leB 0 (wT p v lo hi) = leB 0 r120 := (leB_congr rfl eT).symm
          have g2 : leB (wT p v lo hi) most = leB r120 most := (leB_congr eT rfl).symm
          have g3 : leB 0 (wU p v lo hi) = leB 0 r131 := (leB_congr rfl eU).symm
          have g4 : leB (wU p v lo hi) 4607182418800017408 = leB r131 4607182418800017408 := (leB_congr eU rfl).symm
          have g5 : ltB (wT p v lo hi) s.1 = ltB r120 s.1 := (ltB_congr eT rfl).symm
          refine W_cut2 (fun (cnd : Bool) (w : World) => [(0, .slice a k c), (3, .float .f64 most), (5, .pointer (some ⟨b5, 0, none⟩)), (6, .pointer (some ⟨b6, 0, none⟩)), (11, .float .f64 s.1), (12, .bool s.2), (22, .float .f64 r120), (13, .int .i64 i), (155, .bool cnd)]) (fun (cnd : Bool) (w : World) => w) (fun (cnd : Bool) (w : World) => (cnd = betB p v most lo hi s) ∧ (HS w0 w [(b15, Row 25 [.float .f64 hi.1, .float .f64 hi.2]), (b14, Row 25 [.float .f64 lo.1, .float .f64 lo.2]), (b5, Row 25 [.float .f64 p.1, .float .f64 p.2]), (b6, Row 25 [.float .f64 v.1, .float .f64 v.2])])) ?_ ?_
          ·
           cases h1 : FloatKind.f64.format.order 0 r120 == some .lt || FloatKind.f64.format.order 0 r120 == some .eq
           ·
            skip
            refine W_region ?_
            refine L_move rfl rfl ?_
            refine L_fcmp rfl rfl rfl (fun _ => by rw [binOp_float_cmp_leq, h1]; rfl) ?_
            refine L_move rfl rfl ?_
            first | (refine RL_want rfl rfl ?_; refine L_move rfl rfl ?_) | refine RL_skip rfl rfl rfl rfl ?_ | refine RL_skipU rfl rfl rfl ?_
            first | (refine RL_want rfl rfl ?_; refine L_move rfl rfl ?_) | refine RL_skip rfl rfl rfl rfl ?_ | refine RL_skipU rfl rfl rfl ?_
            first | (refine RL_want rfl rfl ?_; refine L_fcmp rfl rfl rfl (fun _ => by rw [binOp_float_cmp_leq]; rfl) ?_) | refine RL_skip rfl rfl rfl rfl ?_ | refine RL_skipU rfl rfl rfl ?_
            first | refine L_pick_t rfl rfl rfl ?_ | refine L_pick_f rfl rfl rfl ?_
            refine L_move rfl rfl ?_
            first | (refine RL_want rfl rfl ?_; refine L_move rfl rfl ?_) | refine RL_skip rfl rfl rfl rfl ?_ | refine RL_skipU rfl rfl rfl ?_
            first | (refine RL_want rfl rfl ?_; refine L_fcmp rfl rfl rfl (fun _ => by rw [binOp_float_cmp_leq]; rfl) ?_) | refine RL_skip rfl rfl rfl rfl ?_ | refine RL_skipU rfl rfl rfl ?_
            first | refine L_pick_t rfl rfl rfl ?_ | refine L_pick_f rfl rfl rfl ?_
            refine L_move rfl rfl ?_
            first | (refine RL_want rfl rfl ?_; refine L_move rfl rfl ?_) | refine RL_skip rfl rfl rfl rfl ?_ | refine RL_skipU rfl rfl rfl ?_
            first | (refine RL_want rfl rfl ?_; refine L_fcmp rfl rfl rfl (fun _ => by rw [binOp_float_cmp_leq]; rfl) ?_) | refine RL_skip rfl rfl rfl rfl ?_ | refine RL_skipU rfl rfl rfl ?_
            first | refine L_pick_t rfl rfl rfl ?_ | refine L_pick_f rfl rfl rfl ?_
            refine L_move rfl rfl ?_
            first | (refine RL_want rfl rfl ?_; refine L_move rfl rfl ?_) | refine RL_skip rfl rfl rfl rfl ?_ | refine RL_skipU rfl rfl rfl ?_
            first | (refine RL_want rfl rfl ?_; refine L_not rfl rfl ?_) | refine RL_skip rfl rfl rfl rfl ?_ | refine RL_skipU rfl rfl rfl ?_
            first | (refine RL_want rfl rfl ?_; refine L_move rfl rfl ?_) | refine RL_skip rfl rfl rfl rfl ?_ | refine RL_skipU rfl rfl rfl ?_
            first | (refine RL_want rfl rfl ?_; refine L_move rfl rfl ?_) | refine RL_skip rfl rfl rfl rfl ?_ | refine RL_skipU rfl rfl rfl ?_
            first | (refine RL_want rfl rfl ?_; refine L_move rfl rfl ?_) | refine RL_skip rfl rfl rfl rfl ?_ | refine RL_skipU rfl rfl rfl ?_
            first | (refine RL_want rfl rfl ?_; refine L_fcmp rfl rfl rfl (fun _ => by rw [binOp_float_cmp_lss]; rfl) ?_) | refine RL_skip rfl rfl rfl rfl ?_ | refine RL_skipU rfl rfl rfl ?_
            first | (refine RL_want rfl rfl ?_; (first | refine L_pick_t rfl rfl rfl ?_ | refine L_pick_f rfl rfl rfl ?_)) | refine RL_skip rfl rfl rfl rfl ?_ | refine RL_skipU rfl rfl rfl ?_
            first | refine L_pick_t rfl rfl rfl ?_ | refine L_pick_f rfl rfl rfl ?_
            refine RL_nil' ?_
            refine Nx_cutP (false, _) (is := [0, 3, 5, 6, 11, 12, 22, 13, 155]) (I' := (fun (cnd : Bool) (w : World) => (cnd = betB p v most lo hi s) ∧ (HS w0 w [(b15, Row 25 [.float .f64 hi.1, .float .f64 hi.2]), (b14, Row 25 [.float .f64 lo.1, .float .f64 lo.2]), (b5, Row 25 [.float .f64 p.1, .float .f64 p.2]), (b6, Row 25 [.float .f64 v.1, .float .f64 v.2])])) (false) (_)) rfl rfl rfl ?_
            exact ⟨by unfold betB hitB; rw [g1.trans h1]; rfl, hs⟩
           ·
            skip
            cases h2 : FloatKind.f64.format.order r120 most == some .lt || FloatKind.f64.format.order r120 most == some .eq
            ·
             skip
             refine W_region ?_
             refine L_move rfl rfl ?_
             refine L_fcmp rfl rfl rfl (fun _ => by rw [binOp_float_cmp_leq, h1]; rfl) ?_
             refine L_move rfl rfl ?_
             first | (refine RL_want rfl rfl ?_; refine L_move rfl rfl ?_) | refine RL_skip rfl rfl rfl rfl ?_ | refine RL_skipU rfl rfl rfl ?_
             first | (refine RL_want rfl rfl ?_; refine L_move rfl rfl ?_) | refine RL_skip rfl rfl rfl rfl ?_ | refine RL_skipU rfl rfl rfl ?_
             first | (refine RL_want rfl rfl ?_; refine L_fcmp rfl rfl rfl (fun _ => by rw [binOp_float_cmp_leq, h2]; rfl) ?_) | refine RL_skip rfl rfl rfl rfl ?_ | refine RL_skipU rfl rfl rfl ?_
             first | refine L_pick_t rfl rfl rfl ?_ | refine L_pick_f rfl rfl rfl ?_
             refine L_move rfl rfl ?_
             first | (refine RL_want rfl rfl ?_; refine L_move rfl rfl ?_) | refine RL_skip rfl rfl rfl rfl ?_ | refine RL_skipU rfl rfl rfl ?_
             first | (refine RL_want rfl rfl ?_; refine L_fcmp rfl rfl rfl (fun _ => by rw [binOp_float_cmp_leq]; rfl) ?_) | refine RL_skip rfl rfl rfl rfl ?_ | refine RL_skipU rfl rfl rfl ?_
             first | refine L_pick_t rfl rfl rfl ?_ | refine L_pick_f rfl rfl rfl ?_
             refine L_move rfl rfl ?_
             first | (refine RL_want rfl rfl ?_; refine L_move rfl rfl ?_) | refine RL_skip rfl rfl rfl rfl ?_ | refine RL_skipU rfl rfl rfl ?_
             first | (refine RL_want rfl rfl ?_; refine L_fcmp rfl rfl rfl (fun _ => by rw [binOp_float_cmp_leq]; rfl) ?_) | refine RL_skip rfl rfl rfl rfl ?_ | refine RL_skipU rfl rfl rfl ?_
             first | refine L_pick_t rfl rfl rfl ?_ | refine L_pick_f rfl rfl rfl ?_
             refine L_move rfl rfl ?_
             first | (refine RL_want rfl rfl ?_; refine L_move rfl rfl ?_) | refine RL_skip rfl rfl rfl rfl ?_ | refine RL_skipU rfl rfl rfl ?_
             first | (refine RL_want rfl rfl ?_; refine L_not rfl rfl ?_) | refine RL_skip rfl rfl rfl rfl ?_ | refine RL_skipU rfl rfl rfl ?_
             first | (refine RL_want rfl rfl ?_; refine L_move rfl rfl ?_) | refine RL_skip rfl rfl rfl rfl ?_ | refine RL_skipU rfl rfl rfl ?_
             first | (refine RL_want rfl rfl ?_; refine L_move rfl rfl ?_) | refine RL_skip rfl rfl rfl rfl ?_ | refine RL_skipU rfl rfl rfl ?_
             first | (refine RL_want rfl rfl ?_; refine L_move rfl rfl ?_) | refine RL_skip rfl rfl rfl rfl ?_ | refine RL_skipU rfl rfl rfl ?_
             first | (refine RL_want rfl rfl ?_; refine L_fcmp rfl rfl rfl (fun _ => by rw [binOp_float_cmp_lss]; rfl) ?_) | refine RL_skip rfl rfl rfl rfl ?_ | refine RL_skipU rfl rfl rfl ?_
             first | (refine RL_want rfl rfl ?_; (first | refine L_pick_t rfl rfl rfl ?_ | refine L_pick_f rfl rfl rfl ?_)) | refine RL_skip rfl rfl rfl rfl ?_ | refine RL_skipU rfl rfl rfl ?_
             first | refine L_pick_t rfl rfl rfl ?_ | refine L_pick_f rfl rfl rfl ?_
             refine RL_nil' ?_
             refine Nx_cutP (false, _) (is := [0, 3, 5, 6, 11, 12, 22, 13, 155]) (I' := (fun (cnd : Bool) (w : World) => (cnd = betB p v most lo hi s) ∧ (HS w0 w [(b15, Row 25 [.float .f64 hi.1, .float .f64 hi.2]), (b14, Row 25 [.float .f64 lo.1, .float .f64 lo.2]), (b5, Row 25 [.float .f64 p.1, .float .f64 p.2]), (b6, Row 25 [.float .f64 v.1, .float .f64 v.2])])) (false) (_)) rfl rfl rfl ?_
             exact ⟨by unfold betB hitB; rw [g1.trans h1, g2.trans h2]; rfl, hs⟩
            ·
             skip
             cases h3 : FloatKind.f64.format.order 0 r131 == some .lt || FloatKind.f64.format.order 0 r131 == some .eq
             ·
              skip
              refine W_region ?_
              refine L_move rfl rfl ?_
              refine L_fcmp rfl rfl rfl (fun _ => by rw [binOp_float_cmp_leq, h1]; rfl) ?_
              refine L_move rfl rfl ?_
              first | (refine RL_want rfl rfl ?_; refine L_move rfl rfl ?_) | refine RL_skip rfl rfl rfl rfl ?_ | refine RL_skipU rfl rfl rfl ?_
              first | (refine RL_want rfl rfl ?_; refine L_move rfl rfl ?_) | refine RL_skip rfl rfl rfl rfl ?_ | refine RL_skipU rfl rfl rfl ?_
              first | (refine RL_want rfl rfl ?_; refine L_fcmp rfl rfl rfl (fun _ => by rw [binOp_float_cmp_leq, h2]; rfl) ?_) | refine RL_skip rfl rfl rfl rfl ?_ | refine RL_skipU rfl rfl rfl ?_
              first | refine L_pick_t rfl rfl rfl ?_ | refine L_pick_f rfl rfl rfl ?_
              refine L_move rfl rfl ?_
              first | (refine RL_want rfl rfl ?_; refine L_move rfl rfl ?_) | refine RL_skip rfl rfl rfl rfl ?_ | refine RL_skipU rfl rfl rfl ?_
              first | (refine RL_want rfl rfl ?_; refine L_fcmp rfl rfl rfl (fun _ => by rw [binOp_float_cmp_leq, h3]; rfl) ?_) | refine RL_skip rfl rfl rfl rfl ?_ | refine RL_skipU rfl rfl rfl ?_
              first | refine L_pick_t rfl rfl rfl ?_ | refine L_pick_f rfl rfl rfl ?_
              refine L_move rfl rfl ?_
              first | (refine RL_want rfl rfl ?_; refine L_move rfl rfl ?_) | refine RL_skip rfl rfl rfl rfl ?_ | refine RL_skipU rfl rfl rfl ?_
              first | (refine RL_want rfl rfl ?_; refine L_fcmp rfl rfl rfl (fun _ => by rw [binOp_float_cmp_leq]; rfl) ?_) | refine RL_skip rfl rfl rfl rfl ?_ | refine RL_skipU rfl rfl rfl ?_
              first | refine L_pick_t rfl rfl rfl ?_ | refine L_pick_f rfl rfl rfl ?_
              refine L_move rfl rfl ?_
              first | (refine RL_want rfl rfl ?_; refine L_move rfl rfl ?_) | refine RL_skip rfl rfl rfl rfl ?_ | refine RL_skipU rfl rfl rfl ?_
              first | (refine RL_want rfl rfl ?_; refine L_not rfl rfl ?_) | refine RL_skip rfl rfl rfl rfl ?_ | refine RL_skipU rfl rfl rfl ?_
              first | (refine RL_want rfl rfl ?_; refine L_move rfl rfl ?_) | refine RL_skip rfl rfl rfl rfl ?_ | refine RL_skipU rfl rfl rfl ?_
              first | (refine RL_want rfl rfl ?_; refine L_move rfl rfl ?_) | refine RL_skip rfl rfl rfl rfl ?_ | refine RL_skipU rfl rfl rfl ?_
              first | (refine RL_want rfl rfl ?_; refine L_move rfl rfl ?_) | refine RL_skip rfl rfl rfl rfl ?_ | refine RL_skipU rfl rfl rfl ?_
              first | (refine RL_want rfl rfl ?_; refine L_fcmp rfl rfl rfl (fun _ => by rw [binOp_float_cmp_lss]; rfl) ?_) | refine RL_skip rfl rfl rfl rfl ?_ | refine RL_skipU rfl rfl rfl ?_
              first | (refine RL_want rfl rfl ?_; (first | refine L_pick_t rfl rfl rfl ?_ | refine L_pick_f rfl rfl rfl ?_)) | refine RL_skip rfl rfl rfl rfl ?_ | refine RL_skipU rfl rfl rfl ?_
              first | refine L_pick_t rfl rfl rfl ?_ | refine L_pick_f rfl rfl rfl ?_
              refine RL_nil' ?_
              refine Nx_cutP (false, _) (is := [0, 3, 5, 6, 11, 12, 22, 13, 155]) (I' := (fun (cnd : Bool) (w : World) => (cnd = betB p v most lo hi s) ∧ (HS w0 w [(b15, Row 25 [.float .f64 hi.1, .float .f64 hi.2]), (b14, Row 25 [.float .f64 lo.1, .float .f64 lo.2]), (b5, Row 25 [.float .f64 p.1, .float .f64 p.2]), (b6, Row 25 [.float .f64 v.1, .float .f64 v.2])])) (false) (_)) rfl rfl rfl ?_
              exact ⟨by unfold betB hitB; rw [g1.trans h1, g2.trans h2, g3.trans h3]; rfl, hs⟩
             ·
              skip
              cases h4 : FloatKind.f64.format.order r131 4607182418800017408 == some .lt || FloatKind.f64.format.order r131 4607182418800017408 == some .eq
              ·
               skip
               refine W_region ?_
               refine L_move rfl rfl ?_
               refine L_fcmp rfl rfl rfl (fun _ => by rw [binOp_float_cmp_leq, h1]; rfl) ?_
               refine L_move rfl rfl ?_
               first | (refine RL_want rfl rfl ?_; refine L_move rfl rfl ?_) | refine RL_skip rfl rfl rfl rfl ?_ | refine RL_skipU rfl rfl rfl ?_
               first | (refine RL_want rfl rfl ?_; refine L_move rfl rfl ?_) | refine RL_skip rfl rfl rfl rfl ?_ | refine RL_skipU rfl rfl rfl ?_
               first | (refine RL_want rfl rfl ?_; refine L_fcmp rfl rfl rfl (fun _ => by rw [binOp_float_cmp_leq, h2]; rfl) ?_) | refine RL_skip rfl rfl rfl rfl ?_ | refine RL_skipU rfl rfl rfl ?_
               first | refine L_pick_t rfl rfl rfl ?_ | refine L_pick_f rfl rfl rfl ?_
               refine L_move rfl rfl ?_
               first | (refine RL_want rfl rfl ?_; refine L_move rfl rfl ?_) | refine RL_skip rfl rfl rfl rfl ?_ | refine RL_skipU rfl rfl rfl ?_
               first | (refine RL_want rfl rfl ?_; refine L_fcmp rfl rfl rfl (fun _ => by rw [binOp_float_cmp_leq, h3]; rfl) ?_) | refine RL_skip rfl rfl rfl rfl ?_ | refine RL_skipU rfl rfl rfl ?_
               first | refine L_pick_t rfl rfl rfl ?_ | refine L_pick_f rfl rfl rfl ?_
               refine L_move rfl rfl ?_
               first | (refine RL_want rfl rfl ?_; refine L_move rfl rfl ?_) | refine RL_skip rfl rfl rfl rfl ?_ | refine RL_skipU rfl rfl rfl ?_
               first | (refine RL_want rfl rfl ?_; refine L_fcmp rfl rfl rfl (fun _ => by rw [binOp_float_cmp_leq, h4]; rfl) ?_) | refine RL_skip rfl rfl rfl rfl ?_ | refine RL_skipU rfl rfl rfl ?_
               first | refine L_pick_t rfl rfl rfl ?_ | refine L_pick_f rfl rfl rfl ?_
               refine L_move rfl rfl ?_
               first | (refine RL_want rfl rfl ?_; refine L_move rfl rfl ?_) | refine RL_skip rfl rfl rfl rfl ?_ | refine RL_skipU rfl rfl rfl ?_
               first | (refine RL_want rfl rfl ?_; refine L_not rfl rfl ?_) | refine RL_skip rfl rfl rfl rfl ?_ | refine RL_skipU rfl rfl rfl ?_
               first | (refine RL_want rfl rfl ?_; refine L_move rfl rfl ?_) | refine RL_skip rfl rfl rfl rfl ?_ | refine RL_skipU rfl rfl rfl ?_
               first | (refine RL_want rfl rfl ?_; refine L_move rfl rfl ?_) | refine RL_skip rfl rfl rfl rfl ?_ | refine RL_skipU rfl rfl rfl ?_
               first | (refine RL_want rfl rfl ?_; refine L_move rfl rfl ?_) | refine RL_skip rfl rfl rfl rfl ?_ | refine RL_skipU rfl rfl rfl ?_
               first | (refine RL_want rfl rfl ?_; refine L_fcmp rfl rfl rfl (fun _ => by rw [binOp_float_cmp_lss]; rfl) ?_) | refine RL_skip rfl rfl rfl rfl ?_ | refine RL_skipU rfl rfl rfl ?_
               first | (refine RL_want rfl rfl ?_; (first | refine L_pick_t rfl rfl rfl ?_ | refine L_pick_f rfl rfl rfl ?_)) | refine RL_skip rfl rfl rfl rfl ?_ | refine RL_skipU rfl rfl rfl ?_
               first | refine L_pick_t rfl rfl rfl ?_ | refine L_pick_f rfl rfl rfl ?_
               refine RL_nil' ?_
               refine Nx_cutP (false, _) (is := [0, 3, 5, 6, 11, 12, 22, 13, 155]) (I' := (fun (cnd : Bool) (w : World) => (cnd = betB p v most lo hi s) ∧ (HS w0 w [(b15, Row 25 [.float .f64 hi.1, .float .f64 hi.2]), (b14, Row 25 [.float .f64 lo.1, .float .f64 lo.2]), (b5, Row 25 [.float .f64 p.1, .float .f64 p.2]), (b6, Row 25 [.float .f64 v.1, .float .f64 v.2])])) (false) (_)) rfl rfl rfl ?_
               exact ⟨by unfold betB hitB; rw [g1.trans h1, g2.trans h2, g3.trans h3, g4.trans h4]; rfl, hs⟩
              ·
               skip
               cases hf : s.2
               ·
                refine W_region ?_
                refine L_move rfl rfl ?_
                refine L_fcmp rfl rfl rfl (fun _ => by rw [binOp_float_cmp_leq, h1]; rfl) ?_
                refine L_move rfl rfl ?_
                first | (refine RL_want rfl rfl ?_; refine L_move rfl rfl ?_) | refine RL_skip rfl rfl rfl rfl ?_ | refine RL_skipU rfl rfl rfl ?_
                first | (refine RL_want rfl rfl ?_; refine L_move rfl rfl ?_) | refine RL_skip rfl rfl rfl rfl ?_ | refine RL_skipU rfl rfl rfl ?_
                first | (refine RL_want rfl rfl ?_; refine L_fcmp rfl rfl rfl (fun _ => by rw [binOp_float_cmp_leq, h2]; rfl) ?_) | refine RL_skip rfl rfl rfl rfl ?_ | refine RL_skipU rfl rfl rfl ?_
                first | refine L_pick_t rfl rfl rfl ?_ | refine L_pick_f rfl rfl rfl ?_
                refine L_move rfl rfl ?_
                first | (refine RL_want rfl rfl ?_; refine L_move rfl rfl ?_) | refine RL_skip rfl rfl rfl rfl ?_ | refine RL_skipU rfl rfl rfl ?_
                first | (refine RL_want rfl rfl ?_; refine L_fcmp rfl rfl rfl (fun _ => by rw [binOp_float_cmp_leq, h3]; rfl) ?_) | refine RL_skip rfl rfl rfl rfl ?_ | refine RL_skipU rfl rfl rfl ?_
                first | refine L_pick_t rfl rfl rfl ?_ | refine L_pick_f rfl rfl rfl ?_
                refine L_move rfl rfl ?_
                first | (refine RL_want rfl rfl ?_; refine L_move rfl rfl ?_) | refine RL_skip rfl rfl rfl rfl ?_ | refine RL_skipU rfl rfl rfl ?_
                first | (refine RL_want rfl rfl ?_; refine L_fcmp rfl rfl rfl (fun _ => by rw [binOp_float_cmp_leq, h4]; rfl) ?_) | refine RL_skip rfl rfl rfl rfl ?_ | refine RL_skipU rfl rfl rfl ?_
                first | refine L_pick_t rfl rfl rfl ?_ | refine L_pick_f rfl rfl rfl ?_
                refine L_move rfl rfl ?_
                first | (refine RL_want rfl rfl ?_; refine L_move rfl rfl ?_) | refine RL_skip rfl rfl rfl rfl ?_ | refine RL_skipU rfl rfl rfl ?_
                first | (refine RL_want rfl rfl ?_; refine L_not rfl rfl ?_) | refine RL_skip rfl rfl rfl rfl ?_ | refine RL_skipU rfl rfl rfl ?_
                first | (refine RL_want rfl rfl ?_; refine L_move rfl rfl ?_) | refine RL_skip rfl rfl rfl rfl ?_ | refine RL_skipU rfl rfl rfl ?_
                first | (refine RL_want rfl rfl ?_; refine L_move rfl rfl ?_) | refine RL_skip rfl rfl rfl rfl ?_ | refine RL_skipU rfl rfl rfl ?_
                first | (refine RL_want rfl rfl ?_; refine L_move rfl rfl ?_) | refine RL_skip rfl rfl rfl rfl ?_ | refine RL_skipU rfl rfl rfl ?_
                first | (refine RL_want rfl rfl ?_; refine L_fcmp rfl rfl rfl (fun _ => by rw [binOp_float_cmp_lss]; rfl) ?_) | refine RL_skip rfl rfl rfl rfl ?_ | refine RL_skipU rfl rfl rfl ?_
                first | (refine RL_want rfl rfl ?_; (first | refine L_pick_t rfl rfl rfl ?_ | refine L_pick_f rfl rfl rfl ?_)) | refine RL_skip rfl rfl rfl rfl ?_ | refine RL_skipU rfl rfl rfl ?_
                first | refine L_pick_t rfl rfl rfl ?_ | refine L_pick_f rfl rfl rfl ?_
                refine RL_nil' ?_
                refine Nx_cutP (true, _) (is := [0, 3, 5, 6, 11, 12, 22, 13, 155]) (I' := (fun (cnd : Bool) (w : World) => (cnd = betB p v most lo hi s) ∧ (HS w0 w [(b15, Row 25 [.float .f64 hi.1, .float .f64 hi.2]), (b14, Row 25 [.float .f64 lo.1, .float .f64 lo.2]), (b5, Row 25 [.float .f64 p.1, .float .f64 p.2]), (b6, Row 25 [.float .f64 v.1, .float .f64 v.2])])) (true) (_)) rfl rfl rfl ?_
                exact ⟨by unfold betB hitB; rw [g1.trans h1, g2.trans h2, g3.trans h3, g4.trans h4, hf]; rfl, hs⟩
               ·
                refine W_region ?_
                refine L_move rfl rfl ?_
                refine L_fcmp rfl rfl rfl (fun _ => by rw [binOp_float_cmp_leq, h1]; rfl) ?_
                refine L_move rfl rfl ?_
                first | (refine RL_want rfl rfl ?_; refine L_move rfl rfl ?_) | refine RL_skip rfl rfl rfl rfl ?_ | refine RL_skipU rfl rfl rfl ?_
                first | (refine RL_want rfl rfl ?_; refine L_move rfl rfl ?_) | refine RL_skip rfl rfl rfl rfl ?_ | refine RL_skipU rfl rfl rfl ?_
                first | (refine RL_want rfl rfl ?_; refine L_fcmp rfl rfl rfl (fun _ => by rw [binOp_float_cmp_leq, h2]; rfl) ?_) | refine RL_skip rfl rfl rfl rfl ?_ | refine RL_skipU rfl rfl rfl ?_
                first | refine L_pick_t rfl rfl rfl ?_ | refine L_pick_f rfl rfl rfl ?_
                refine L_move rfl rfl ?_
                first | (refine RL_want rfl rfl ?_; refine L_move rfl rfl ?_) | refine RL_skip rfl rfl rfl rfl ?_ | refine RL_skipU rfl rfl rfl ?_
                first | (refine RL_want rfl rfl ?_; refine L_fcmp rfl rfl rfl (fun _ => by rw [binOp_float_cmp_leq, h3]; rfl) ?_) | refine RL_skip rfl rfl rfl rfl ?_ | refine RL_skipU rfl rfl rfl ?_
                first | refine L_pick_t rfl rfl rfl ?_ | refine L_pick_f rfl rfl rfl ?_
                refine L_move rfl rfl ?_
                first | (refine RL_want rfl rfl ?_; refine L_move rfl rfl ?_) | refine RL_skip rfl rfl rfl rfl ?_ | refine RL_skipU rfl rfl rfl ?_
                first | (refine RL_want rfl rfl ?_; refine L_fcmp rfl rfl rfl (fun _ => by rw [binOp_float_cmp_leq, h4]; rfl) ?_) | refine RL_skip rfl rfl rfl rfl ?_ | refine RL_skipU rfl rfl rfl ?_
                first | refine L_pick_t rfl rfl rfl ?_ | refine L_pick_f rfl rfl rfl ?_
                refine L_move rfl rfl ?_
                first | (refine RL_want rfl rfl ?_; refine L_move rfl rfl ?_) | refine RL_skip rfl rfl rfl rfl ?_ | refine RL_skipU rfl rfl rfl ?_
                first | (refine RL_want rfl rfl ?_; refine L_not rfl rfl ?_) | refine RL_skip rfl rfl rfl rfl ?_ | refine RL_skipU rfl rfl rfl ?_
                first | (refine RL_want rfl rfl ?_; refine L_move rfl rfl ?_) | refine RL_skip rfl rfl rfl rfl ?_ | refine RL_skipU rfl rfl rfl ?_
                first | (refine RL_want rfl rfl ?_; refine L_move rfl rfl ?_) | refine RL_skip rfl rfl rfl rfl ?_ | refine RL_skipU rfl rfl rfl ?_
                first | (refine RL_want rfl rfl ?_; refine L_move rfl rfl ?_) | refine RL_skip rfl rfl rfl rfl ?_ | refine RL_skipU rfl rfl rfl ?_
                first | (refine RL_want rfl rfl ?_; refine L_fcmp rfl rfl rfl (fun _ => by rw [binOp_float_cmp_lss]; rfl) ?_) | refine RL_skip rfl rfl rfl rfl ?_ | refine RL_skipU rfl rfl rfl ?_
                first | (refine RL_want rfl rfl ?_; (first | refine L_pick_t rfl rfl rfl ?_ | refine L_pick_f rfl rfl rfl ?_)) | refine RL_skip rfl rfl rfl rfl ?_ | refine RL_skipU rfl rfl rfl ?_
                first | refine L_pick_t rfl rfl rfl ?_ | refine L_pick_f rfl rfl rfl ?_
                refine RL_nil' ?_
                refine Nx_cutP (ltB r120 s.1, _) (is := [0, 3, 5, 6, 11, 12, 22, 13, 155]) (I' := (fun (cnd : Bool) (w : World) => (cnd = betB p v most lo hi s) ∧ (HS w0 w [(b15, Row 25 [.float .f64 hi.1, .float .f64 hi.2]), (b14, Row 25 [.float .f64 lo.1, .float .f64 lo.2]), (b5, Row 25 [.float .f64 p.1, .float .f64 p.2]), (b6, Row 25 [.float .f64 v.1, .float .f64 v.2])])) (ltB r120 s.1) (_)) rfl rfl rfl ?_
                exact ⟨by unfold betB hitB; rw [g1.trans h1, g2.trans h2, g3.trans h3, g4.trans h4, hf, g5]; rfl, hs⟩
          ·
           clear hs
           intro cnd w hI
           show W _ _ _ _ [(0, .slice a k c), (3, .float .f64 most), (5, .pointer (some ⟨b5, 0, none⟩)), (6, .pointer (some ⟨b6, 0, none⟩)), (11, .float .f64 s.1), (12, .bool s.2), (22, .float .f64 r120), (13, .int .i64 i), (155, .bool cnd)] w
           obtain ⟨hbet, hs⟩ := hI
           cases cnd
           ·
            -- STOP: cond
            refine W_if_false rfl ?_
            refine W_skip' ?_
            refine Nx_block ?_
            refine Nx_then ?_
            refine W_region ?_
            refine L_move rfl rfl ?_
            first | refine L_add rfl rfl rfl (wrp_i64 (by omega)) ?_ | refine L_add rfl rfl rfl rfl ?_
            refine L_assign rfl rfl ?_
            refine RL_nil' ?_
            have e9 : whenS ps p v most (i + 1) = s := by rw [estep]; unfold whenStep; rw [hz', if_neg (by decide), ← hbet, if_neg (by decide)]
            refine Nx_set 11 (v' := .float .f64 (whenS ps p v most (i + 1)).1) rfl (by rw [e9]) ?_
            refine Nx_set 12 (v' := .bool (whenS ps p v most (i + 1)).2) rfl (by rw [e9]) ?_
            refine Nx_loopP (i + 1, _) (is := [0, 3, 5, 6, 11, 12, 13]) (I' := (fun (i : Nat) (w : World) => (i ≤ k) ∧ (HS w0 w [(b5, Row 25 [.float .f64 p.1, .float .f64 p.2]), (b6, Row 25 [.float .f64 v.1, .float .f64 v.2])])) (i + 1) (_)) rfl rfl rfl ?_ ?_
            ·
             exact ⟨hlt, HS.pop (HS.pop hs hb15) hb14⟩
            ·
             omega
           ·
            have hb := hbet.symm
            have e9 : whenS ps p v most (i + 1) = (wT p v lo hi, true) := by rw [estep]; unfold whenStep; rw [hz', if_neg (by decide), hb, if_pos rfl]
            unfold betB hitB at hb
            simp only [Bool.and_eq_true] at hb
            obtain rfl : r120 = wT p v lo hi := cn_same eT (leB_num hb.1.1.1.1)
            refine W_if_true rfl ?_
            refine W_seq ?_
            refine W_region ?_
            refine L_move rfl rfl ?_
            refine L_assign rfl rfl ?_
            refine RL_then ?_
            refine W_region ?_
            refine L_assign rfl rfl ?_
            refine RL_nil' ?_
            refine Nx_block ?_
            refine Nx_then ?_
            refine W_region ?_
            refine L_move rfl rfl ?_
            first | refine L_add rfl rfl rfl (wrp_i64 (by omega)) ?_ | refine L_add rfl rfl rfl rfl ?_
            refine L_assign rfl rfl ?_
            refine RL_nil' ?_
            refine Nx_set 11 (v' := .float .f64 (whenS ps p v most (i + 1)).1) rfl (by rw [e9]) ?_
            refine Nx_set 12 (v' := .bool (whenS ps p v most (i + 1)).2) rfl (by rw [e9]) ?_
            refine Nx_loopP (i + 1, _) (is := [0, 3, 5, 6, 11, 12, 13]) (I' := (fun (i : Nat) (w : World) => (i ≤ k) ∧ (HS w0 w [(b5, Row 25 [.float .f64 p.1, .float .f64 p.2]), (b6, Row 25 [.float .f64 v.1, .float .f64 v.2])])) (i + 1) (_)) rfl rfl rfl ?_ ?_
            ·
             exact ⟨hlt, HS.pop (HS.pop hs hb15) hb14⟩
            ·
             omega
         ·
          have hz' : eqB (wN v lo hi) 0 = true := (eqB_congr eN rfl).symm.trans hz
          refine W_if_true rfl ?_
          refine W_exit' ?_
          refine Ex_then_exit ?_
          refine Ex_block_hit ?_
          refine Nx_then ?_
          refine W_region ?_
          refine L_move rfl rfl ?_
          first | refine L_add rfl rfl rfl (wrp_i64 (by omega)) ?_ | refine L_add rfl rfl rfl rfl ?_
          refine L_assign rfl rfl ?_
          refine RL_nil' ?_
          have e9 : whenS ps p v most (i + 1) = s := by rw [estep]; unfold whenStep; rw [hz', if_pos rfl]
          refine Nx_set 11 (v' := .float .f64 (whenS ps p v most (i + 1)).1) rfl (by rw [e9]) ?_
          refine Nx_set 12 (v' := .bool (whenS ps p v most (i + 1)).2) rfl (by rw [e9]) ?_
          refine Nx_loopP (i + 1, _) (is := [0, 3, 5, 6, 11, 12, 13]) (I' := (fun (i : Nat) (w : World) => (i ≤ k) ∧ (HS w0 w [(b5, Row 25 [.float .f64 p.1, .float .f64 p.2]), (b6, Row 25 [.float .f64 v.1, .float .f64 v.2])])) (i + 1) (_)) rfl rfl rfl ?_ ?_
          ·
           exact ⟨hlt, HS.pop (HS.pop hs hb15) hb14⟩
          ·
           omega
      ·
       obtain rfl : i = k := by omega
       cases hb0 : FloatKind.f64.format.order (whenS ps p v most i).1 0 == some .eq
       ·
        have hb0' : eqB (whenS ps p v most i).1 0 = false := hb0
        refine W_seq ?_
        refine W_seq ?_
        refine W_region ?_
        refine L_move rfl rfl ?_
        refine L_move rfl rfl ?_
        refine L_len rfl Try.underlying22 rfl ?_
        first | refine L_lss rfl rfl rfl (dtrue (by omega)) ?_ | refine L_lss rfl rfl rfl (dfalse (by omega)) ?_ | refine L_lss rfl rfl rfl rfl ?_
        refine RL_then ?_
        refine W_if_false rfl ?_
        refine W_exit' ?_
        refine Ex_then_exit ?_
        refine Ex_loop_exit ?_
        refine Ex_block_hit ?_
        refine Nx_then ?_
        refine W_seq ?_
        refine W_seq ?_
        refine W_region ?_
        refine L_move rfl rfl ?_
        refine L_fcmp rfl rfl rfl (fun _ => by rw [binOp_float_cmp_eql, hb0]; rfl) ?_
        refine RL_then ?_
        refine W_if_false rfl ?_
        refine W_skip' ?_
        refine Nx_then ?_
        refine W_seq ?_
        refine W_region ?_
        refine L_move rfl rfl ?_
        refine L_move rfl rfl ?_
        refine L_assign rfl rfl ?_
        refine L_assign rfl rfl ?_
        refine RL_then ?_
        refine W_ret' ?_
        refine Ex_done2 rfl rfl rfl ?_
        have c1 : ¬ (i < 3 ∨ 64 < i ∨ geB most 0 = false) := by rw [hm']; simp; omega
        exact ⟨_, rfl, by simp only [whenR, whenF, c1, if_false, hin, Bool.false_eq_true, hk, hb0', if_true], hs.forget ho2⟩
       ·
        have hb0' : eqB (whenS ps p v most i).1 0 = true := hb0
        refine W_seq ?_
        refine W_seq ?_
        refine W_region ?_
        refine L_move rfl rfl ?_
        refine L_move rfl rfl ?_
        refine L_len rfl Try.underlying22 rfl ?_
        first | refine L_lss rfl rfl rfl (dtrue (by omega)) ?_ | refine L_lss rfl rfl rfl (dfalse (by omega)) ?_ | refine L_lss rfl rfl rfl rfl ?_
        refine RL_then ?_
        refine W_if_false rfl ?_
        refine W_exit' ?_
        refine Ex_then_exit ?_
        refine Ex_loop_exit ?_
        refine Ex_block_hit ?_
        refine Nx_then ?_
        refine W_seq ?_
        refine W_seq ?_
        refine W_region ?_
        refine L_move rfl rfl ?_
        refine L_fcmp rfl rfl rfl (fun _ => by rw [binOp_float_cmp_eql, hb0]; rfl) ?_
        refine RL_then ?_
        refine W_if_true rfl ?_
        refine W_region ?_
        refine L_assign rfl rfl ?_
        refine RL_then ?_
        refine W_seq ?_
        refine W_region ?_
        refine L_move rfl rfl ?_
        refine L_move rfl rfl ?_
        refine L_assign rfl rfl ?_
        refine L_assign rfl rfl ?_
        refine RL_then ?_
        refine W_ret' ?_
        refine Ex_done2 rfl rfl rfl ?_
        have c1 : ¬ (i < 3 ∨ 64 < i ∨ geB most 0 = false) := by rw [hm']; simp; omega
        exact ⟨_, rfl, by simp only [whenR, whenF, c1, if_false, hin, Bool.false_eq_true, hk, hb0', if_true], hs.forget ho2⟩
    ·
     refine W_if_true rfl ?_
     refine W_seq ?_
     refine W_region ?_
     refine L_assign rfl rfl ?_
     refine L_assign rfl rfl ?_
     refine RL_then ?_
     refine W_ret' ?_
     refine Ex_then_ret ?_
     refine Ex_done2 rfl rfl rfl ?_
     exact ⟨_, rfl, by unfold whenR whenF; rw [if_neg (by rw [hm']; simp; omega), hin, if_pos rfl, if_neg (by rw [hm']; simp; omega), if_pos rfl], hs.forget ho2⟩
end Go.Proofs.Ytoiobncojfeoiaa
