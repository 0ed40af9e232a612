/-
 A part of the proof: laws for walks, and plain laws, over any program of the model. Each theorem holds under its own premises alone.
-/
import Derived.Test.YtknpoemkmcdgcaaTNV
import Derived.Test.YtknpoemkmcdgcaaTNM
import Derived.Test.YtknpoemkmcdgcaaTN28L
import Derived.Test.YtknpoemkmcdgcaaTNH
namespace Go.Proofs.Ytknpoemkmcdgcaa
open Go Go.Lk
/-! ### The document's net: IsFinite, New -/
def gtE (x y : Nat) : Bool := FloatKind.f64.format.order x y == some .gt || FloatKind.f64.format.order x y == some .eq
def finD (x : Nat) : Bool := (FloatKind.f64.format.order x x == some .eq) && (leB x 9218868437227405311 && gtE x 18442240474082181119)
theorem rfin_ok (x : Nat) (w : World) : Ret Try.prog 31 [.float .f64 x] w fun v w' => v = .bool (finD x) ∧ w' = w := by
 obtain ⟨a, ha⟩ : ∃ a, (FloatKind.f64.format.order x x == some .eq) = a := ⟨_, rfl⟩
 obtain ⟨b, hb⟩ : ∃ b, leB x 9218868437227405311 = b := ⟨_, rfl⟩
 obtain ⟨c, hc⟩ : ∃ c, gtE x 18442240474082181119 = c := ⟨_, rfl⟩
 refine calls_of_W Try.func31 rfl rfl rfl ?_
 cases a
 ·
  refine W_seq (W_region (L_assign rfl rfl (RL_then (W_seq (W_region (L_move rfl rfl (L_move rfl rfl ?_)))))))
  refine L_fcmp rfl rfl rfl (fun _ => by rw [binOp_float_cmp_eql, ha]; rfl) ?_
  refine L_move rfl rfl (RL_skip rfl rfl rfl rfl (RL_skip rfl rfl rfl rfl (L_pick_f rfl rfl rfl (L_move rfl rfl (RL_skip rfl rfl rfl rfl (RL_skip rfl rfl rfl rfl (L_pick_f rfl rfl rfl (L_assign rfl rfl (RL_then (W_ret' (Ex_done1 rfl rfl ?_)))))))))))
  exact ⟨_, rfl, by unfold finD; rw [ha]; rfl, rfl⟩
 ·
  cases b
  ·
   refine W_seq (W_region (L_assign rfl rfl (RL_then (W_seq (W_region (L_move rfl rfl (L_move rfl rfl ?_)))))))
   refine L_fcmp rfl rfl rfl (fun _ => by rw [binOp_float_cmp_eql, ha]; rfl) ?_
   refine L_move rfl rfl (RL_want rfl rfl (L_move rfl rfl (RL_want rfl rfl ?_)))
   refine L_fcmp rfl rfl rfl (fun _ => by rw [binOp_float_cmp_leq, (show (FloatKind.f64.format.order x 9218868437227405311 == some .lt || FloatKind.f64.format.order x 9218868437227405311 == some .eq) = _ from hb)]; rfl) ?_
   refine L_pick_t rfl rfl rfl (L_move rfl rfl (RL_skip rfl rfl rfl rfl (RL_skip rfl rfl rfl rfl (L_pick_f rfl rfl rfl (L_assign rfl rfl (RL_then (W_ret' (Ex_done1 rfl rfl ?_))))))))
   exact ⟨_, rfl, by unfold finD; rw [ha, hb]; rfl, rfl⟩
  ·
   refine W_seq (W_region (L_assign rfl rfl (RL_then (W_seq (W_region (L_move rfl rfl (L_move rfl rfl ?_)))))))
   refine L_fcmp rfl rfl rfl (fun _ => by rw [binOp_float_cmp_eql, ha]; rfl) ?_
   refine L_move rfl rfl (RL_want rfl rfl (L_move rfl rfl (RL_want rfl rfl ?_)))
   refine L_fcmp rfl rfl rfl (fun _ => by rw [binOp_float_cmp_leq, (show (FloatKind.f64.format.order x 9218868437227405311 == some .lt || FloatKind.f64.format.order x 9218868437227405311 == some .eq) = _ from hb)]; rfl) ?_
   refine L_pick_t rfl rfl rfl (L_move rfl rfl (RL_want rfl rfl (L_move rfl rfl (RL_want rfl rfl ?_))))
   refine L_fcmp rfl rfl rfl (fun _ => by rw [binOp_float_cmp_geq, (show (FloatKind.f64.format.order x 18442240474082181119 == some .gt || FloatKind.f64.format.order x 18442240474082181119 == some .eq) = _ from hc)]; rfl) ?_
   refine L_pick_t rfl rfl rfl (L_assign rfl rfl (RL_then (W_ret' (Ex_done1 rfl rfl ?_))))
   exact ⟨_, rfl, by unfold finD; rw [ha, hb, hc]; rfl, rfl⟩
theorem finD_same {x : Nat} (hx : x < 18446744073709551616) : finD x = finB x := by
 obtain ⟨s, q, rfl, hq⟩ := word_of hx
 unfold finD finB nanB infB
 by_cases hnn : 9218868437227405312 < q
 ·
  have hn : isnan (Ieee.double.word s q) = true := by rw [isnan_word s q hq]; exact decide_eq_true hnn
  rw [order_nanL hn]
  rfl
 ·
  by_cases hin : q = 9218868437227405312
  ·
   subst hin
   cases s <;> decide +kernel
  ·
   have hf : q < 9218868437227405312 := by omega
   rw [fin_order s q hf, word_mod s hq, fin_max q hf]
   have hm : (9218868437227405311 : Nat) < 9218868437227405312 := by decide
   have o1 : FloatKind.f64.format.order (Ieee.double.word s q) 9218868437227405311 = _ := (fv_word s q hf).order (fv_word false 9218868437227405311 hm)
   have o2 : FloatKind.f64.format.order (Ieee.double.word s q) 18442240474082181119 = _ := (fv_word s q hf).order (fv_word true 9218868437227405311 hm)
   have hle := rv_le.2 (show q ≤ 9218868437227405311 by omega)
   unfold leB gtE
   rw [o1, o2]
   obtain ⟨A, hA⟩ : ∃ A, A = rv 9218868437227405311 := ⟨_, rfl⟩
   rw [← hA] at hle ⊢
   have c1 : compare ((if s = true then -1 else 1) * (rv q : Int)) ((if false = true then -1 else 1) * (A : Int)) ≠ .gt := fun hg => by
    have := Int.compare_eq_gt.1 hg
    cases s <;> simp at this <;> omega
   have c2 : compare ((if s = true then -1 else 1) * (rv q : Int)) ((if true = true then -1 else 1) * (A : Int)) ≠ .lt := fun hg => by
    have := Int.compare_eq_lt.1 hg
    cases s <;> simp at this <;> omega
   revert c1 c2
   cases compare ((if s = true then -1 else 1) * (rv q : Int)) ((if false = true then -1 else 1) * (A : Int)) <;> cases compare ((if s = true then -1 else 1) * (rv q : Int)) ((if true = true then -1 else 1) * (A : Int)) <;> simp
end Go.Proofs.Ytknpoemkmcdgcaa

namespace Go.Proofs.Ytknpoemkmcdgcaa
open Go Go.Lk
/-! ### The document's net in memory: New, Add -/
def RM.sc (m : RM) : List Value := [.float .f64 m.rd.x, .float .f64 m.rd.y, .float .f64 m.rd.t]
def scs (ms : List RM) : List Value := ms.flatMap RM.sc
def tvs (ms : List RM) : List Value := ms.map RM.v
theorem scs_app (ms ns : List RM) : scs (ms ++ ns) = scs ms ++ scs ns := List.flatMap_append ..
theorem tvs_app (ms ns : List RM) : tvs (ms ++ ns) = tvs ms ++ tvs ns := List.map_append ..
abbrev dbs (B far : Nat) (vS : Value) (MS : Bks) (vT : Value) (MT : Bks) (ms : List RM) : Bks := (B, Row 79 [.float .f64 far, vS, vT]) :: (MS ++ (MT ++ rmb ms))
structure DOk (w0 : World) (B : Nat) (vS : Value) (MS : Bks) (vT : Value) (MT : Bks) (ms : List RM) : Prop where
 own : w0.heap.size ≤ B
 bls : Bl w0 37 3 vS ms.length (scs ms) MS
 blt : Bl w0 38 1 vT ms.length (tvs ms) MT
 each : ∀ m ∈ ms, m.ok w0
 len : ms.length ≤ 16
theorem DOk.owns {w0 : World} {B far : Nat} {vS vT : Value} {MS MT : Bks} {ms : List RM} (h : DOk w0 B vS MS vT MT ms) : Own w0 (dbs B far vS MS vT MT ms) := Own.cons h.own (h.bls.own.app (h.blt.own.app (rmb_own h.each)))
theorem rnewN (far : Nat) (w0 : World) (hlt : far < 18446744073709551616) :
  Ret Try.prog 13 [.float .f64 far] w0 fun v w' => (newE far = 0 ∧ ∃ B, v = .tuple #[.pointer (some ⟨B, 0, none⟩), .int .i64 0] ∧ HS w0 w' (dbs B far (.slice none 0 0) [] (.slice none 0 0) [] []) ∧ DOk w0 B (.slice none 0 0) [] (.slice none 0 0) [] []) ∨ (newE far ≠ 0 ∧ v = .tuple #[.pointer none, .int .i64 (newE far)] ∧ HS w0 w' []) := by
 refine Ret.start fun w hs => ?_
 refine calls_of_W Try.func13 rfl rfl rfl (W_seq (W_region (L_assign rfl rfl (L_assign rfl rfl (RL_then (W_seq (W_region (L_move rfl rfl (L_call rfl Try.fun31 rfl (rfin_ok far w) ?_)))))))))
 rintro _ w ⟨rfl, rfl⟩
 rw [finD_same hlt]
 cases hf : finB far
 ·
  refine L_assign rfl rfl (RL_then (W_seq (W_seq (W_region (L_move rfl rfl (L_not rfl rfl (RL_then (W_if_true rfl (W_seq (W_region (L_assign rfl rfl (L_assign rfl rfl ?_))))))))))))
  refine RL_then (W_ret' (Ex_then_ret (Ex_done2 rfl rfl rfl ?_)))
  have e : newE far = 6 := by unfold newE; rw [hf, if_neg (by decide)]
  exact ⟨_, rfl, .inr ⟨by rw [e]; decide, by rw [e], hs⟩⟩
 ·
  obtain ⟨a, ha⟩ : ∃ a, (FloatKind.f64.format.order far 4156822456062967808 == some .lt) = a := ⟨_, rfl⟩
  obtain ⟨b, hb⟩ : ∃ b, (FloatKind.f64.format.order far 5057542381537067008 == some .gt) = b := ⟨_, rfl⟩
  cases a
  ·
   cases b
   ·
    refine L_assign rfl rfl (RL_then (W_seq (W_seq (W_region (L_move rfl rfl (L_not rfl rfl (RL_then (W_if_false rfl (W_skip' (Nx_then (W_seq (W_seq ?_))))))))))))
    refine W_region (L_move rfl rfl ?_)
    refine L_fcmp rfl rfl rfl (fun _ => by rw [binOp_float_cmp_lss, ha]; rfl) ?_
    refine L_move rfl rfl (RL_want rfl rfl (L_move rfl rfl (RL_want rfl rfl ?_)))
    refine L_fcmp rfl rfl rfl (fun _ => by rw [binOp_float_cmp_gtr, hb]; rfl) ?_
    refine L_pick_f rfl rfl rfl (RL_then (W_if_false rfl (W_skip' (Nx_then (W_seq (W_region (L_move rfl rfl (L_build rfl rfl (Pl.built Try.pl79 rfl) (L_box rfl hs rfl ?_)))))))))
    intro b17 w hb17 hnb17 hs
    dsimp only [List.set_cons_succ, List.set_cons_zero, List.cons_append, List.nil_append] at hs
    refine L_assign rfl rfl (L_assign rfl rfl (RL_then (W_ret' (Ex_done2 rfl rfl rfl ?_))))
    have e : newE far = 0 := by unfold newE; rw [hf, ha, hb]; rfl
    exact ⟨_, rfl, .inl ⟨e, b17, rfl, hs, ⟨hb17, .nil, .nil, (fun m hm => by cases hm), Nat.zero_le _⟩⟩⟩
   ·
    refine L_assign rfl rfl (RL_then (W_seq (W_seq (W_region (L_move rfl rfl (L_not rfl rfl (RL_then (W_if_false rfl (W_skip' (Nx_then (W_seq (W_seq ?_))))))))))))
    refine W_region (L_move rfl rfl ?_)
    refine L_fcmp rfl rfl rfl (fun _ => by rw [binOp_float_cmp_lss, ha]; rfl) ?_
    refine L_move rfl rfl (RL_want rfl rfl (L_move rfl rfl (RL_want rfl rfl ?_)))
    refine L_fcmp rfl rfl rfl (fun _ => by rw [binOp_float_cmp_gtr, hb]; rfl) ?_
    refine L_pick_f rfl rfl rfl (RL_then (W_if_true rfl (W_seq (W_region (L_assign rfl rfl (L_assign rfl rfl (RL_then (W_ret' (Ex_then_ret (Ex_done2 rfl rfl rfl ?_))))))))))
    have e : newE far = 2 := by unfold newE; rw [hf, ha, hb]; rfl
    exact ⟨_, rfl, .inr ⟨by rw [e]; decide, by rw [e], hs⟩⟩
  ·
   refine L_assign rfl rfl (RL_then (W_seq (W_seq (W_region (L_move rfl rfl (L_not rfl rfl (RL_then (W_if_false rfl (W_skip' (Nx_then (W_seq (W_seq ?_))))))))))))
   refine W_region (L_move rfl rfl ?_)
   refine L_fcmp rfl rfl rfl (fun _ => by rw [binOp_float_cmp_lss, ha]; rfl) ?_
   refine L_move rfl rfl (RL_skip rfl rfl rfl rfl (RL_skip rfl rfl rfl rfl (L_pick_t rfl rfl rfl (RL_then (W_if_true rfl (W_seq (W_region (L_assign rfl rfl (L_assign rfl rfl (RL_then (W_ret' (Ex_then_ret ?_))))))))))))
   refine Ex_done2 rfl rfl rfl ?_
   have e : newE far = 2 := by unfold newE; rw [hf, ha]; rfl
   exact ⟨_, rfl, .inr ⟨by rw [e]; decide, by rw [e], hs⟩⟩
theorem raddN (w0 w : World) (B far : Nat) (vS : Value) (MS : Bks) (vT : Value) (MT R : Bks) (ms : List RM) (x y t : Nat) (hs : HS w0 w (dbs B far vS MS vT MT ms ++ R)) (hN : DOk w0 B vS MS vT MT ms)
  (hx : x < 18446744073709551616) (hy : y < 18446744073709551616) (ht : t < 18446744073709551616) :
  Ret Try.prog 32 [.pointer (some ⟨B, 0, none⟩), .agg #[.float .f64 x, .float .f64 y, .float .f64 t]] w fun r w' =>
   (addE ms.length x y t = 0 ∧ ∃ vS' MS' vT' MT', r = .tuple #[.int .i64 ms.length, .int .i64 0] ∧ HS w0 w' (dbs B far vS' MS' vT' MT' (ms ++ [⟨⟨x, y, t, none, 0, []⟩, []⟩]) ++ R) ∧ DOk w0 B vS' MS' vT' MT' (ms ++ [⟨⟨x, y, t, none, 0, []⟩, []⟩])) ∨
   (addE ms.length x y t ≠ 0 ∧ r = .tuple #[.int .i64 0, .int .i64 (addE ms.length x y t)] ∧ HS w0 w' (dbs B far vS MS vT MT ms ++ R)) := by
 have hbS := hN.bls
 have hbT := hN.blt
 have hlen := hN.len
 obtain ⟨aS, cS, rfl, hkS⟩ := hbS.slice
 obtain ⟨aT, cT, rfl, hkT⟩ := hbT.slice
 refine calls_of_W Try.func32 rfl rfl rfl (W_seq (W_region (L_box rfl hs rfl ?_)))
 intro b3 w hb3 hnb3 hs
 dsimp only [List.set_cons_succ, List.set_cons_zero, List.cons_append, List.nil_append] at hs
 refine L_assign rfl rfl (L_assign rfl rfl (RL_then (W_seq (W_seq (W_region ?_)))))
 replace hs : HS w0 w ((b3, Row 37 [.float .f64 x, .float .f64 y, .float .f64 t]) :: (dbs B far (.slice aS ms.length cS) MS (.slice aT ms.length cT) MT ms ++ R)) := HS.push (L := dbs B far (.slice aS ms.length cS) MS (.slice aT ms.length cT) MT ms ++ R) hs
 by_cases hk : 16 ≤ ms.length
 ·
  have e : addE ms.length x y t = 4 := by unfold addE; rw [if_pos hk]
  refine L_move rfl rfl (L_nilCheck rfl rfl (L_fieldAddr rfl (off := 1) Try.underlying79 rfl rfl Try.ti58 rfl (L_load rfl Try.one58 rfl (by exact hs.cell (i := 1) rfl rfl) ?_)))
  refine L_len rfl Try.underlying58 rfl (L_geq rfl rfl rfl (dtrue (by omega)) ?_)
  refine RL_then (W_if_true rfl (W_seq (W_region (L_assign rfl rfl (L_assign rfl rfl (RL_then (W_ret' (Ex_then_ret (Ex_done2 rfl rfl rfl ?_)))))))))
  exact ⟨_, rfl, .inr ⟨by rw [e]; decide, by rw [e], HS.pop hs hb3⟩⟩
 ·
  obtain ⟨fx, hfx⟩ : ∃ fx, finB x = fx := ⟨_, rfl⟩
  obtain ⟨fy, hfy⟩ : ∃ fy, finB y = fy := ⟨_, rfl⟩
  obtain ⟨ft, hft⟩ : ∃ ft, finB t = ft := ⟨_, rfl⟩
  have e : addE ms.length x y t = if (fx && (fy && ft)) then 0 else 6 := by unfold addE; rw [if_neg hk]; simp [hfx, hfy, hft]
  refine L_move rfl rfl (L_nilCheck rfl rfl (L_fieldAddr rfl (off := 1) Try.underlying79 rfl rfl Try.ti58 rfl (L_load rfl Try.one58 rfl (by exact hs.cell (i := 1) rfl rfl) ?_)))
  refine L_len rfl Try.underlying58 rfl (L_geq rfl rfl rfl (dfalse (by omega)) ?_)
  refine RL_then (W_if_false rfl (W_skip' (Nx_then (W_seq (W_region (L_fieldAddr rfl (off := 0) Try.underlying37 rfl rfl Try.ti35 rfl (L_fieldAddr rfl (off := 0) Try.underlying35 rfl rfl Try.ti22 rfl (L_load rfl Try.one22 rfl (by exact hs.cell (i := 0) rfl rfl) ?_))))))))
  refine L_call rfl Try.fun31 rfl (rfin_ok x w) ?_
  rintro _ w ⟨rfl, rfl⟩
  rw [finD_same hx, hfx]
  refine L_assign rfl rfl (RL_then (W_seq (W_region (L_fieldAddr rfl (off := 0) Try.underlying37 rfl rfl Try.ti35 rfl (L_fieldAddr rfl (off := 1) Try.underlying35 rfl rfl Try.ti22 rfl (L_load rfl Try.one22 rfl (by exact hs.cell (i := 0) rfl rfl) ?_))))))
  refine L_call rfl Try.fun31 rfl (rfin_ok y _) ?_
  rintro _ w ⟨rfl, rfl⟩
  rw [finD_same hy, hfy]
  refine L_assign rfl rfl (RL_then (W_seq (W_region (L_fieldAddr rfl (off := 2) Try.underlying37 rfl rfl Try.ti22 rfl (L_load rfl Try.one22 rfl (by exact hs.cell (i := 0) rfl rfl) ?_)))))
  refine L_call rfl Try.fun31 rfl (rfin_ok t _) ?_
  rintro _ w ⟨rfl, rfl⟩
  rw [finD_same ht, hft]
  refine L_assign rfl rfl (RL_then (W_seq (W_seq ?_)))
  cases fx
  ·
   refine W_region (L_move rfl rfl (L_not rfl rfl (L_move rfl rfl (RL_skip rfl rfl rfl rfl (RL_skip rfl rfl rfl rfl (L_pick_t rfl rfl rfl (L_move rfl rfl (RL_skip rfl rfl rfl rfl (RL_skip rfl rfl rfl rfl (L_pick_t rfl rfl rfl (RL_then (W_if_true rfl ?_))))))))))))
   refine W_seq (W_region (L_assign rfl rfl (L_assign rfl rfl (RL_then (W_ret' (Ex_then_ret (Ex_done2 rfl rfl rfl ?_)))))))
   exact ⟨_, rfl, .inr ⟨by rw [e]; simp, by rw [e]; rfl, HS.pop hs hb3⟩⟩
  ·
   cases fy
   ·
    refine W_region (L_move rfl rfl (L_not rfl rfl (L_move rfl rfl (RL_want rfl rfl (L_move rfl rfl (RL_want rfl rfl (L_not rfl rfl (L_pick_f rfl rfl rfl (L_move rfl rfl (RL_skip rfl rfl rfl rfl (RL_skip rfl rfl rfl rfl (L_pick_t rfl rfl rfl ?_))))))))))))
    refine RL_then (W_if_true rfl (W_seq (W_region (L_assign rfl rfl (L_assign rfl rfl (RL_then (W_ret' (Ex_then_ret (Ex_done2 rfl rfl rfl ?_)))))))))
    exact ⟨_, rfl, .inr ⟨by rw [e]; simp, by rw [e]; rfl, HS.pop hs hb3⟩⟩
   ·
    cases ft
    ·
     refine W_region (L_move rfl rfl (L_not rfl rfl (L_move rfl rfl (RL_want rfl rfl (L_move rfl rfl (RL_want rfl rfl (L_not rfl rfl (L_pick_f rfl rfl rfl (L_move rfl rfl (RL_want rfl rfl (L_move rfl rfl (RL_want rfl rfl ?_))))))))))))
     refine L_not rfl rfl (L_pick_f rfl rfl rfl (RL_then (W_if_true rfl (W_seq (W_region (L_assign rfl rfl (L_assign rfl rfl (RL_then (W_ret' (Ex_then_ret (Ex_done2 rfl rfl rfl ?_)))))))))))
     exact ⟨_, rfl, .inr ⟨by rw [e]; simp, by rw [e]; rfl, HS.pop hs hb3⟩⟩
    ·
     refine W_region (L_move rfl rfl (L_not rfl rfl (L_move rfl rfl (RL_want rfl rfl (L_move rfl rfl (RL_want rfl rfl (L_not rfl rfl (L_pick_f rfl rfl rfl (L_move rfl rfl (RL_want rfl rfl (L_move rfl rfl (RL_want rfl rfl ?_))))))))))))
     refine L_not rfl rfl (L_pick_f rfl rfl rfl (RL_then (W_if_false rfl (W_skip' (Nx_then (W_seq ?_))))))
     obtain ⟨LB, hLB⟩ : ∃ LB : Bks, LB = MT ++ (rmb ms ++ R) := ⟨_, rfl⟩
     have hsA : HS w0 w (((b3, Row 37 [.float .f64 x, .float .f64 y, .float .f64 t]) :: (B, Row 79 [.float .f64 far, .slice aS ms.length cS, .slice aT ms.length cT]) :: LB) ++ MS) := by rw [hLB]; exact HS.re hs (fun c => by simp only [List.map_append, List.map_cons, List.map_nil, List.sum_append, List.sum_cons, List.sum_nil]; omega)
     clear hs
     have hs := hsA
     clear hsA
     refine W_sg Try.mixed ?_
     replace hs := hs.drewN 1
     refine SG_stage [0, 1, 2, 3] [] [] (fun _ _ _ => False) (g' := 7) (by kernel_rfl) (by kernel_rfl) (fun _ _ _ _ _ h => h) hs ?_
     refine PL_val rfl (fun w => R_move rfl) ?_
     refine PL_val rfl (fun w => R_move rfl) ?_
     refine PL_val rfl (fun w => R_nilCheck rfl) ?_
     refine PL_val rfl (fun w => R_fieldAddr (off := 1) Try.underlying79 rfl rfl Try.ti58 rfl) ?_
     refine PL_end (HL_tail ?_)
     intro w hs
     refine RL_sg ?_
     refine SG_join (g' := 3) (l' := #[true, true, true, true, true, true, true, true, false, false, false]) (fun S => ∀ (v43 : Value) (M43 : Bks) (w : World), (HS w0 w (((b3, Row 37 [.float .f64 x, .float .f64 y, .float .f64 t]) :: (B, Row 79 [.float .f64 far, .slice aS ms.length cS, .slice aT ms.length cT]) :: LB) ++ M43)) ∧ (Bl w0 37 3 v43 (ms.length + 1) (scs ms ++ [.float .f64 x, .float .f64 y, .float .f64 t]) M43) → S [(0, .pointer (some ⟨B, 0, none⟩)), (36, .pointer (some ⟨B, 0, none⟩)), (43, v43)] w) ?_ ?_
     ·
      intro fin
      refine SG_pick2 (i := 4) (l1 := #[true, true, true, true, true, false, false, false, false, false, false]) (j := 5) (l2 := #[true, true, true, true, false, true, false, false, false, false, false]) (by kernel_rfl) (by kernel_rfl) (by kernel_rfl) (by kernel_rfl) ?_ ?_
      ·
       refine L_load rfl Try.one58 rfl (by exact hs.cell (i := 1) rfl rfl) ?_
       refine RL_sg (SG_pick1 (i := 5) (l1 := #[true, true, true, true, true, true, false, false, false, false, false]) (by kernel_rfl) (by kernel_rfl) (by kernel_rfl) ?_)
       refine L_loadA rfl Try.agg37 Try.ti37 rfl (by exact cellsAt_whole (hs.get (i := 0) rfl)) ?_
       refine RL_sg (SG_pick1 (i := 6) (l1 := #[true, true, true, true, true, true, true, false, false, false, false]) (by kernel_rfl) (by kernel_rfl) (by kernel_rfl) ?_)
       refine L_buildSlice rfl hs Try.underlying58 Try.ti37 rfl (by decide) rfl (by simp [Value.cells]) ?_
       intro b42 w hb42 hnb42 hs
       skip
       refine RL_sg (SG_pick1 (i := 7) (l1 := #[true, true, true, true, true, true, true, true, false, false, false]) (by kernel_rfl) (by kernel_rfl) (by kernel_rfl) ?_)
       refine L_appendT (L := (b3, Row 37 [.float .f64 x, .float .f64 y, .float .f64 t]) :: (B, Row 79 [.float .f64 far, .slice aS ms.length cS, .slice aT ms.length cT]) :: LB) (M := MS) (news := [.float .f64 x, .float .f64 y, .float .f64 t]) rfl Try.underlying58 Try.ti37 rfl hs (by assumption) hbS rfl rfl rfl (by simp [Value.oneCell']) (by omega) (by omega) ?_; intro v43 w M43 hs hb43
       refine RL_sg ?_
       refine SG_env (fin v43 M43 w ⟨hs, hb43⟩) (looks_cons rfl (looks_cons rfl (looks_cons rfl looks_nil)))
      ·
       refine L_loadA rfl Try.agg37 Try.ti37 rfl (by exact cellsAt_whole (hs.get (i := 0) rfl)) ?_
       refine RL_sg ?_
       refine SG_pick2 (i := 4) (l1 := #[true, true, true, true, true, true, false, false, false, false, false]) (j := 6) (l2 := #[true, true, true, true, false, true, true, false, false, false, false]) (by kernel_rfl) (by kernel_rfl) (by kernel_rfl) (by kernel_rfl) ?_ ?_
       ·
        refine L_load rfl Try.one58 rfl (by exact hs.cell (i := 1) rfl rfl) ?_
        refine RL_sg (SG_pick1 (i := 6) (l1 := #[true, true, true, true, true, true, true, false, false, false, false]) (by kernel_rfl) (by kernel_rfl) (by kernel_rfl) ?_)
        refine L_buildSlice rfl hs Try.underlying58 Try.ti37 rfl (by decide) rfl (by simp [Value.cells]) ?_
        intro b42 w hb42 hnb42 hs
        skip
        refine RL_sg (SG_pick1 (i := 7) (l1 := #[true, true, true, true, true, true, true, true, false, false, false]) (by kernel_rfl) (by kernel_rfl) (by kernel_rfl) ?_)
        refine L_appendT (L := (b3, Row 37 [.float .f64 x, .float .f64 y, .float .f64 t]) :: (B, Row 79 [.float .f64 far, .slice aS ms.length cS, .slice aT ms.length cT]) :: LB) (M := MS) (news := [.float .f64 x, .float .f64 y, .float .f64 t]) rfl Try.underlying58 Try.ti37 rfl hs (by assumption) hbS rfl rfl rfl (by simp [Value.oneCell']) (by omega) (by omega) ?_; intro v43 w M43 hs hb43
        refine RL_sg ?_
        refine SG_env (fin v43 M43 w ⟨hs, hb43⟩) (looks_cons rfl (looks_cons rfl (looks_cons rfl looks_nil)))
       ·
        refine L_buildSlice rfl hs Try.underlying58 Try.ti37 rfl (by decide) rfl (by simp [Value.cells]) ?_
        intro b42 w hb42 hnb42 hs
        skip
        refine RL_sg (SG_pick1 (i := 4) (l1 := #[true, true, true, true, true, true, true, false, false, false, false]) (by kernel_rfl) (by kernel_rfl) (by kernel_rfl) ?_)
        refine L_load rfl Try.one58 rfl (by exact hs.cell (i := 1) rfl rfl) ?_
        refine RL_sg (SG_pick1 (i := 7) (l1 := #[true, true, true, true, true, true, true, true, false, false, false]) (by kernel_rfl) (by kernel_rfl) (by kernel_rfl) ?_)
        refine L_appendT (L := (b3, Row 37 [.float .f64 x, .float .f64 y, .float .f64 t]) :: (B, Row 79 [.float .f64 far, .slice aS ms.length cS, .slice aT ms.length cT]) :: LB) (M := MS) (news := [.float .f64 x, .float .f64 y, .float .f64 t]) rfl Try.underlying58 Try.ti37 rfl hs (by assumption) hbS rfl rfl rfl (by simp [Value.oneCell']) (by omega) (by omega) ?_; intro v43 w M43 hs hb43
        refine RL_sg ?_
        refine SG_env (fin v43 M43 w ⟨hs, hb43⟩) (looks_cons rfl (looks_cons rfl (looks_cons rfl looks_nil)))
     ·
      clear hs
      intro v43 M43 w hI
      show SG _ _ _ _ _ _ [(0, .pointer (some ⟨B, 0, none⟩)), (36, .pointer (some ⟨B, 0, none⟩)), (43, v43)] w
      obtain ⟨hs, hb43⟩ := hI
      obtain ⟨aS2, cS2, rfl, hkS2⟩ := hb43.slice
      refine SG_pick1 (i := 8) (l1 := #[true, true, true, true, true, true, true, true, true, false, false]) (by kernel_rfl) (by kernel_rfl) (by kernel_rfl) ?_
      refine L_nilCheck rfl rfl (RL_sg (SG_pick1 (i := 9) (l1 := #[true, true, true, true, true, true, true, true, true, true, false]) (by kernel_rfl) (by kernel_rfl) (by kernel_rfl) ?_))
      refine L_fieldAddr rfl (off := 1) Try.underlying79 rfl rfl Try.ti58 rfl (RL_sg (SG_pick1 (i := 10) (l1 := #[true, true, true, true, true, true, true, true, true, true, true]) (by kernel_rfl) (by kernel_rfl) (by kernel_rfl) ?_))
      refine L_store hs (i := 1) rfl Try.ti58 rfl rfl (by rfl) (by simp) rfl ?_
      intro w hs
      dsimp only [List.set_cons_succ, List.set_cons_zero, List.cons_append, List.nil_append] at hs
      refine RL_sg (SG_end (by kernel_rfl) ?_)
      refine Nx_then (W_seq ?_)
      obtain ⟨LC, hLC⟩ : ∃ LC : Bks, LC = M43 ++ (rmb ms ++ R) := ⟨_, rfl⟩
      have h0 : HS w0 w (((b3, Row 37 [.float .f64 x, .float .f64 y, .float .f64 t]) :: (B, Row 79 [.float .f64 far, .slice aS2 (ms.length + 1) cS2, .slice aT ms.length cT]) :: LB) ++ M43) := hs
      rw [hLB] at h0
      have hsA : HS w0 w (((b3, Row 37 [.float .f64 x, .float .f64 y, .float .f64 t]) :: (B, Row 79 [.float .f64 far, .slice aS2 (ms.length + 1) cS2, .slice aT ms.length cT]) :: LC) ++ MT) := by rw [hLC]; exact HS.re h0 (fun c => by simp only [List.map_append, List.map_cons, List.map_nil, List.sum_append, List.sum_cons, List.sum_nil]; omega)
      clear hs h0
      have hs := hsA
      clear hsA
      refine W_region (L_move rfl rfl (L_move rfl rfl (L_nilCheck rfl rfl (L_fieldAddr rfl (off := 2) Try.underlying79 rfl rfl Try.ti59 rfl (L_load rfl Try.one59 rfl (by exact hs.cell (i := 1) rfl rfl) ?_)))))
      refine L_buildSlice1 rfl hs Try.underlying59 Try.ti38 rfl (by decide) rfl rfl ?_
      intro b51 w hb51 hnb51 hs
      simp only [List.map_cons, List.map_nil] at hs
      dsimp only [List.set_cons_succ, List.set_cons_zero, List.cons_append, List.nil_append] at hs
      have h0 : HS w0 w ((((b3, Row 37 [.float .f64 x, .float .f64 y, .float .f64 t]) :: (B, Row 79 [.float .f64 far, .slice aS2 (ms.length + 1) cS2, .slice aT ms.length cT]) :: LC) ++ MT) ++ [(b51, Row 38 [.slice none 0 0])]) := hs
      clear hs
      refine L_appendT (L := (b3, Row 37 [.float .f64 x, .float .f64 y, .float .f64 t]) :: (B, Row 79 [.float .f64 far, .slice aS2 (ms.length + 1) cS2, .slice aT ms.length cT]) :: LC) (M := MT) (news := [.slice none 0 0]) rfl Try.underlying59 Try.ti38 rfl h0 (by assumption) hbT rfl rfl rfl (by simp [Value.oneCell']) (by omega) (by omega) ?_
      clear h0
      rintro v52 w M52 hs hb52
      obtain ⟨aT2, cT2, rfl, hkT2⟩ := hb52.slice
      refine L_nilCheck rfl rfl (L_fieldAddr rfl (off := 2) Try.underlying79 rfl rfl Try.ti59 rfl (L_store hs (i := 1) rfl Try.ti59 rfl rfl (by rfl) (by simp) rfl ?_))
      intro w hs
      dsimp only [List.set_cons_succ, List.set_cons_zero, List.cons_append, List.nil_append] at hs
      refine RL_then (W_seq (W_region (L_move rfl rfl (L_nilCheck rfl rfl (L_fieldAddr rfl (off := 1) Try.underlying79 rfl rfl Try.ti58 rfl (L_load rfl Try.one58 rfl (by exact hs.cell (i := 1) rfl rfl) ?_))))))
      refine L_len rfl Try.underlying58 rfl (L_sub rfl rfl rfl (wrp_i64 (by omega)) ?_)
      refine L_assign rfl rfl (L_assign rfl rfl (RL_then (W_ret' (Ex_done2 rfl rfl rfl ?_))))
      have h1 : HS w0 w (((b3, Row 37 [.float .f64 x, .float .f64 y, .float .f64 t]) :: (B, Row 79 [.float .f64 far, .slice aS2 (ms.length + 1) cS2, .slice aT2 (ms.length + 1) cT2]) :: LC) ++ M52) := hs
      rw [hLC] at h1
      refine ⟨_, rfl, .inl ⟨by rw [e]; rfl, .slice aS2 (ms.length + 1) cS2, M43, .slice aT2 (ms.length + 1) cT2, M52, ?_, ?_, ?_⟩⟩
      ·
       rw [show ((ms.length + 1 : Nat) : Int) - 1 = (ms.length : Int) by omega]
      ·
       rw [dbs, show rmb (ms ++ [⟨⟨x, y, t, none, 0, []⟩, []⟩]) = rmb ms by simp [rmb]]
       exact HS.pop (p := (b3, Row 37 [.float .f64 x, .float .f64 y, .float .f64 t])) (HS.re h1 (fun c => by simp only [List.map_append, List.map_cons, List.map_nil, List.sum_append, List.sum_cons, List.sum_nil]; omega)) hb3
      ·
       refine ⟨hN.own, ?_, ?_, fun m hm => (List.mem_append.1 hm).elim (hN.each m) fun h => ?_, by rw [List.length_append, List.length_singleton]; omega⟩
       ·
        rw [List.length_append, scs_app]; exact hb43
       ·
        rw [List.length_append, tvs_app]; exact hb52
       ·
        rw [List.mem_singleton.1 h]
        exact ⟨.nil, Nat.zero_le _, ht⟩
end Go.Proofs.Ytknpoemkmcdgcaa

namespace Go.Proofs.Ytknpoemkmcdgcaa
open Go Go.Lk
/-! ### The document's net: Tell -/
theorem set_same {α : Type} {l : List α} {q : Nat} {d x : α} (hx : x = l.getD q d) : l.set q x = l := by
 subst hx
 apply List.ext_getElem?
 intro j
 rw [List.getElem?_set]
 by_cases hj : q = j
 ·
  subst hj
  rw [if_pos rfl]
  by_cases h : q < l.length
  ·
   rw [if_pos h, List.getElem?_eq_getElem h, List.getD_eq_getElem?_getD, List.getElem?_eq_getElem h]; rfl
  ·
   rw [if_neg h, List.getElem?_eq_none (by omega)]
 ·
  rw [if_neg hj]
theorem scs_set {ms : List RM} {q : Nat} {m : RM} (hq : q < ms.length) (hm : m.sc = (ms.getD q rm0).sc) : scs (ms.set q m) = scs ms := by
 have e : ∀ l : List RM, scs l = (l.map RM.sc).flatten := fun l => by unfold scs; rw [List.flatMap_def]
 rw [e, e, List.map_set, set_same (d := []) (by rw [hm]; simp only [List.getD_eq_getElem?_getD, List.getElem?_map, List.getElem?_eq_getElem hq]; rfl)]
theorem tvs_set (ms : List RM) (q : Nat) (m : RM) : tvs (ms.set q m) = (tvs ms).set q m.v := by unfold tvs; rw [List.map_set]
theorem tvs_len (ms : List RM) : (tvs ms).length = ms.length := List.length_map ..
set_option maxHeartbeats 1000000 in
theorem rtellW (w0 w : World) (B far k cS cc : Nat) (aS ao : Option Addr) (q : Int) (Y : Bks) (a : Option Addr) (n c : Nat) (ts : List Tk) (hs : HS w0 w ((B, Row 79 [.float .f64 far, .slice aS k cS, .slice ao k cc]) :: Y)) (hk16 : k ≤ 16)
  (ho : Own w0 ((B, Row 79 [.float .f64 far, .slice aS k cS, .slice ao k cc]) :: Y)) (hA : ∀ w' L', HS w0 w' L' → Own w0 L' → (∀ p ∈ (B, Row 79 [.float .f64 far, .slice aS k cS, .slice ao k cc]) :: Y, p ∈ L') → SlC w' a (tcs ts)) (hn : ts.length = n) (hn2 : n ≤ 1000000000) (hlt : ∀ i, i < n → TkLt (ts.getD i tk0))
  (hY : ∀ q' : Nat, q = (q' : Int) → q' < k → ∃ g zs Z, ao = some ⟨g, 0, none⟩ ∧ Y = (g, Row 38 zs) :: Z ∧ q' < zs.length) :
  Ret Try.prog 33 [.pointer (some ⟨B, 0, none⟩), .int .i64 q, .slice a n c] w fun r w' => r = .int .i64 (tellE k q ts) ∧
   ((tellE k q ts ≠ 0 ∧ HS w0 w' ((B, Row 79 [.float .f64 far, .slice aS k cS, .slice ao k cc]) :: Y)) ∨
    (tellE k q ts = 0 ∧ ∃ (q' g : Nat) (zs : List Value) (Z : Bks) (v2 : Value) (M2 : Bks), q = (q' : Int) ∧ q' < k ∧ ao = some ⟨g, 0, none⟩ ∧ Y = (g, Row 38 zs) :: Z ∧ HS w0 w' (((B, Row 79 [.float .f64 far, .slice aS k cS, .slice ao k cc]) :: (g, Row 38 (zs.set q' v2)) :: Z) ++ M2) ∧ Bl w0 48 15 v2 (firm ts).length (tcs (firm ts)) M2)) := by
 refine calls_of_W Try.func33 rfl rfl rfl ?_
 by_cases hq : q < 0 ∨ (k : Int) ≤ q
 ·
  have e : tellE k q ts = 280 := by unfold tellE; rw [if_pos hq]
  by_cases hq0 : q < 0
  ·
   refine W_seq (W_region (L_assign rfl rfl (RL_then (W_seq (W_seq (W_region (L_move rfl rfl (L_lss rfl rfl rfl (dtrue (by omega)) ?_))))))))
   refine L_move rfl rfl (RL_skip rfl rfl rfl rfl (RL_skip rfl rfl rfl rfl (RL_skip rfl rfl rfl rfl (RL_skip rfl rfl rfl rfl (RL_skip rfl rfl rfl rfl (RL_skip rfl rfl rfl rfl (RL_skip rfl rfl rfl rfl (L_pick_t rfl rfl rfl (RL_then (W_if_true rfl (W_seq (W_region ?_))))))))))))
   refine L_assign rfl rfl (RL_then (W_ret' (Ex_then_ret (Ex_done1 rfl rfl ?_))))
   exact ⟨_, rfl, by rw [e], .inl ⟨by rw [e]; decide, hs⟩⟩
  ·
   refine W_seq (W_region (L_assign rfl rfl (RL_then (W_seq (W_seq (W_region (L_move rfl rfl (L_lss rfl rfl rfl (dfalse (by omega)) ?_))))))))
   refine L_move rfl rfl (RL_want rfl rfl (L_move rfl rfl (RL_want rfl rfl (L_move rfl rfl (RL_want rfl rfl (L_nilCheck rfl rfl (RL_want rfl rfl (L_fieldAddr rfl (off := 1) Try.underlying79 rfl rfl Try.ti58 rfl (RL_want rfl rfl (L_load rfl Try.one58 rfl (by exact hs.cell (i := 0) rfl rfl) ?_))))))))))
   refine RL_want rfl rfl (L_len rfl Try.underlying58 rfl (RL_want rfl rfl (L_geq rfl rfl rfl (dtrue (by omega)) ?_)))
   refine L_pick_f rfl rfl rfl (RL_then (W_if_true rfl (W_seq (W_region (L_assign rfl rfl (RL_then (W_ret' (Ex_then_ret (Ex_done1 rfl rfl ?_)))))))))
   exact ⟨_, rfl, by rw [e], .inl ⟨by rw [e]; decide, hs⟩⟩
 ·
  rw [not_or] at hq
  obtain ⟨q, rfl⟩ : ∃ q' : Nat, q = (q' : Int) := ⟨q.toNat, by omega⟩
  have hqk : q < k := by omega
  obtain ⟨g, zs, Z, rfl, rfl, hzl⟩ := hY q rfl hqk
  refine W_seq (W_region (L_assign rfl rfl (RL_then (W_seq (W_seq (W_region (L_move rfl rfl (L_lss rfl rfl rfl (dfalse (by omega)) ?_))))))))
  refine L_move rfl rfl (RL_want rfl rfl (L_move rfl rfl (RL_want rfl rfl (L_move rfl rfl (RL_want rfl rfl (L_nilCheck rfl rfl (RL_want rfl rfl (L_fieldAddr rfl (off := 1) Try.underlying79 rfl rfl Try.ti58 rfl (RL_want rfl rfl (L_load rfl Try.one58 rfl (by exact hs.cell (i := 0) rfl rfl) ?_))))))))))
  refine RL_want rfl rfl (L_len rfl Try.underlying58 rfl (RL_want rfl rfl (L_geq rfl rfl rfl (dfalse (by omega)) ?_)))
  refine L_pick_f rfl rfl rfl (RL_then (W_if_false rfl ?_))
  by_cases hn3 : 256 < n
  ·
   have e : tellE k q ts = 3 := by unfold tellE; rw [if_neg (by omega), if_pos (by omega)]
   refine W_skip' (Nx_then (W_seq (W_seq (W_region (L_move rfl rfl (L_len rfl Try.underlying38 rfl (L_gtr rfl rfl rfl (dtrue (by omega)) ?_)))))))
   refine RL_then (W_if_true rfl (W_seq (W_region (L_assign rfl rfl (RL_then (W_ret' (Ex_then_ret (Ex_done1 rfl rfl ?_))))))))
   exact ⟨_, rfl, by rw [e], .inl ⟨by rw [e]; decide, hs⟩⟩
  ·
   refine W_skip' (Nx_then (W_seq (W_seq (W_region (L_move rfl rfl (L_len rfl Try.underlying38 rfl (L_gtr rfl rfl rfl (dfalse (by omega)) ?_)))))))
   refine RL_then (W_if_false rfl (W_skip' (Nx_then (W_seq (W_region (L_assign rfl rfl (RL_then (W_seq (W_seq (W_region (L_assign rfl rfl (RL_then ?_))))))))))))
   refine W_block ?_
   obtain ⟨L, hL⟩ : ∃ L, L = (B, Row 79 [.float .f64 far, .slice aS k cS, .slice (some ⟨g, 0, none⟩) k cc]) :: (g, Row 38 zs) :: Z := ⟨_, rfl⟩
   rw [← hL] at hs hA ho
   refine W_loop4 (fun (i : Nat) (v7 : Value) (M7 : Bks) (w : World) => [(0, .pointer (some ⟨B, 0, none⟩)), (1, .int .i64 q), (2, .slice a n c), (7, v7), (8, .int .i64 i)]) (fun (i : Nat) (v7 : Value) (M7 : Bks) (w : World) => w) (fun (i : Nat) (v7 : Value) (M7 : Bks) (w : World) => (i ≤ n) ∧ (∀ j, j < i → finT (ts.getD j tk0) = true) ∧ (Bl w0 48 15 v7 (firm (ts.take i)).length (tcs (firm (ts.take i))) M7) ∧ (HS w0 w (L ++ M7))) (fun (i : Nat) (v7 : Value) (M7 : Bks) (w : World) => n - i) (0) (.slice none 0 0) ([]) (w) (is := [0, 1, 2, 7, 8]) rfl rfl ?_ ?_
   ·
    exact ⟨Nat.zero_le _, fun j hj => absurd hj (Nat.not_lt_zero _), .nil, by rw [List.append_nil]; exact hs⟩
   ·
    clear hs
    intro i v7 M7 w hI
    show W _ _ _ _ [(0, .pointer (some ⟨B, 0, none⟩)), (1, .int .i64 q), (2, .slice a n c), (7, v7), (8, .int .i64 i)] w
    obtain ⟨hi, hfi, hb7, hs⟩ := hI
    by_cases hil : i < n
    ·
     have hA1 := fun {w' : World} {L' : Bks} (h : HS w0 w' L') (h2 : Own w0 L') (h3 : ∀ p ∈ L, p ∈ L') => hA w' L' h h2 h3
     have hAw := hA1 hs (ho.app hb7.own) (fun p hp => List.mem_append_left _ hp)
     obtain ⟨t, hth⟩ : ∃ t, t = ts.getD i tk0 := ⟨_, rfl⟩
     have htl := hlt i hil
     rw [← hth] at htl
     have hil' : i < ts.length := by omega
     have hg : ∀ {j : Nat} {v : Value}, t.cells[j]? = some v → (tcs ts)[i * 15 + j]? = some v := fun h => tcs_get hil' (hth ▸ h)
     refine W_seq (W_seq (W_region (L_move rfl rfl (L_move rfl rfl (L_len rfl Try.underlying38 rfl (L_lss rfl rfl rfl (dtrue (by omega)) ?_))))))
     refine RL_then (W_if_true rfl (W_skip' (Nx_then (W_seq (W_block (W_seq (W_region (L_move rfl rfl (L_move rfl rfl ?_)))))))))
     refine L_idxN rfl Try.underlying38 Try.ti48 rfl rfl (natc_k _) (by omega) (hAw.ao (by rw [tcs_len]; omega)) ?_
     refine L_fieldAddr rfl (off := 2) Try.underlying48 rfl rfl Try.ti45 rfl (L_fieldAddr rfl (off := 0) Try.underlying45 rfl rfl Try.ti22 rfl ?_)
     refine L_load rfl Try.one22 rfl (by (rw [add_add, add_add]; exact hAw.get (hg (j := 2) rfl))) ?_
     refine L_call rfl Try.fun31 rfl (rfin_ok t.xx w) ?_
     rintro _ w ⟨rfl, rfl⟩
     rw [finD_same htl.xx]
     refine L_assign rfl rfl (RL_then (W_seq (W_region (L_move rfl rfl (L_move rfl rfl ?_)))))
     refine L_idxN rfl Try.underlying38 Try.ti48 rfl rfl (natc_k _) (by omega) (hAw.ao (by rw [tcs_len]; omega)) ?_
     refine L_fieldAddr rfl (off := 2) Try.underlying48 rfl rfl Try.ti45 rfl (L_fieldAddr rfl (off := 1) Try.underlying45 rfl rfl Try.ti22 rfl ?_)
     refine L_load rfl Try.one22 rfl (by (rw [add_add, add_add]; exact hAw.get (hg (j := 3) rfl))) ?_
     refine L_call rfl Try.fun31 rfl (rfin_ok t.xv _) ?_
     rintro _ w ⟨rfl, rfl⟩
     rw [finD_same htl.xv]
     refine L_assign rfl rfl (RL_then (W_seq (W_region (L_move rfl rfl (L_move rfl rfl ?_)))))
     refine L_idxN rfl Try.underlying38 Try.ti48 rfl rfl (natc_k _) (by omega) (hAw.ao (by rw [tcs_len]; omega)) ?_
     refine L_fieldAddr rfl (off := 7) Try.underlying48 rfl rfl Try.ti45 rfl (L_fieldAddr rfl (off := 0) Try.underlying45 rfl rfl Try.ti22 rfl ?_)
     refine L_load rfl Try.one22 rfl (by (rw [add_add, add_add]; exact hAw.get (hg (j := 7) rfl))) ?_
     refine L_call rfl Try.fun31 rfl (rfin_ok t.yx _) ?_
     rintro _ w ⟨rfl, rfl⟩
     rw [finD_same htl.yx]
     refine L_assign rfl rfl (RL_then (W_seq (W_region (L_move rfl rfl (L_move rfl rfl ?_)))))
     refine L_idxN rfl Try.underlying38 Try.ti48 rfl rfl (natc_k _) (by omega) (hAw.ao (by rw [tcs_len]; omega)) ?_
     refine L_fieldAddr rfl (off := 7) Try.underlying48 rfl rfl Try.ti45 rfl (L_fieldAddr rfl (off := 1) Try.underlying45 rfl rfl Try.ti22 rfl ?_)
     refine L_load rfl Try.one22 rfl (by (rw [add_add, add_add]; exact hAw.get (hg (j := 8) rfl))) ?_
     refine L_call rfl Try.fun31 rfl (rfin_ok t.yv _) ?_
     rintro _ w ⟨rfl, rfl⟩
     rw [finD_same htl.yv]
     refine L_assign rfl rfl (RL_then (W_seq (W_seq ?_)))
     have hfT : finT t = (finB t.xx && (finB t.xv && (finB t.yx && finB t.yv))) := by unfold finT; simp
     obtain ⟨x1, h1⟩ : ∃ x, finB t.xx = x := ⟨_, rfl⟩
     obtain ⟨x2, h2⟩ : ∃ x, finB t.xv = x := ⟨_, rfl⟩
     obtain ⟨x3, h3⟩ : ∃ x, finB t.yx = x := ⟨_, rfl⟩
     obtain ⟨x4, h4⟩ : ∃ x, finB t.yv = x := ⟨_, rfl⟩
     rw [h1, h2, h3, h4] at hfT ⊢
     by_cases hft : finT t = true
     ·
      have hx : x1 = true ∧ x2 = true ∧ x3 = true ∧ x4 = true := by
       rw [hfT] at hft
       revert hft
       cases x1 <;> cases x2 <;> cases x3 <;> cases x4 <;> simp
      clear h1 h2 h3 h4 hfT
      obtain ⟨rfl, rfl, rfl, rfl⟩ := hx
      have htk := take_tk hil'
      rw [← hth] at htk
      have hfi' : ∀ j, j < i + 1 → finT (ts.getD j tk0) = true := fun j hj => by
       by_cases hji : j = i
       ·
        rw [hji, ← hth]; exact hft
       ·
        exact hfi j (by omega)
      obtain ⟨v9, hv9⟩ : ∃ v9, v9 = v7 := ⟨_, rfl⟩
      obtain ⟨a7, c7, rfl, hc7⟩ := hb7.slice
      by_cases hk : t.kind = 1
      ·
       have hfl := firm_len (ts.take i)
       rw [List.length_take] at hfl
       refine W_region (L_move rfl rfl (L_not rfl rfl (L_move rfl rfl (RL_want rfl rfl (L_move rfl rfl (RL_want rfl rfl (L_not rfl rfl (L_pick_f rfl rfl rfl (L_move rfl rfl (RL_want rfl rfl (L_move rfl rfl (RL_want rfl rfl ?_))))))))))))
       refine L_not rfl rfl (L_pick_f rfl rfl rfl (L_move rfl rfl (RL_want rfl rfl (L_move rfl rfl (RL_want rfl rfl (L_not rfl rfl (L_pick_f rfl rfl rfl (RL_then (W_if_false rfl (W_skip' (Nx_then (W_seq ?_))))))))))))
       refine W_region (L_move rfl rfl (L_move rfl rfl ?_))
       refine L_idxN rfl Try.underlying38 Try.ti48 rfl rfl (natc_k _) (by omega) (hAw.ao (by rw [tcs_len]; omega)) ?_
       refine L_fieldAddr rfl (off := 1) Try.underlying48 rfl rfl Try.ti43 rfl ?_
       refine L_load rfl Try.one43 rfl (by (rw [add_add]; exact hAw.get (hg (j := 1) rfl))) ?_
       refine L_eql rfl rfl rfl (dtrue (by omega)) ?_
       refine RL_then (W_if_true rfl (W_region (L_move rfl rfl (L_move rfl rfl (L_move rfl rfl ?_)))))
       refine L_idxN rfl Try.underlying38 Try.ti48 rfl rfl (natc_k _) (by omega) (hAw.ao (by rw [tcs_len]; omega)) ?_
       refine L_loadA rfl Try.agg48 Try.ti48 rfl (by exact hth ▸ tk_at hAw hil') ?_
       refine L_buildSlice rfl hs Try.underlying38 Try.ti48 rfl (by decide) rfl (by simp [Value.cells, Tk.cells]) ?_
       intro b86 w hb86 hnb86 hs
       skip
       replace hs : HS w0 w ((L ++ M7) ++ [(b86, Row 48 t.cells)]) := by simpa [Value.cells] using hs
       refine L_appendT (L := L) (M := M7) (news := t.cells) rfl Try.underlying38 Try.ti48 rfl hs (by assumption) hb7 rfl rfl rfl (Tk.one _) (by omega) (by omega) ?_
       intro v8 w M8 hs hb8
       obtain ⟨a8, c8, rfl, hc8⟩ := hb8.slice
       refine L_assign rfl rfl (RL_nil' (Nx_block (Nx_then (W_region (L_move rfl rfl (L_add rfl rfl rfl (wrp_i64 (by omega)) ?_))))))
       refine L_assign rfl rfl (RL_nil' ?_)
       refine Nx_loopP (i + 1, _, M8, w) (is := [0, 1, 2, 7, 8]) (I' := (fun (i : Nat) (v7 : Value) (M7 : Bks) (w : World) => (i ≤ n) ∧ (∀ j, j < i → finT (ts.getD j tk0) = true) ∧ (Bl w0 48 15 v7 (firm (ts.take i)).length (tcs (firm (ts.take i))) M7) ∧ (HS w0 w (L ++ M7))) (i + 1) (_) (M8) (w)) rfl rfl rfl ?_ ?_
       ·
        refine ⟨by omega, hfi', ?_, hs⟩
        rw [htk, firm_snoc_t hk, List.length_append, tcs_app, tcs_one']
        exact hb8
       ·
        omega
      ·
       refine W_region (L_move rfl rfl (L_not rfl rfl (L_move rfl rfl (RL_want rfl rfl (L_move rfl rfl (RL_want rfl rfl (L_not rfl rfl (L_pick_f rfl rfl rfl (L_move rfl rfl (RL_want rfl rfl (L_move rfl rfl (RL_want rfl rfl ?_))))))))))))
       refine L_not rfl rfl (L_pick_f rfl rfl rfl (L_move rfl rfl (RL_want rfl rfl (L_move rfl rfl (RL_want rfl rfl (L_not rfl rfl (L_pick_f rfl rfl rfl (RL_then (W_if_false rfl (W_skip' (Nx_then (W_seq ?_))))))))))))
       refine W_region (L_move rfl rfl (L_move rfl rfl ?_))
       refine L_idxN rfl Try.underlying38 Try.ti48 rfl rfl (natc_k _) (by omega) (hAw.ao (by rw [tcs_len]; omega)) ?_
       refine L_fieldAddr rfl (off := 1) Try.underlying48 rfl rfl Try.ti43 rfl ?_
       refine L_load rfl Try.one43 rfl (by (rw [add_add]; exact hAw.get (hg (j := 1) rfl))) ?_
       refine L_eql rfl rfl rfl (dfalse (by omega)) ?_
       refine RL_then (W_if_false rfl (W_skip' (Nx_block (Nx_then (W_region (L_move rfl rfl (L_add rfl rfl rfl (wrp_i64 (by omega)) ?_)))))))
       refine L_assign rfl rfl (RL_nil' ?_)
       refine Nx_loopP (i + 1, _, M7, w) (is := [0, 1, 2, 7, 8]) (I' := (fun (i : Nat) (v7 : Value) (M7 : Bks) (w : World) => (i ≤ n) ∧ (∀ j, j < i → finT (ts.getD j tk0) = true) ∧ (Bl w0 48 15 v7 (firm (ts.take i)).length (tcs (firm (ts.take i))) M7) ∧ (HS w0 w (L ++ M7))) (i + 1) (_) (M7) (w)) rfl rfl rfl ?_ ?_
       ·
        refine ⟨by omega, hfi', ?_, hs⟩
        rw [htk, firm_snoc_f hk]
        exact hb7
       ·
        omega
     ·
      have e : tellE k q ts = 6 := by
       unfold tellE
       rw [if_neg (by omega), if_neg (by omega), if_neg]
       intro h
       exact hft (List.all_eq_true.1 h t (by rw [hth]; exact getD_mem hil'))
      rw [hfT] at hft
      have hpick : (!x1 || (!x2 || (!x3 || !x4))) = true := by revert hft; cases x1 <;> cases x2 <;> cases x3 <;> cases x4 <;> decide
      clear h1 h2 h3 h4 hfT hft
      cases x1
      ·
       refine W_region (L_move rfl rfl (L_not rfl rfl (L_move rfl rfl (RL_skip rfl rfl rfl rfl (RL_skip rfl rfl rfl rfl (L_pick_t rfl rfl rfl (L_move rfl rfl (RL_skip rfl rfl rfl rfl (RL_skip rfl rfl rfl rfl (L_pick_t rfl rfl rfl (L_move rfl rfl (RL_skip rfl rfl rfl rfl ?_))))))))))))
       refine RL_skip rfl rfl rfl rfl (L_pick_t rfl rfl rfl (RL_then (W_if_true rfl (W_seq (W_region (L_assign rfl rfl (RL_then (W_ret' (Ex_then_ret (Ex_block_ret (Ex_then_ret (Ex_loop_ret ?_))))))))))))
       refine Ex_block_ret (Ex_then_ret (Ex_done1 rfl rfl ?_))
       exact ⟨_, rfl, by rw [e], .inl ⟨by rw [e]; decide, hL ▸ hs.dropR hb7.own⟩⟩
      ·
       cases x2
       ·
        refine W_region (L_move rfl rfl (L_not rfl rfl (L_move rfl rfl (RL_want rfl rfl (L_move rfl rfl (RL_want rfl rfl (L_not rfl rfl (L_pick_f rfl rfl rfl (L_move rfl rfl (RL_skip rfl rfl rfl rfl (RL_skip rfl rfl rfl rfl (L_pick_t rfl rfl rfl ?_))))))))))))
        refine L_move rfl rfl (RL_skip rfl rfl rfl rfl (RL_skip rfl rfl rfl rfl (L_pick_t rfl rfl rfl (RL_then (W_if_true rfl (W_seq (W_region (L_assign rfl rfl (RL_then (W_ret' (Ex_then_ret (Ex_block_ret ?_))))))))))))
        refine Ex_then_ret (Ex_loop_ret (Ex_block_ret (Ex_then_ret (Ex_done1 rfl rfl ?_))))
        exact ⟨_, rfl, by rw [e], .inl ⟨by rw [e]; decide, hL ▸ hs.dropR hb7.own⟩⟩
       ·
        cases x3
        ·
         refine W_region (L_move rfl rfl (L_not rfl rfl (L_move rfl rfl (RL_want rfl rfl (L_move rfl rfl (RL_want rfl rfl (L_not rfl rfl (L_pick_f rfl rfl rfl (L_move rfl rfl (RL_want rfl rfl (L_move rfl rfl (RL_want rfl rfl ?_))))))))))))
         refine L_not rfl rfl (L_pick_f rfl rfl rfl (L_move rfl rfl (RL_skip rfl rfl rfl rfl (RL_skip rfl rfl rfl rfl (L_pick_t rfl rfl rfl (RL_then (W_if_true rfl (W_seq (W_region (L_assign rfl rfl (RL_then (W_ret' ?_))))))))))))
         refine Ex_then_ret (Ex_block_ret (Ex_then_ret (Ex_loop_ret (Ex_block_ret (Ex_then_ret (Ex_done1 rfl rfl ?_))))))
         exact ⟨_, rfl, by rw [e], .inl ⟨by rw [e]; decide, hL ▸ hs.dropR hb7.own⟩⟩
        ·
         obtain rfl : x4 = false := by cases x4 <;> simp_all
         refine W_region (L_move rfl rfl (L_not rfl rfl (L_move rfl rfl (RL_want rfl rfl (L_move rfl rfl (RL_want rfl rfl (L_not rfl rfl (L_pick_f rfl rfl rfl (L_move rfl rfl (RL_want rfl rfl (L_move rfl rfl (RL_want rfl rfl ?_))))))))))))
         refine L_not rfl rfl (L_pick_f rfl rfl rfl (L_move rfl rfl (RL_want rfl rfl (L_move rfl rfl (RL_want rfl rfl (L_not rfl rfl (L_pick_f rfl rfl rfl (RL_then (W_if_true rfl (W_seq (W_region (L_assign rfl rfl ?_))))))))))))
         refine RL_then (W_ret' (Ex_then_ret (Ex_block_ret (Ex_then_ret (Ex_loop_ret (Ex_block_ret (Ex_then_ret (Ex_done1 rfl rfl ?_))))))))
         exact ⟨_, rfl, by rw [e], .inl ⟨by rw [e]; decide, hL ▸ hs.dropR hb7.own⟩⟩
    ·
     obtain rfl : i = n := by omega
     have e : tellE k q ts = 0 := by
      unfold tellE
      rw [if_neg (by omega), if_neg (by omega), if_pos]
      rw [List.all_eq_true]
      intro t ht
      obtain ⟨j, hj, rfl⟩ := List.getElem_of_mem ht
      have := hfi j (by omega)
      rwa [List.getD_eq_getElem?_getD, List.getElem?_eq_getElem hj] at this
     rw [List.take_of_length_le (by omega)] at hb7
     obtain ⟨a7, c7, rfl, hc7⟩ := hb7.slice
     rw [hL] at hs
     refine W_seq (W_seq (W_region (L_move rfl rfl (L_move rfl rfl (L_len rfl Try.underlying38 rfl (L_lss rfl rfl rfl (dfalse (by omega)) ?_))))))
     refine RL_then (W_if_false rfl (W_exit' (Ex_then_exit (Ex_loop_exit (Ex_block_hit (Nx_then (W_seq (W_region (L_move rfl rfl (L_nilCheck rfl rfl (L_fieldAddr rfl (off := 2) Try.underlying79 rfl rfl Try.ti59 rfl (L_load rfl Try.one59 rfl (by exact hs.cell (i := 0) rfl rfl) ?_))))))))))))
     refine L_move rfl rfl (L_move rfl rfl (L_idx1 rfl Try.underlying59 Try.ti38 rfl rfl (natc_k _) (by omega) rfl ?_))
     refine L_store hs (i := 1) rfl Try.ti38 rfl rfl (by exact add_lit0 _ _) (by omega) rfl ?_
     intro w hs
     dsimp only [List.set_cons_succ, List.set_cons_zero, List.cons_append, List.nil_append] at hs
     refine RL_then (W_seq (W_region (L_assign rfl rfl (RL_then (W_ret' (Ex_done1 rfl rfl ?_))))))
     exact ⟨_, rfl, by rw [e], .inr ⟨e, q, g, zs, Z, _, M7, rfl, hqk, rfl, rfl, hs, hb7⟩⟩
end Go.Proofs.Ytknpoemkmcdgcaa

namespace Go.Proofs.Ytknpoemkmcdgcaa
open Go Go.Lk
theorem rtellN (w0 w : World) (B far : Nat) (vS : Value) (MS : Bks) (vT : Value) (MT R : Bks) (ms : List RM) (q : Int) (a : Option Addr) (n c : Nat) (ts : List Tk) (hs : HS w0 w (dbs B far vS MS vT MT ms ++ R)) (hN : DOk w0 B vS MS vT MT ms)
  (hoR : Own w0 R) (hA : ∀ w' L', HS w0 w' L' → Own w0 L' → (∀ p ∈ dbs B far vS MS vT MT ms ++ R, p ∈ L') → SlC w' a (tcs ts)) (hn : ts.length = n) (hn2 : n ≤ 1000000000) (hlt : ∀ i, i < n → TkLt (ts.getD i tk0)) :
  Ret Try.prog 33 [.pointer (some ⟨B, 0, none⟩), .int .i64 q, .slice a n c] w fun r w' => r = .int .i64 (tellE ms.length q ts) ∧
   ((tellE ms.length q ts ≠ 0 ∧ HS w0 w' (dbs B far vS MS vT MT ms ++ R)) ∨
    (tellE ms.length q ts = 0 ∧ ∃ (q' : Nat) (a3 : Option Addr) (c3 : Nat) (MT' : Bks) (ms' : List RM), q = (q' : Int) ∧ q' < ms.length ∧ HS w0 w' (dbs B far vS MS vT MT' ms' ++ R) ∧ DOk w0 B vS MS vT MT' ms' ∧
     rds ms' = (rds ms).set q' ⟨((rds ms).getD q' rd0).x, ((rds ms).getD q' rd0).y, ((rds ms).getD q' rd0).t, a3, c3, firm ts⟩)) := by
 obtain ⟨aS, cS, rfl, hkS⟩ := hN.bls.slice
 obtain ⟨ao, cc, rfl, hkc⟩ := hN.blt.slice
 have hre : ∀ {w : World}, HS w0 w (dbs B far (.slice aS ms.length cS) MS (.slice ao ms.length cc) MT ms ++ R) → HS w0 w ((B, Row 79 [.float .f64 far, .slice aS ms.length cS, .slice ao ms.length cc]) :: (MT ++ ((MS ++ rmb ms) ++ R))) := fun h => HS.re h (fun c => by simp only [List.map_append, List.map_cons, List.map_nil, List.sum_append, List.sum_cons, List.sum_nil]; omega)
 have hY : ∀ q' : Nat, q = (q' : Int) → q' < ms.length → ∃ g zs Z, ao = some ⟨g, 0, none⟩ ∧ MT ++ ((MS ++ rmb ms) ++ R) = (g, Row 38 zs) :: Z ∧ q' < zs.length := fun q' _ hq' => by
  obtain ⟨g, cap, sp, hv, rfl, hg, hl, hc⟩ := hN.blt.own_row (by omega)
  injection hv with h1 _ _
  exact ⟨g, _, (MS ++ rmb ms) ++ R, h1, rfl, by rw [hl]; omega⟩
 have hoA : Own w0 ((B, Row 79 [.float .f64 far, .slice aS ms.length cS, .slice ao ms.length cc]) :: (MT ++ ((MS ++ rmb ms) ++ R))) := Own.cons hN.own (hN.blt.own.app ((hN.bls.own.app (rmb_own hN.each)).app hoR))
 refine Calls.mono (rtellW w0 w B far ms.length cS cc aS ao q (MT ++ ((MS ++ rmb ms) ++ R)) a n c ts (hre hs) hN.len hoA (fun w' L' h1 h2 h3 => hA w' L' h1 h2 (fun p hp => h3 p (by simp only [dbs, List.mem_append, List.mem_cons] at hp ⊢; rcases hp with (h | h | h | h) | h <;> simp [h]))) hn hn2 hlt hY) fun e w' => ?_
 rintro ⟨r, rfl, rfl, h | ⟨h0, q', g, zs, Z, v2, M2, rfl, hq', rfl, hYe, hs', hb2⟩⟩
 ·
  exact ⟨_, rfl, rfl, .inl ⟨h.1, HS.re h.2 (fun c => by simp only [List.map_append, List.map_cons, List.map_nil, List.sum_append, List.sum_cons, List.sum_nil]; omega)⟩⟩
 ·
  obtain ⟨g', cap, sp, hv, hM, hg, hl, hc⟩ := hN.blt.own_row (by omega)
  subst hM
  injection hYe with h1 h2
  rw [Prod.mk.injEq] at h1
  obtain ⟨rfl, h1⟩ := h1
  have hz : zs = tvs ms ++ sp := by
   injection h1 with h1
   exact (congrArg Array.toList h1).symm
  obtain ⟨a3, c3, rfl, hc3⟩ := hb2.slice
  obtain ⟨m, hme⟩ : ∃ m, m = RM.mk ⟨((rds ms).getD q' rd0).x, ((rds ms).getD q' rd0).y, ((rds ms).getD q' rd0).t, a3, c3, firm ts⟩ M2 := ⟨_, rfl⟩
  have hmok : m.ok w0 := by
   rw [hme]
   refine ⟨hb2, ?_, ?_⟩
   ·
    have : ts.length ≤ 256 := by
     unfold tellE at h0
     split at h0
     ·
      exact absurd h0 (by decide)
     ·
      split at h0
      ·
       exact absurd h0 (by decide)
      ·
       omega
    have := firm_len ts
    show (firm ts).length ≤ 256
    omega
   ·
    show ((rds ms).getD q' rd0).t < _
    rw [rds_get hq']
    exact (hN.each _ (getD_mem hq')).turn
  have hrd : rds (ms.set q' m) = (rds ms).set q' m.rd := by unfold rds; rw [List.map_set]
  have hmv : m.v = .slice a3 (firm ts).length c3 := by rw [hme]; rfl
  have hmsc : m.sc = (ms.getD q' rm0).sc := by
   rw [hme]
   show [Value.float .f64 ((rds ms).getD q' rd0).x, .float .f64 ((rds ms).getD q' rd0).y, .float .f64 ((rds ms).getD q' rd0).t] = _
   rw [rds_get hq']; rfl
  have hzs : zs.set q' (.slice a3 (firm ts).length c3) = tvs (ms.set q' m) ++ sp := by
   rw [hz, List.set_append_left _ _ (by rw [tvs_len]; omega), tvs_set, hmv]
  refine ⟨_, rfl, rfl, .inr ⟨h0, q', a3, c3, [(g', Row 38 (tvs (ms.set q' m) ++ sp))], ms.set q' m, rfl, hq', ?_, ?_, by rw [hrd, hme]⟩⟩
  ·
   rw [hzs] at hs'
   have hsp := rmb_split hq'
   have e2 := rmb_set hq' m
   have hM2 : m.M = M2 := by rw [hme]
   rw [dbs, e2, hM2]
   replace hs' : HS w0 w' (((B, Row 79 [.float .f64 far, .slice aS ms.length cS, .slice (some ⟨g', 0, none⟩) ms.length cc]) :: (g', Row 38 (tvs (ms.set q' m) ++ sp)) :: ((MS ++ (rmb (ms.take q') ++ ((ms.getD q' rm0).M ++ rmb (ms.drop (q' + 1))))) ++ R)) ++ M2) := by
    rw [← hsp, show (MS ++ rmb ms) ++ R = Z from h2]; exact hs'
   exact HS.dropR (M := (ms.getD q' rm0).M) (HS.re hs' (fun c => by simp only [List.map_append, List.map_cons, List.map_nil, List.sum_append, List.sum_cons, List.sum_nil]; omega)) (hN.each _ (getD_mem hq')).bl.own
  ·
   have hbS := hN.bls
   refine ⟨hN.own, ?_, ?_, fun u hu => ?_, by rw [List.length_set]; exact hN.len⟩
   ·
    rw [List.length_set, scs_set hq' hmsc]; exact hbS
   ·
    rw [List.length_set]
    injection hv with hv1 _ hv3
    rw [hv3]
    refine .row hg (by rw [tvs_len, List.length_set, Nat.mul_one]) ?_ hc
    rw [← hl, List.length_append, List.length_append, tvs_len, tvs_len, List.length_set]
   ·
    rcases List.mem_or_eq_of_mem_set hu with h1 | h1
    ·
     exact hN.each u h1
    ·
     rw [h1]; exact hmok
end Go.Proofs.Ytknpoemkmcdgcaa

namespace Go.Proofs.Ytknpoemkmcdgcaa
open Go Go.Lk
/-! ### The document's net, to be read; small laws for its 'Fused' -/
def Rd.sc (r : Rd) : List Value := [.float .f64 r.x, .float .f64 r.y, .float .f64 r.t]
def Rd.v (r : Rd) : Value := .slice r.a r.ts.length r.c
def rsc (rs : List Rd) : List Value := rs.flatMap Rd.sc
theorem scs_rds (ms : List RM) : scs ms = rsc (rds ms) := by
 unfold scs rsc rds
 rw [List.flatMap_def, List.flatMap_def, List.map_map]; rfl
theorem tvs_rds (ms : List RM) : tvs ms = (rds ms).map Rd.v := by
 unfold tvs rds
 rw [List.map_map]; rfl
theorem rsc_len (rs : List Rd) : (rsc rs).length = rs.length * 3 := by
 induction rs with
 | nil => rfl
 | cons r rs ih =>
  show (r.sc ++ rsc rs).length = _
  rw [List.length_append, ih, List.length_cons]
  show 3 + _ = _
  omega
theorem rsc_get : ∀ {rs : List Rd} {i q : Nat} {v : Value}, i < rs.length → (rs.getD i rd0).sc[q]? = some v → (rsc rs)[i * 3 + q]? = some v
 | r :: rs, 0, q, v, _, h => by
  show (r.sc ++ rsc rs)[0 * 3 + q]? = some v
  rw [Nat.zero_mul, Nat.zero_add]
  have hq : q < r.sc.length := (List.getElem?_eq_some_iff.1 h).1
  rw [List.getElem?_append_left hq]; exact h
 | r :: rs, i + 1, q, v, hi, h => by
  show (r.sc ++ rsc rs)[(i + 1) * 3 + q]? = some v
  have hl : r.sc.length = 3 := rfl
  rw [List.getElem?_append_right (by omega), show (i + 1) * 3 + q - r.sc.length = i * 3 + q by omega]
  exact rsc_get (by simpa using hi) h
theorem sc_at {w : World} {a : Option Addr} {rs : List Rd} (h : SlC w a (rsc rs)) {i : Nat} (hi : i < rs.length) : CellsAt w ((aD a).add (i * 3)) (rs.getD i rd0).sc := h.sub fun _ _ hv => rsc_get hi hv
structure DAt (w : World) (B far : Nat) (rs : List Rd) (sa : Option Addr) (sc : Nat) (ta : Option Addr) (tc : Nat) : Prop where
 far : w.cell? ⟨B, 0, none⟩ = some (.float .f64 far)
 s : w.cell? ⟨B, 1, none⟩ = some (.slice sa rs.length sc)
 t : w.cell? ⟨B, 2, none⟩ = some (.slice ta rs.length tc)
 sites : SlC w sa (rsc rs)
 told : SlC w ta (rs.map Rd.v)
 each : ∀ i, i < rs.length → SlC w (rs.getD i rd0).a (tcs (rs.getD i rd0).ts)
theorem DAt.old {w0 w : World} {B far sc tc : Nat} {rs : List Rd} {sa ta : Option Addr} {L : Bks} (h : DAt w0 B far rs sa sc ta tc) (hs : HS w0 w L) (ho : Own w0 L) : DAt w B far rs sa sc ta tc :=
 ⟨hs.oldcell h.far (ho.notin (World.block_lt_of_cell? w0 _ h.far)), hs.oldcell h.s (ho.notin (World.block_lt_of_cell? w0 _ h.s)), hs.oldcell h.t (ho.notin (World.block_lt_of_cell? w0 _ h.t)), h.sites.old hs ho, h.told.old hs ho, fun i hi => (h.each i hi).old hs ho⟩
theorem DAt.tv {w : World} {B far sc tc : Nat} {rs : List Rd} {sa ta : Option Addr} (h : DAt w B far rs sa sc ta tc) {i : Nat} (hi : i < rs.length) : w.cell? ((aD ta).add i) = some (rs.getD i rd0).v :=
 h.told.get (by rw [List.getElem?_map, List.getElem?_eq_getElem hi, List.getD_eq_getElem?_getD, List.getElem?_eq_getElem hi]; rfl)
theorem DAt.turn {w : World} {B far sc tc : Nat} {rs : List Rd} {sa ta : Option Addr} (h : DAt w B far rs sa sc ta tc) {i : Nat} (hi : i < rs.length) : w.cell? ((aD sa).add (i * 3 + 2)) = some (.float .f64 (rs.getD i rd0).t) :=
 h.sites.get (rsc_get hi rfl)
/-- the document's net is there to be read -/
theorem DOk.at {w0 w : World} {B far : Nat} {vS vT : Value} {MS MT L : Bks} {ms : List RM} (h : DOk w0 B vS MS vT MT ms) (hs : HS w0 w L) (hL : ∀ p ∈ dbs B far vS MS vT MT ms, p ∈ L) : ∃ sa sc ta tc, DAt w B far (rds ms) sa sc ta tc := by
 have hB : (B, Row 79 [.float .f64 far, vS, vT]) ∈ L := hL _ (List.mem_cons_self ..)
 obtain ⟨sa, sc, rfl, _⟩ := h.bls.slice
 obtain ⟨ta, tc, rfl, _⟩ := h.blt.slice
 refine ⟨sa, sc, ta, tc, Lk.cell_of_row (hs.has _ hB) rfl, ?_, ?_, ?_, ?_, fun i hi => ?_⟩
 ·
  rw [rds_len]; exact Lk.cell_of_row (hs.has _ hB) rfl
 ·
  rw [rds_len]; exact Lk.cell_of_row (hs.has _ hB) rfl
 ·
  rw [← scs_rds]
  exact Bl.slcM h.bls hs (fun p hp => hL _ (List.mem_cons_of_mem _ (List.mem_append_left _ hp)))
 ·
  rw [← tvs_rds]
  exact Bl.slcM h.blt hs (fun p hp => hL _ (List.mem_cons_of_mem _ (List.mem_append_right _ (List.mem_append_left _ hp))))
 ·
  rw [rds_len] at hi
  rw [rds_get hi]
  have hm : ms.getD i rm0 ∈ ms := getD_mem hi
  exact Bl.slcM (h.each _ hm).bl hs (fun p hp => hL _ (List.mem_cons_of_mem _ (List.mem_append_right _ (List.mem_append_right _ (List.mem_flatMap.2 ⟨_, hm, hp⟩)))))
/-- a slice and its blocks -/
structure VB where
 v : Value
 M : Bks
def vb0 : VB := ⟨.slice none 0 0, []⟩
def pcs (fs : List Th) : List Value := fs.flatMap fun t => [.float .f64 t.ax, .float .f64 t.ay]
def qcs (fs : List Th) : List Value := fs.flatMap fun t => [.float .f64 t.vx, .float .f64 t.vy]
theorem pair_get {f : Th → List Value} (hf : ∀ t, (f t).length = 2) : ∀ {ts : List Th} {i q : Nat} {v : Value}, i < ts.length → (f (ts.getD i th0))[q]? = some v → (ts.flatMap f)[i * 2 + q]? = some v
 | t :: ts, 0, q, v, _, h => by
  rw [List.flatMap_cons, Nat.zero_mul, Nat.zero_add]
  have hq : q < (f t).length := (List.getElem?_eq_some_iff.1 h).1
  rw [List.getElem?_append_left hq]; exact h
 | t :: ts, i + 1, q, v, hi, h => by
  have hl := hf t
  rw [List.flatMap_cons, List.getElem?_append_right (by omega), show (i + 1) * 2 + q - (f t).length = i * 2 + q by omega]
  exact pair_get hf (by simpa using hi) h
theorem pcs_get {ts : List Th} {i q : Nat} {v : Value} (hi : i < ts.length) (h : [Value.float .f64 (ts.getD i th0).ax, .float .f64 (ts.getD i th0).ay][q]? = some v) : (pcs ts)[i * 2 + q]? = some v := pair_get (fun _ => rfl) hi h
theorem qcs_get {ts : List Th} {i q : Nat} {v : Value} (hi : i < ts.length) (h : [Value.float .f64 (ts.getD i th0).vx, .float .f64 (ts.getD i th0).vy][q]? = some v) : (qcs ts)[i * 2 + q]? = some v := pair_get (fun _ => rfl) hi h
theorem pcs_len (ts : List Th) : (pcs ts).length = ts.length * 2 := by
 unfold pcs
 induction ts with
 | nil => rfl
 | cons t ts ih =>
  rw [List.flatMap_cons, List.length_append, ih]
  show 2 + ts.length * 2 = (ts.length + 1) * 2
  omega
theorem qcs_len (ts : List Th) : (qcs ts).length = ts.length * 2 := by
 unfold qcs
 induction ts with
 | nil => rfl
 | cons t ts ih =>
  rw [List.flatMap_cons, List.length_append, ih]
  show 2 + ts.length * 2 = (ts.length + 1) * 2
  omega
theorem dcs_app (fs gs : List Th) : fcs (fs ++ gs) = fcs fs ++ fcs gs := List.flatMap_append ..
theorem dcs_one (t : Th) : fcs [t] = t.cells := by simp [fcs]
theorem dms_app (fs gs : List Th) : fms (fs ++ gs) = fms fs ++ fms gs := List.flatMap_append ..
theorem dms_one (t : Th) : fms [t] = t.M := by simp [fms]
theorem dcs_len (fs : List Th) : (fcs fs).length = fs.length * 5 := by
 induction fs with
 | nil => rfl
 | cons t ts ih =>
  show (t.cells ++ fcs ts).length = _
  rw [List.length_append, ih, List.length_cons]
  show 5 + _ = _
  omega
theorem dcs_get : ∀ {ts : List Th} {i q : Nat} {v : Value}, i < ts.length → (ts.getD i th0).cells[q]? = some v → (fcs ts)[i * 5 + q]? = some v
 | t :: ts, 0, q, v, _, h => by
  show (t.cells ++ fcs ts)[0 * 5 + q]? = some v
  rw [Nat.zero_mul, Nat.zero_add]
  have hq : q < t.cells.length := (List.getElem?_eq_some_iff.1 h).1
  rw [List.getElem?_append_left hq]; exact h
 | t :: ts, i + 1, q, v, hi, h => by
  show (t.cells ++ fcs ts)[(i + 1) * 5 + q]? = some v
  have hl : t.cells.length = 5 := rfl
  rw [List.getElem?_append_right (by omega), show (i + 1) * 5 + q - t.cells.length = i * 5 + q by omega]
  exact dcs_get (by simpa using hi) h
theorem dth_at {w : World} {a : Option Addr} {ts : List Th} (h : SlC w a (fcs ts)) {i : Nat} (hi : i < ts.length) : CellsAt w ((aD a).add (i * 5)) (ts.getD i th0).cells := h.sub fun _ _ hv => dcs_get hi hv
theorem dp_at {w : World} {a : Option Addr} {ts : List Th} (h : SlC w a (pcs ts)) {i : Nat} (hi : i < ts.length) : CellsAt w ((aD a).add (i * 2)) [.float .f64 (ts.getD i th0).ax, .float .f64 (ts.getD i th0).ay] := h.sub fun _ _ hv => pcs_get hi hv
theorem dq_at {w : World} {a : Option Addr} {ts : List Th} (h : SlC w a (qcs ts)) {i : Nat} (hi : i < ts.length) : CellsAt w ((aD a).add (i * 2)) [.float .f64 (ts.getD i th0).vx, .float .f64 (ts.getD i th0).vy] := h.sub fun _ _ hv => qcs_get hi hv
theorem dms_split {ts : List Th} {q : Nat} (h : q < ts.length) : fms ts = fms (ts.take q) ++ ((ts.getD q th0).M ++ fms (ts.drop (q + 1))) := by
 have e := congrArg fms (split_at (d := th0) h)
 rw [dms_app] at e
 exact e
theorem dms_set {ts : List Th} {q : Nat} (h : q < ts.length) (t : Th) : fms (ts.set q t) = fms (ts.take q) ++ (t.M ++ fms (ts.drop (q + 1))) := by
 rw [List.set_eq_take_append_cons_drop, if_pos h, dms_app]; rfl
theorem dcs_set {ts : List Th} {q : Nat} (h : q < ts.length) (t : Th) (sp : List Value) : (fcs ts ++ sp).take (q * 5) ++ t.cells ++ (fcs ts ++ sp).drop (q * 5 + t.cells.length) = fcs (ts.set q t) ++ sp := by
 have e : fcs ts = fcs (ts.take q) ++ ((ts.getD q th0).cells ++ fcs (ts.drop (q + 1))) := by
  have e := congrArg fcs (split_at (d := th0) h)
  rw [dcs_app] at e
  exact e
 have hl : (fcs (ts.take q)).length = q * 5 := by rw [dcs_len, List.length_take]; congr 1; omega
 rw [List.set_eq_take_append_cons_drop, if_pos h, dcs_app]
 show _ = (_ ++ (t.cells ++ fcs (ts.drop (q + 1)))) ++ sp
 rw [e]
 rw [show (fcs (ts.take q) ++ ((ts.getD q th0).cells ++ fcs (ts.drop (q + 1))) ++ sp) = fcs (ts.take q) ++ ((ts.getD q th0).cells ++ (fcs (ts.drop (q + 1)) ++ sp)) by simp only [List.append_assoc], List.take_left' hl]
 rw [← List.append_assoc (fcs (ts.take q)), List.drop_left' (by rw [List.length_append, hl]; rfl)]
 simp only [List.append_assoc]
theorem fms_own {w0 : World} {ts : List Th} (h : ∀ t ∈ ts, Bl w0 3 1 t.v t.seen.length (il t.seen) t.M) : Own w0 (fms ts) := fun p hp => by
 obtain ⟨t, ht, hp⟩ := List.mem_flatMap.1 hp
 exact (h t ht).own p hp
theorem rowsI_sl {w0 w : World} {a : Option Addr} {n : Nat} {rr : List RR} {L : Bks} (hs : HS w0 w L) (hg : SlC w a (rvs rr)) (hr : ∀ r ∈ rr, r.ok w0) (hm : ∀ p ∈ rbs rr, p ∈ L) (hl : ∀ r ∈ rr, r.xs.length ≤ n) (hn : n ≤ 1000) : RowsI w a (rr.map RR.xs) (rvs rr) := by
 refine ⟨hg, by simp [rvs], fun i hi => ?_⟩
 rw [List.length_map] at hi
 have hm' : rr.getD i rr0 ∈ rr := getD_mem hi
 have e1 : (rvs rr)[i]? = some (rr.getD i rr0).v := by
  unfold rvs; rw [List.getElem?_map, List.getElem?_eq_getElem hi, List.getD_eq_getElem?_getD, List.getElem?_eq_getElem hi]; rfl
 have e2 : (rr.map RR.xs).getD i [] = (rr.getD i rr0).xs := by
  rw [List.getD_eq_getElem?_getD, List.getElem?_map, List.getElem?_eq_getElem hi, List.getD_eq_getElem?_getD, List.getElem?_eq_getElem hi]; rfl
 have hb := hr _ hm'
 obtain ⟨a, c, hv, hc⟩ := Bl.slice hb
 have hl' := hl _ hm'
 rw [e1, e2, hv]
 refine ⟨a, c, rfl, hc, by omega, ?_⟩
 unfold RR.ok at hb
 rw [hv] at hb
 exact Bl.slcM hb hs (fun p hp => hm _ (List.mem_flatMap.2 ⟨_, hm', hp⟩))
/-! ### Calls in a drawn region's head -/
def SPD (m : Int) (k : Nat) (f : FuncId) (args : Array Value) (v : Value) : Prop := match f, args.toList with
 | 56, [.agg s, .agg p] => ∀ sx sy st px py, s = #[.float .f64 sx, .float .f64 sy, .float .f64 st] → p = #[.float .f64 px, .float .f64 py] → MovR sx sy st px py v
 | 57, _ => v = .int .i64 m
 | 59, [_, .agg p] => ∀ a b, p = #[.float .f64 a, .float .f64 b] → ∃ x y, v = .agg #[.float .f64 x, .float .f64 y] ∧ cn x = fop .quo a (FloatKind.f64.nearest (k : Int)) ∧ cn y = fop .quo b (FloatKind.f64.nearest (k : Int))
 | _, _ => False
theorem rmovedH {w0 w : World} {L : Bks} (m : Int) (k : Nat) (hs : HS w0 w L) (sx sy st px py : Nat) (ht : st < 18446744073709551616) : Ret Try.prog 56 [.agg #[.float .f64 sx, .float .f64 sy, .float .f64 st], .agg #[.float .f64 px, .float .f64 py]] w fun v w' => SPD m k 56 [.agg #[.float .f64 sx, .float .f64 sy, .float .f64 st], .agg #[.float .f64 px, .float .f64 py]].toArray v ∧ HS w0 w' L :=
 Calls.mono (rmoved_ok sx sy st px py ht w) fun e w' => by
  rintro ⟨v, rfl, hv, hs'⟩
  refine ⟨_, rfl, fun sx' sy' st' px' py' h1 h2 => ?_, hs.nil hs'⟩
  simp at h1 h2
  obtain ⟨rfl, rfl, rfl⟩ := h1
  obtain ⟨rfl, rfl⟩ := h2
  exact hv
theorem rplaceH {w0 w : World} {L : Bks} (m : Int) (hs : HS w0 w L) (ax ay vx vy px py n c : Nat) (a : Option Addr) : Ret Try.prog 59 [.agg #[.float .f64 ax, .float .f64 ay, .float .f64 vx, .float .f64 vy, .slice a n c], .agg #[.float .f64 px, .float .f64 py]] w fun v w' => SPD m n 59 [.agg #[.float .f64 ax, .float .f64 ay, .float .f64 vx, .float .f64 vy, .slice a n c], .agg #[.float .f64 px, .float .f64 py]].toArray v ∧ HS w0 w' L :=
 Calls.mono (rplace_ok ax ay vx vy px py n c a w) fun e w' => by
  rintro ⟨v, rfl, x, y, rfl, hs', h1, h2⟩
  refine ⟨_, rfl, fun a' b' h => ?_, hs.nil hs'⟩
  simp at h
  obtain ⟨rfl, rfl⟩ := h
  exact ⟨x, y, rfl, h1, h2⟩
theorem rcostH {w0 w : World} {L : Bks} {B far : Nat} (hs : HS w0 w L) (hf : FarOk far) (hfar : w.cell? ⟨B, 0, none⟩ = some (.float .f64 far)) (px py ax ay vx vy n c : Nat) (a : Option Addr) :
  Ret Try.prog 57 [.pointer (some ⟨B, 0, none⟩), .agg #[.float .f64 px, .float .f64 py], .agg #[.float .f64 ax, .float .f64 ay, .float .f64 vx, .float .f64 vy, .slice a n c]] w fun v w' => SPD (costF far px py ax ay n) 0 57 [.pointer (some ⟨B, 0, none⟩), .agg #[.float .f64 px, .float .f64 py], .agg #[.float .f64 ax, .float .f64 ay, .float .f64 vx, .float .f64 vy, .slice a n c]].toArray v ∧ HS w0 w' L :=
 Calls.mono (rcost_ok B far px py ax ay vx vy n c a w hf hfar) fun e w' => by
  rintro ⟨v, rfl, rfl, hs'⟩
  exact ⟨_, rfl, rfl, hs.nil hs'⟩
end Go.Proofs.Ytknpoemkmcdgcaa
