/-
 A part of the proof: what functions that the statement reaches do, or a plain law on what they do. Each theorem holds under its own premises alone.
-/
import Derived.Test.YtffobakdngbadaaTKT3
import Derived.Test.YtffobakdngbadaaTKT4
import Derived.Test.YtffobakdngbadaaTKY
namespace Go.Proofs.Ytffobakdngbadaa
open Go Go.Lk
/-! ### TracksSteady -/
theorem scs_get : ∀ {ts : List Stt} {i q : Nat} {v : Value}, i < ts.length → (ts.getD i stt0).cells[q]? = some v → (scs ts)[i * 5 + q]? = some v
 | t :: ts, 0, q, v, _, h => by
  show (t.cells ++ scs ts)[0 * 5 + q]? = some v
  rw [Nat.zero_mul, Nat.zero_add]
  have hq : q < t.cells.length := (List.getElem?_eq_some_iff.1 h).1
  rw [List.getElem?_append_left hq]; exact h
 | t :: ts, i + 1, q, v, hi, h => by
  show (t.cells ++ scs ts)[(i + 1) * 5 + q]? = some v
  have hl : t.cells.length = 5 := rfl
  rw [List.getElem?_append_right (by omega), show (i + 1) * 5 + q - t.cells.length = i * 5 + q by omega]
  exact scs_get (by simpa using hi) h
theorem stt_at {w : World} {a : Option Addr} {ts : List Stt} (h : SlC w a (scs ts)) {i : Nat} (hi : i < ts.length) : CellsAt w ((aD a).add (i * 5)) (ts.getD i stt0).cells := h.sub fun _ _ hv => scs_get hi hv
theorem fin_fv {x : Nat} {v : Int} (h : FV x v) : finB x = true := by
 unfold finB nanB infB
 have h1 : FloatKind.f64.format.order x x = some .eq := by rw [h.order h, Int.compare_eq_eq.2 rfl]
 have h2 := h.fin
 rw [h1, h.abs.gtt (FV.nat (r := 9218868437227405311) (by decide)), decide_eq_false (by unfold Gr at h2; omega)]
 rfl
theorem fv_fin {x : Nat} (hx : x < 18446744073709551616) (h : finB x = true) : ∃ v, FV x v := by
 rcases classify hx with hv | ⟨s, hs⟩ | hn
 ·
  exact hv
 ·
  exfalso
  rcases inf_of_read hx hs with e | e <;> rw [e] at h <;> exact absurd h (by decide +kernel)
 ·
  exfalso
  unfold finB nanB at h
  rw [order_nanL hn] at h
  exact absurd h (by simp)
/-- a float not below a finite one, and not above another -/
theorem fv_mid {x l u : Nat} {L U : Int} (hx : x < 18446744073709551616) (hl : FV l L) (hu : FV u U) (h1 : (FloatKind.f64.format.order x l == some .gt || FloatKind.f64.format.order x l == some .eq) = true) (h2 : (FloatKind.f64.format.order x u == some .gt) = false) : ∃ v, FV x v ∧ L ≤ v ∧ v ≤ U := by
 rcases classify hx with ⟨v, hv⟩ | ⟨s, hs⟩ | hn
 ·
  rw [hv.geq hl] at h1
  rw [hv.gtt hu] at h2
  exact ⟨v, hv, of_decide_eq_true h1, Int.not_lt.1 (of_decide_eq_false h2)⟩
 ·
  exfalso
  obtain ⟨a, m, p, e1, _⟩ := hl.read
  obtain ⟨b, m', p', e2, _⟩ := hu.read
  cases s
  ·
   have : FloatKind.f64.format.order x u = some .gt := by
    show (Ieee.double.read x).order (Ieee.double.read u) = _
    rw [hs, e2]; rfl
   rw [this] at h2; exact absurd h2 (by decide)
  ·
   have : FloatKind.f64.format.order x l = some .lt := by
    show (Ieee.double.read x).order (Ieee.double.read l) = _
    rw [hs, e1]; rfl
   rw [this] at h1; exact absurd h1 (by decide)
 ·
  rw [order_nanL hn] at h1; exact absurd h1 (by decide)
theorem rv_m20 (c : Nat) (hc : c = 1074) : rv 4517110426252607488 * 1048576 = 2 ^ c := by
 obtain ⟨e, he⟩ : ∃ e, e = 1002 := ⟨_, rfl⟩
 rw [rv_norm (r := 4517110426252607488) (e := e) (m := 0) (by omega) (by decide), show 4503599627370496 + 0 = 2 ^ 52 by decide, show (1048576 : Nat) = 2 ^ 20 by decide, ← Nat.pow_add, ← Nat.pow_add]
 congr 1; omega
theorem new_facts {r : Rul} (h : newE r = 0) : finB r.noise = true ∧ finB r.sway = true ∧ finB r.gate = true ∧ ltB r.sway 0 = false := by
 unfold newE at h
 by_cases h0 : [r.noise, r.sway, r.gate].all finB = false
 ·
  rw [if_pos h0] at h; exact absurd h (by decide)
 ·
  rw [if_neg h0] at h
  by_cases h1 : leB r.noise 0 = true
  ·
   rw [if_pos h1] at h; exact absurd h (by decide)
  ·
   rw [if_neg h1] at h
   by_cases h2 : ltB r.sway 0 = true
   ·
    rw [if_pos h2] at h; exact absurd h (by decide)
   ·
    have h3 : [r.noise, r.sway, r.gate].all finB = true := by simpa using h0
    simp only [List.all_cons, List.all_nil, Bool.and_true, Bool.and_eq_true] at h3
    exact ⟨h3.1, h3.2.1, h3.2.2, by simpa using h2⟩
abbrev geQ (x y : Nat) : Bool := FloatKind.f64.format.order x y == some .gt || FloatKind.f64.format.order x y == some .eq
abbrev leQ (x y : Nat) : Bool := FloatKind.f64.format.order x y == some .lt || FloatKind.f64.format.order x y == some .eq
theorem pln_of {c : Nat} {r : Rul} (hc : c = 1074) (hlt : RulLt r) (hok : RulOk r) (hn : newE r = 0) (h1 : geQ r.noise 4517110426252607488 = true) (h2 : leQ r.noise 4697254411347427328 = true) (h3 : geQ r.gate 4517110426252607488 = true) (h4 : leQ r.sway 4697254411347427328 = true) : Pln c r := by
 obtain ⟨f1, f2, f3, f4⟩ := new_facts hn
 have hf := rv_fine c hc
 have hm := rv_m20 c hc
 have k1 := FV.nat (r := 4517110426252607488) (by decide)
 have k2 := FV.nat (r := 4697254411347427328) (by decide)
 obtain ⟨N, n1⟩ := fv_fin hlt.noise f1
 obtain ⟨S, s1⟩ := fv_fin hlt.sway f2
 obtain ⟨G, g1⟩ := fv_fin hlt.gate f3
 have a1 := of_decide_eq_true ((n1.geq k1).symm.trans h1)
 have a2 := of_decide_eq_true ((n1.leq k2).symm.trans h2)
 have a3 := of_decide_eq_true ((g1.geq k1).symm.trans h3)
 have a4 := of_decide_eq_true ((s1.leq k2).symm.trans h4)
 have a5 : 0 ≤ S := by
  unfold ltB at f4
  rw [s1.ltt fv_0] at f4
  exact Int.not_lt.1 (of_decide_eq_false f4)
 generalize rv 4517110426252607488 = A at hm a1 a3
 generalize rv 4697254411347427328 = B at hf a2 a4
 exact ⟨hok, ⟨N, n1, by omega, by omega⟩, ⟨S, s1, a5, by rw [show 2 ^ 20 = 1048576 from rfl]; omega⟩, ⟨G, g1, by omega⟩⟩
theorem am_of30 {c x : Nat} (hc : c = 1074) (hx : x < 18446744073709551616) (h : (FloatKind.f64.format.order (x % 9223372036854775808) 4742290407621132288 == some .lt || FloatKind.f64.format.order (x % 9223372036854775808) 4742290407621132288 == some .eq) = true) : AM c x (2 ^ 30) := by
 have hK := FV.nat (r := 4742290407621132288) (by decide)
 rcases classify hx with ⟨v, hv⟩ | ⟨s, hs⟩ | hn
 ·
  rw [hv.abs.leq hK] at h
  have h1 := of_decide_eq_true h
  obtain ⟨e, he⟩ : ∃ e, e = 1052 := ⟨_, rfl⟩
  rw [rv_norm (r := 4742290407621132288) (e := e) (m := 0) (by omega) (by decide), show 4503599627370496 + 0 = 2 ^ 52 by decide, ← Nat.pow_add, show 52 + e = 30 + c by omega, Nat.pow_add] at h1
  exact ⟨v, hv, by omega⟩
 ·
  exfalso
  have hm : x % 9223372036854775808 = 9218868437227405312 := by rcases inf_of_read hx hs with h | h <;> omega
  rw [hm] at h
  revert h; decide +kernel
 ·
  exfalso
  have h1 : isnan (x % 9223372036854775808) = true := by
   rw [isnan_rng, Nat.mod_mod, ← isnan_rng]; exact hn
  rw [order_nanL h1] at h
  revert h; decide
/-- a time and the one behind it -/
theorem wait_nm {c t l : Nat} {T L : Int} (hc : c = 1074) (ht : FV t T) (hl : FV l L) (h0 : 0 ≤ L) (h1 : L ≤ T) (h2 : T ≤ ((1048576 * 2 ^ c : Nat) : Int)) : NM c (fop .sub t l) (2 ^ 20) := by
 have hb := (flt_pow (e := 20) (by omega)).bound hc
 obtain ⟨r, e, h3⟩ := fv_sub c hc ht hl (by rw [show 2 ^ 20 = 1048576 from rfl] at hb; omega)
 have h4 := rd_mono (c := c) (T := T - L) (S := T) (by omega)
 rw [rd_fv hc ht] at h4
 exact ⟨_, by rw [fop_some' e]; exact h3, rd_nonneg (by omega), by rw [show 2 ^ 20 = 1048576 from rfl]; omega⟩
theorem ref_ok {last t : Nat} {T : Int} {p : Plt} (ht : FV t T) (hf : finP p = true) (hl : last = ninf ∨ ∃ L, FV last L ∧ L ≤ T) : refE last t [p] = 0 := by
 unfold refE
 rw [show [p].length = 1 from rfl]
 have h1 : ltB t last = false := by
  unfold ltB
  rcases hl with rfl | ⟨L, l1, l2⟩
  ·
   obtain ⟨a, m, q, e1, _⟩ := ht.read
   have : FloatKind.f64.format.order t ninf = some .gt := by
    show (Ieee.double.read t).order (Ieee.double.read ninf) = _
    rw [e1, show Ieee.double.read ninf = .infinity true by decide +kernel]; rfl
   rw [this]; decide
  ·
   rw [ht.ltt l1]; exact decide_eq_false (by omega)
 rw [if_neg (show ¬ 256 < 1 by decide), fin_fv ht, show [p].all finP = true by simp [hf], h1]
 rfl
set_option maxHeartbeats 8000000 in
theorem tracksSteady_law (r : Rul) (hr : RulLt r) (p : Plt) (hp : PltLt p) (a : Option Addr) (n c : Nat) (ts : List Nat) (w0 : World) (ha : SlC w0 a (fl ts)) (hn : ts.length = n) (hn2 : n ≤ 1000000000000000) (hts : ∀ i, i < n → ts.getD i 0 < 18446744073709551616) :
  Ret Try.prog 6 [.agg r.cells.toArray, .agg p.cells.toArray, .slice a n c] w0 fun v w' => v = .bool true ∧ HS w0 w' [] := by
 refine Ret.start fun w hs => ?_
 refine calls_of_W Try.func6 rfl rfl rfl (W_seq (W_region (L_box rfl hs rfl ?_)))
 intro b3 w hb3 hnb3 hs
 dsimp only [List.set_cons_succ, List.set_cons_zero, List.cons_append, List.nil_append] at hs
 refine L_box rfl hs rfl ?_
 intro b4 w hb4 hnb4 hs
 dsimp only [List.set_cons_succ, List.set_cons_zero, List.cons_append, List.nil_append] at hs
 refine L_assign rfl rfl (RL_then (W_seq (W_region ?_)))
 replace hs : HS w0 w [(b3, Row 49 r.cells), (b4, Row 58 p.cells)] := hs
 have hbo : Own w0 [(b3, Row 49 r.cells), (b4, Row 58 p.cells)] := Own.cons hb3 (Own.cons hb4 Own.nil)
 obtain ⟨L0, hL0⟩ : ∃ L0, L0 = [(b3, Row 49 r.cells), (b4, Row 58 p.cells)] := ⟨_, rfl⟩
 rw [← hL0] at hs hbo
 have hm3 : (b3, Row 49 r.cells) ∈ L0 := by rw [hL0]; exact List.mem_cons_self ..
 have hm4 : (b4, Row 58 p.cells) ∈ L0 := by rw [hL0]; exact List.mem_cons_of_mem _ (List.mem_cons_self ..)

 cases c1 : (FloatKind.f64.format.order r.noise 4517110426252607488 == some .gt || FloatKind.f64.format.order r.noise 4517110426252607488 == some .eq)
 ·
  skip
  refine L_fieldAddr rfl (off := 0) Try.underlying49 rfl rfl Try.ti22 rfl (L_load rfl Try.one22 rfl (by exact cellAM hs hm3 (j := 0) rfl) ?_)
  refine L_fcmp rfl rfl rfl (fun _ => by rw [binOp_float_cmp_geq, c1]; rfl) ?_
  refine L_move rfl rfl (RL_skip rfl rfl rfl rfl (RL_skip rfl rfl rfl rfl (RL_skip rfl rfl rfl rfl (L_pick_f rfl rfl rfl (L_move rfl rfl (RL_skip rfl rfl rfl rfl (RL_skip rfl rfl rfl rfl (RL_skip rfl rfl rfl rfl (L_pick_f rfl rfl rfl (L_move rfl rfl (RL_skip rfl rfl rfl rfl (RL_skip rfl rfl rfl rfl ?_))))))))))))
  refine RL_skip rfl rfl rfl rfl (L_pick_f rfl rfl rfl (L_move rfl rfl (RL_skip rfl rfl rfl rfl (RL_skip rfl rfl rfl rfl (RL_skip rfl rfl rfl rfl (RL_skip rfl rfl rfl rfl (L_pick_f rfl rfl rfl (L_assign rfl rfl (RL_then (W_seq (W_seq (W_region ?_))))))))))))
  refine L_move rfl rfl (L_not rfl rfl (L_move rfl rfl (RL_skip rfl rfl rfl rfl (RL_skip rfl rfl rfl rfl (RL_skip rfl rfl rfl rfl (L_pick_t rfl rfl rfl (L_move rfl rfl (RL_skip rfl rfl rfl rfl (RL_skip rfl rfl rfl rfl (RL_skip rfl rfl rfl rfl (L_pick_t rfl rfl rfl (L_move rfl rfl ?_))))))))))))
  refine RL_skip rfl rfl rfl rfl (RL_skip rfl rfl rfl rfl (RL_skip rfl rfl rfl rfl (L_pick_t rfl rfl rfl (RL_then (W_if_true rfl (W_seq (W_region (L_call rfl Try.fun13 rfl (wakes_ok w) ?_))))))))
  rintro _ w3 ⟨rfl, hs'⟩
  replace hs := hs.nil hs'
  refine L_assign rfl rfl (RL_then (W_ret' (Ex_then_ret (Ex_done1 rfl rfl ?_))))
  exact ⟨_, rfl, rfl, hs.forget hbo⟩
 ·
  skip
  cases c2 : (FloatKind.f64.format.order r.noise 4697254411347427328 == some .lt || FloatKind.f64.format.order r.noise 4697254411347427328 == some .eq)
  ·
   skip
   refine L_fieldAddr rfl (off := 0) Try.underlying49 rfl rfl Try.ti22 rfl (L_load rfl Try.one22 rfl (by exact cellAM hs hm3 (j := 0) rfl) ?_)
   refine L_fcmp rfl rfl rfl (fun _ => by rw [binOp_float_cmp_geq, c1]; rfl) ?_
   refine L_move rfl rfl (RL_want rfl rfl (L_fieldAddr rfl (off := 0) Try.underlying49 rfl rfl Try.ti22 rfl (RL_want rfl rfl (L_load rfl Try.one22 rfl (by exact cellAM hs hm3 (j := 0) rfl) ?_))))
   refine RL_want rfl rfl ?_
   refine L_fcmp rfl rfl rfl (fun _ => by rw [binOp_float_cmp_leq, c2]; rfl) ?_
   refine L_pick_t rfl rfl rfl (L_move rfl rfl (RL_skip rfl rfl rfl rfl (RL_skip rfl rfl rfl rfl (RL_skip rfl rfl rfl rfl (L_pick_f rfl rfl rfl (L_move rfl rfl (RL_skip rfl rfl rfl rfl (RL_skip rfl rfl rfl rfl (RL_skip rfl rfl rfl rfl (L_pick_f rfl rfl rfl (L_move rfl rfl (RL_skip rfl rfl rfl rfl ?_))))))))))))
   refine RL_skip rfl rfl rfl rfl (RL_skip rfl rfl rfl rfl (RL_skip rfl rfl rfl rfl (L_pick_f rfl rfl rfl (L_assign rfl rfl (RL_then (W_seq (W_seq (W_region (L_move rfl rfl (L_not rfl rfl (L_move rfl rfl (RL_skip rfl rfl rfl rfl ?_))))))))))))
   refine RL_skip rfl rfl rfl rfl (RL_skip rfl rfl rfl rfl (L_pick_t rfl rfl rfl (L_move rfl rfl (RL_skip rfl rfl rfl rfl (RL_skip rfl rfl rfl rfl (RL_skip rfl rfl rfl rfl (L_pick_t rfl rfl rfl (L_move rfl rfl (RL_skip rfl rfl rfl rfl (RL_skip rfl rfl rfl rfl (RL_skip rfl rfl rfl rfl (L_pick_t rfl rfl rfl ?_))))))))))))
   refine RL_then (W_if_true rfl (W_seq (W_region (L_call rfl Try.fun13 rfl (wakes_ok w) ?_))))
   rintro _ w3 ⟨rfl, hs'⟩
   replace hs := hs.nil hs'
   refine L_assign rfl rfl (RL_then (W_ret' (Ex_then_ret (Ex_done1 rfl rfl ?_))))
   exact ⟨_, rfl, rfl, hs.forget hbo⟩
  ·
   skip
   cases c3 : (FloatKind.f64.format.order r.gate 4517110426252607488 == some .gt || FloatKind.f64.format.order r.gate 4517110426252607488 == some .eq)
   ·
    skip
    refine L_fieldAddr rfl (off := 0) Try.underlying49 rfl rfl Try.ti22 rfl (L_load rfl Try.one22 rfl (by exact cellAM hs hm3 (j := 0) rfl) ?_)
    refine L_fcmp rfl rfl rfl (fun _ => by rw [binOp_float_cmp_geq, c1]; rfl) ?_
    refine L_move rfl rfl (RL_want rfl rfl (L_fieldAddr rfl (off := 0) Try.underlying49 rfl rfl Try.ti22 rfl (RL_want rfl rfl (L_load rfl Try.one22 rfl (by exact cellAM hs hm3 (j := 0) rfl) ?_))))
    refine RL_want rfl rfl ?_
    refine L_fcmp rfl rfl rfl (fun _ => by rw [binOp_float_cmp_leq, c2]; rfl) ?_
    refine L_pick_t rfl rfl rfl (L_move rfl rfl (RL_want rfl rfl (L_fieldAddr rfl (off := 2) Try.underlying49 rfl rfl Try.ti22 rfl (RL_want rfl rfl (L_load rfl Try.one22 rfl (by exact cellAM hs hm3 (j := 2) rfl) ?_)))))
    refine RL_want rfl rfl ?_
    refine L_fcmp rfl rfl rfl (fun _ => by rw [binOp_float_cmp_geq, c3]; rfl) ?_
    refine L_pick_t rfl rfl rfl (L_move rfl rfl (RL_skip rfl rfl rfl rfl (RL_skip rfl rfl rfl rfl (RL_skip rfl rfl rfl rfl (L_pick_f rfl rfl rfl (L_move rfl rfl (RL_skip rfl rfl rfl rfl (RL_skip rfl rfl rfl rfl (RL_skip rfl rfl rfl rfl (RL_skip rfl rfl rfl rfl (L_pick_f rfl rfl rfl (L_assign rfl rfl ?_))))))))))))
    refine RL_then (W_seq (W_seq (W_region (L_move rfl rfl (L_not rfl rfl (L_move rfl rfl (RL_skip rfl rfl rfl rfl (RL_skip rfl rfl rfl rfl (RL_skip rfl rfl rfl rfl (L_pick_t rfl rfl rfl (L_move rfl rfl (RL_skip rfl rfl rfl rfl ?_))))))))))))
    refine RL_skip rfl rfl rfl rfl (RL_skip rfl rfl rfl rfl (L_pick_t rfl rfl rfl (L_move rfl rfl (RL_skip rfl rfl rfl rfl (RL_skip rfl rfl rfl rfl (RL_skip rfl rfl rfl rfl (L_pick_t rfl rfl rfl (RL_then (W_if_true rfl (W_seq (W_region (L_call rfl Try.fun13 rfl (wakes_ok w) ?_))))))))))))
    rintro _ w3 ⟨rfl, hs'⟩
    replace hs := hs.nil hs'
    refine L_assign rfl rfl (RL_then (W_ret' (Ex_then_ret (Ex_done1 rfl rfl ?_))))
    exact ⟨_, rfl, rfl, hs.forget hbo⟩
   ·
    skip
    cases c4 : (FloatKind.f64.format.order r.sway 4697254411347427328 == some .lt || FloatKind.f64.format.order r.sway 4697254411347427328 == some .eq)
    ·
     skip
     refine L_fieldAddr rfl (off := 0) Try.underlying49 rfl rfl Try.ti22 rfl (L_load rfl Try.one22 rfl (by exact cellAM hs hm3 (j := 0) rfl) ?_)
     refine L_fcmp rfl rfl rfl (fun _ => by rw [binOp_float_cmp_geq, c1]; rfl) ?_
     refine L_move rfl rfl (RL_want rfl rfl (L_fieldAddr rfl (off := 0) Try.underlying49 rfl rfl Try.ti22 rfl (RL_want rfl rfl (L_load rfl Try.one22 rfl (by exact cellAM hs hm3 (j := 0) rfl) ?_))))
     refine RL_want rfl rfl ?_
     refine L_fcmp rfl rfl rfl (fun _ => by rw [binOp_float_cmp_leq, c2]; rfl) ?_
     refine L_pick_t rfl rfl rfl (L_move rfl rfl (RL_want rfl rfl (L_fieldAddr rfl (off := 2) Try.underlying49 rfl rfl Try.ti22 rfl (RL_want rfl rfl (L_load rfl Try.one22 rfl (by exact cellAM hs hm3 (j := 2) rfl) ?_)))))
     refine RL_want rfl rfl ?_
     refine L_fcmp rfl rfl rfl (fun _ => by rw [binOp_float_cmp_geq, c3]; rfl) ?_
     refine L_pick_t rfl rfl rfl (L_move rfl rfl (RL_want rfl rfl (L_fieldAddr rfl (off := 1) Try.underlying49 rfl rfl Try.ti22 rfl (RL_want rfl rfl (L_load rfl Try.one22 rfl (by exact cellAM hs hm3 (j := 1) rfl) ?_)))))
     refine RL_want rfl rfl ?_
     refine L_fcmp rfl rfl rfl (fun _ => by rw [binOp_float_cmp_leq, c4]; rfl) ?_
     refine L_pick_t rfl rfl rfl (L_move rfl rfl (RL_skip rfl rfl rfl rfl (RL_skip rfl rfl rfl rfl (RL_skip rfl rfl rfl rfl (RL_skip rfl rfl rfl rfl (L_pick_f rfl rfl rfl (L_assign rfl rfl (RL_then (W_seq (W_seq (W_region (L_move rfl rfl ?_))))))))))))
     refine L_not rfl rfl (L_move rfl rfl (RL_skip rfl rfl rfl rfl (RL_skip rfl rfl rfl rfl (RL_skip rfl rfl rfl rfl (L_pick_t rfl rfl rfl (L_move rfl rfl (RL_skip rfl rfl rfl rfl (RL_skip rfl rfl rfl rfl (RL_skip rfl rfl rfl rfl (L_pick_t rfl rfl rfl (L_move rfl rfl (RL_skip rfl rfl rfl rfl ?_))))))))))))
     refine RL_skip rfl rfl rfl rfl (RL_skip rfl rfl rfl rfl (L_pick_t rfl rfl rfl (RL_then (W_if_true rfl (W_seq (W_region (L_call rfl Try.fun13 rfl (wakes_ok w) ?_)))))))
     rintro _ w3 ⟨rfl, hs'⟩
     replace hs := hs.nil hs'
     refine L_assign rfl rfl (RL_then (W_ret' (Ex_then_ret (Ex_done1 rfl rfl ?_))))
     exact ⟨_, rfl, rfl, hs.forget hbo⟩
    ·
     skip
     refine L_fieldAddr rfl (off := 0) Try.underlying49 rfl rfl Try.ti22 rfl (L_load rfl Try.one22 rfl (by exact cellAM hs hm3 (j := 0) rfl) ?_)
     refine L_fcmp rfl rfl rfl (fun _ => by rw [binOp_float_cmp_geq, c1]; rfl) ?_
     refine L_move rfl rfl (RL_want rfl rfl (L_fieldAddr rfl (off := 0) Try.underlying49 rfl rfl Try.ti22 rfl (RL_want rfl rfl (L_load rfl Try.one22 rfl (by exact cellAM hs hm3 (j := 0) rfl) ?_))))
     refine RL_want rfl rfl ?_
     refine L_fcmp rfl rfl rfl (fun _ => by rw [binOp_float_cmp_leq, c2]; rfl) ?_
     refine L_pick_t rfl rfl rfl (L_move rfl rfl (RL_want rfl rfl (L_fieldAddr rfl (off := 2) Try.underlying49 rfl rfl Try.ti22 rfl (RL_want rfl rfl (L_load rfl Try.one22 rfl (by exact cellAM hs hm3 (j := 2) rfl) ?_)))))
     refine RL_want rfl rfl ?_
     refine L_fcmp rfl rfl rfl (fun _ => by rw [binOp_float_cmp_geq, c3]; rfl) ?_
     refine L_pick_t rfl rfl rfl (L_move rfl rfl (RL_want rfl rfl (L_fieldAddr rfl (off := 1) Try.underlying49 rfl rfl Try.ti22 rfl (RL_want rfl rfl (L_load rfl Try.one22 rfl (by exact cellAM hs hm3 (j := 1) rfl) ?_)))))
     refine RL_want rfl rfl ?_
     refine L_fcmp rfl rfl rfl (fun _ => by rw [binOp_float_cmp_leq, c4]; rfl) ?_
     refine L_pick_t rfl rfl rfl (L_move rfl rfl (RL_want rfl rfl (L_fieldAddr rfl (off := 0) Try.underlying58 rfl rfl Try.ti22 rfl (RL_want rfl rfl (L_load rfl Try.one22 rfl (by exact cellAM hs hm4 (j := 0) rfl) ?_)))))
     refine RL_want rfl rfl (L_call rfl Try.fun23 rfl (abs_ok p.r hp.r w) ?_)
     rintro _ w ⟨rfl, rfl⟩
     cases c5 : (FloatKind.f64.format.order (p.r % 9223372036854775808) 4742290407621132288 == some .lt || FloatKind.f64.format.order (p.r % 9223372036854775808) 4742290407621132288 == some .eq)
     ·
      skip
      refine RL_want rfl rfl ?_
      refine L_fcmp rfl rfl rfl (fun _ => by rw [binOp_float_cmp_leq, c5]; rfl) ?_
      refine L_pick_t rfl rfl rfl (L_assign rfl rfl (RL_then (W_seq (W_seq (W_region (L_move rfl rfl (L_not rfl rfl (L_move rfl rfl (RL_skip rfl rfl rfl rfl (RL_skip rfl rfl rfl rfl (RL_skip rfl rfl rfl rfl (L_pick_t rfl rfl rfl ?_))))))))))))
      refine L_move rfl rfl (RL_skip rfl rfl rfl rfl (RL_skip rfl rfl rfl rfl (RL_skip rfl rfl rfl rfl (L_pick_t rfl rfl rfl (L_move rfl rfl (RL_skip rfl rfl rfl rfl (RL_skip rfl rfl rfl rfl (RL_skip rfl rfl rfl rfl (L_pick_t rfl rfl rfl (RL_then (W_if_true rfl (W_seq ?_))))))))))))
      refine W_region (L_call rfl Try.fun13 rfl (wakes_ok w) ?_)
      rintro _ w3 ⟨rfl, hs'⟩
      replace hs := hs.nil hs'
      refine L_assign rfl rfl (RL_then (W_ret' (Ex_then_ret (Ex_done1 rfl rfl ?_))))
      exact ⟨_, rfl, rfl, hs.forget hbo⟩
     ·
      skip
      by_cases hn200 : 200 < n
      ·
       skip
       refine RL_want rfl rfl ?_
       refine L_fcmp rfl rfl rfl (fun _ => by rw [binOp_float_cmp_leq, c5]; rfl) ?_
       refine L_pick_t rfl rfl rfl (L_assign rfl rfl (RL_then (W_seq (W_seq (W_region (L_move rfl rfl (L_not rfl rfl (L_move rfl rfl (RL_want rfl rfl (L_move rfl rfl (RL_want rfl rfl (L_len rfl Try.underlying68 rfl ?_))))))))))))
       refine RL_want rfl rfl (L_gtr rfl rfl rfl (dtrue (by omega)) ?_)
       refine L_pick_f rfl rfl rfl (L_move rfl rfl (RL_skip rfl rfl rfl rfl (RL_skip rfl rfl rfl rfl (RL_skip rfl rfl rfl rfl (L_pick_t rfl rfl rfl (L_move rfl rfl (RL_skip rfl rfl rfl rfl (RL_skip rfl rfl rfl rfl (RL_skip rfl rfl rfl rfl (L_pick_t rfl rfl rfl (RL_then (W_if_true rfl ?_))))))))))))
       refine W_seq (W_region (L_call rfl Try.fun13 rfl (wakes_ok w) ?_))
       rintro _ w3 ⟨rfl, hs'⟩
       replace hs := hs.nil hs'
       refine L_assign rfl rfl (RL_then (W_ret' (Ex_then_ret (Ex_done1 rfl rfl ?_))))
       exact ⟨_, rfl, rfl, hs.forget hbo⟩
      ·
       skip
       refine RL_want rfl rfl ?_
       refine L_fcmp rfl rfl rfl (fun _ => by rw [binOp_float_cmp_leq, c5]; rfl) ?_
       refine L_pick_t rfl rfl rfl (L_assign rfl rfl (RL_then (W_seq (W_seq (W_region (L_move rfl rfl (L_not rfl rfl (L_move rfl rfl (RL_want rfl rfl (L_move rfl rfl (RL_want rfl rfl (L_len rfl Try.underlying68 rfl ?_))))))))))))
       refine RL_want rfl rfl (L_gtr rfl rfl rfl (dfalse (by omega)) ?_)
       refine L_pick_f rfl rfl rfl (L_move rfl rfl (RL_want rfl rfl (L_fieldAddr rfl (off := 3) Try.underlying58 rfl rfl Try.ti22 rfl (RL_want rfl rfl (L_load rfl Try.one22 rfl (by exact cellAM hs hm4 (j := 3) rfl) ?_)))))
       refine RL_want rfl rfl (L_call rfl Try.fun24 rfl (isnanB_ok p.b w) ?_)
       rintro _ w ⟨rfl, rfl⟩
       cases c6 : nanB p.b
       ·
        skip
        refine L_pick_f rfl rfl rfl (L_move rfl rfl (RL_want rfl rfl (L_fieldAddr rfl (off := 3) Try.underlying58 rfl rfl Try.ti22 rfl (RL_want rfl rfl (L_load rfl Try.one22 rfl (by exact cellAM hs hm4 (j := 3) rfl) ?_)))))
        refine RL_want rfl rfl (L_call rfl Try.fun25 rfl (isinfB_ok p.b hp.b w) ?_)
        rintro _ w ⟨rfl, rfl⟩
        cases c7 : infB p.b
        ·
         skip
         refine L_pick_f rfl rfl rfl (RL_then (W_if_false rfl (W_skip' (Nx_then (W_seq (W_region (L_loadA rfl Try.agg49 Try.ti49 rfl (by exact cellsAt_whole (cs := r.cells) (hs.has _ hm3)) ?_)))))))
         refine L_call rfl Try.fun15 rfl (new_ok r hr.noise hr.sway hr.gate w) ?_
         rintro _ w2 (⟨hne, rfl, hs'⟩ | ⟨hne, B, mb, rfl, hs', hk'⟩)
         ·
          replace hs := hs.nil hs'
          clear hs'
          obtain ⟨er, her⟩ : ∃ er, er = newE r := ⟨_, rfl⟩
          rw [← her] at hne ⊢
          refine L_move rfl rfl (L_extract rfl rfl rfl (L_extract rfl rfl rfl (L_assign rfl rfl (L_assign rfl rfl (RL_then (W_seq (W_seq (W_region (L_move rfl rfl (L_neq rfl rfl rfl (dtrue (by omega)) ?_))))))))))
          refine L_move rfl rfl (RL_skip rfl rfl rfl rfl (RL_skip rfl rfl rfl rfl (L_pick_t rfl rfl rfl (RL_then (W_if_true rfl (W_seq (W_region (L_move rfl rfl (L_neq rfl rfl rfl (dtrue (by omega)) ?_)))))))))
          refine L_move rfl rfl (RL_want rfl rfl (L_move rfl rfl (RL_want rfl rfl (L_ptrNil rfl Try.underlying26 rfl rfl (L_pick_t rfl rfl rfl (L_move rfl rfl (RL_want rfl rfl (L_call rfl Try.fun13 rfl (wakes_ok w2) ?_))))))))
          rintro _ w3 ⟨rfl, hs'⟩
          replace hs := hs.nil hs'
          refine L_pick_t rfl rfl rfl (L_assign rfl rfl (RL_then (W_ret' (Ex_then_ret (Ex_done1 rfl rfl ?_)))))
          exact ⟨_, rfl, rfl, hs.forget hbo⟩
         ·
          have hk0 := hk'.mono hs.size
          obtain ⟨ce, hce⟩ : ∃ ce, ce = 1074 := ⟨_, rfl⟩
          have hPl : Pln ce r := pln_of hce hr hk0.rul hne c1 c2 c3 c4
          obtain ⟨k0, hk0e⟩ : ∃ k0, k0 = bok0 r B mb := ⟨_, rfl⟩
          rw [← hk0e] at hk0 hs' hk'
          have hs1 : HS w0 w2 (k0.bks ++ L0) := by
           have h1 := hs.call hs' hk'.own
           exact HS.re (L := L0 ++ k0.bks) h1 (fun c => by simp only [List.map_append, List.map_cons, List.map_nil, List.sum_append, List.sum_cons, List.sum_nil]; omega)
          clear hs hs' hk'
          have hs := hs1
          clear hs1
          have hfb : finB p.b = true := by unfold finB; rw [c6, c7]; rfl
          obtain ⟨vb, hvb⟩ := fv_fin hp.b hfb
          have hra := am_of30 hce hp.r c5
          obtain ⟨vr, hvr, _⟩ := hra
          have hfp : finP p = true := by
           unfold finP
           simp only [List.all_cons, List.all_nil, Bool.and_true, Bool.and_eq_true]
           exact ⟨fin_fv hvr, hfb⟩
          obtain ⟨⟨vx, hvx⟩, vy, hvy⟩ := pt_fin hce hvb (am_of30 hce hp.r c5)
          have hbig : FV 4697254411347427328 ((1048576 * 2 ^ ce : Nat) : Int) := by
           have := FV.nat (r := 4697254411347427328) (by decide)
           rwa [rv_fine ce hce] at this
          refine L_move rfl rfl (L_extract rfl rfl rfl (L_extract rfl rfl rfl (L_assign rfl rfl (L_assign rfl rfl (RL_then (W_seq (W_seq (W_region (L_move rfl rfl (L_neq rfl rfl rfl (dfalse (by omega)) ?_))))))))))
          refine L_move rfl rfl (RL_want rfl rfl (L_move rfl rfl (RL_want rfl rfl (L_ptrNil rfl Try.underlying26 rfl rfl (L_pick_f rfl rfl rfl (RL_then (W_if_false rfl (W_skip' (Nx_then (W_seq (W_region (L_assign rfl rfl ?_))))))))))))
          refine RL_then (W_seq (W_seq (W_region (L_assign rfl rfl (RL_then (W_block ?_))))))
          refine W_loop4 (fun (k : Bok) (lt : Nat) (i : Nat) (w : World) => [(2, .slice a n c), (3, .pointer (some ⟨b3, 0, none⟩)), (4, .pointer (some ⟨b4, 0, none⟩)), (8, bv B), (10, .float .f64 lt), (11, .int .i64 i)]) (fun (k : Bok) (lt : Nat) (i : Nat) (w : World) => w) (fun (k : Bok) (lt : Nat) (i : Nat) (w : World) => (i ≤ n) ∧ (k.B = B ∧ k.r = r) ∧ (k.ok w0 i) ∧ ((i = 0 ∧ k.os = [] ∧ k.next = 1 ∧ k.last = ninf) ∨ (1 ≤ i ∧ k.next = 2 ∧ k.last = lt ∧ ∃ o, k.os = [o] ∧ Sty ce i vx vy r lt o)) ∧ (∃ T : Int, FV lt T ∧ 0 ≤ T ∧ T ≤ ((1048576 * 2 ^ ce : Nat) : Int)) ∧ (HS w0 w (k.bks ++ L0))) (fun (k : Bok) (lt : Nat) (i : Nat) (w : World) => n - i) (k0) (0) (0) (_) (is := [2, 3, 4, 8, 10, 11]) rfl rfl ?_ ?_
          ·
           exact ⟨Nat.zero_le _, by rw [hk0e]; exact ⟨rfl, rfl⟩, hk0, .inl ⟨rfl, by rw [hk0e], by rw [hk0e], by rw [hk0e]⟩, ⟨0, fv_0, Int.le_refl _, Int.natCast_nonneg _⟩, hs⟩
          ·
           clear hs
           intro k lt i w hI
           show W _ _ _ _ [(2, .slice a n c), (3, .pointer (some ⟨b3, 0, none⟩)), (4, .pointer (some ⟨b4, 0, none⟩)), (8, bv B), (10, .float .f64 lt), (11, .int .i64 i)] w
           obtain ⟨hi, ⟨hkB, hkr⟩, hk, hst, ⟨L, l1, l2, l3⟩, hs⟩ := hI
           by_cases hlt : i < n
           ·
            obtain ⟨t, hte⟩ : ∃ t, t = ts.getD i 0 := ⟨_, rfl⟩
            have htl := hts i hlt
            rw [← hte] at htl
            have hko := hk.own
            have hko2 : Own w0 (k.bks ++ L0) := hko.app hbo
            have haoT : a = some (aD a) := (ha.old hs hko2).ao (by rw [fl_length]; omega)
            have htc : ∀ {w' : World} {R : Bks}, HS w0 w' R → Own w0 R → w'.cell? ((aD a).add i) = some (.float .f64 t) := fun h1 h2 => (ha.old h1 h2).2 _ _ (by rw [hte]; exact fl_get (by omega))
            cases d1 : (FloatKind.f64.format.order t lt == some .gt || FloatKind.f64.format.order t lt == some .eq)
            ·
             skip
             refine W_seq (W_seq (W_region (L_move rfl rfl (L_move rfl rfl (L_len rfl Try.underlying68 rfl (L_lss rfl rfl rfl (dtrue (by omega)) ?_))))))
             refine RL_then (W_if_true rfl (W_skip' (Nx_then (W_seq (W_block (W_seq (W_seq (W_region (L_move rfl rfl (L_move rfl rfl (L_idx1 rfl Try.underlying68 Try.ti22 rfl rfl (natc_k _) (by omega) haoT ?_)))))))))))
             refine L_load rfl Try.one22 rfl (by exact htc hs hko2) ?_
             refine L_move rfl rfl ?_
             refine L_fcmp rfl rfl rfl (fun _ => by rw [binOp_float_cmp_geq, d1]; rfl) ?_
             refine L_not rfl rfl (L_move rfl rfl (RL_skip rfl rfl rfl rfl (RL_skip rfl rfl rfl rfl (RL_skip rfl rfl rfl rfl (RL_skip rfl rfl rfl rfl (RL_skip rfl rfl rfl rfl (L_pick_t rfl rfl rfl (RL_then (W_if_true rfl (W_seq (W_region (L_call rfl Try.fun13 rfl (wakes_ok w) ?_))))))))))))
             rintro _ w3 ⟨rfl, hs'⟩
             replace hs := hs.nil hs'
             refine L_assign rfl rfl (RL_then (W_ret' (Ex_then_ret (Ex_block_ret (Ex_then_ret (Ex_loop_ret (Ex_block_ret (Ex_then_ret (Ex_done1 rfl rfl ?_)))))))))
             exact ⟨_, rfl, rfl, hs.forget hko2⟩
            ·
             cases d2 : FloatKind.f64.format.order t 4697254411347427328 == some .gt
             ·
              skip
              refine W_seq (W_seq (W_region (L_move rfl rfl (L_move rfl rfl (L_len rfl Try.underlying68 rfl (L_lss rfl rfl rfl (dtrue (by omega)) ?_))))))
              refine RL_then (W_if_true rfl (W_skip' (Nx_then (W_seq (W_block (W_seq (W_seq (W_region (L_move rfl rfl (L_move rfl rfl (L_idx1 rfl Try.underlying68 Try.ti22 rfl rfl (natc_k _) (by omega) haoT ?_)))))))))))
              refine L_load rfl Try.one22 rfl (by exact htc hs hko2) ?_
              refine L_move rfl rfl ?_
              refine L_fcmp rfl rfl rfl (fun _ => by rw [binOp_float_cmp_geq, d1]; rfl) ?_
              refine L_not rfl rfl (L_move rfl rfl (RL_want rfl rfl (L_move rfl rfl (RL_want rfl rfl (L_move rfl rfl (RL_want rfl rfl (L_idx1 rfl Try.underlying68 Try.ti22 rfl rfl (natc_k _) (by omega) haoT ?_)))))))
              refine RL_want rfl rfl (L_load rfl Try.one22 rfl (by exact htc hs hko2) ?_)
              refine RL_want rfl rfl ?_
              refine L_fcmp rfl rfl rfl (fun _ => by rw [binOp_float_cmp_gtr, d2]; rfl) ?_
              refine L_pick_f rfl rfl rfl (RL_then (W_if_false rfl ?_))
              obtain ⟨T, g1, g2, g3⟩ := fv_mid htl l1 hbig d1 d2
              have hwait := wait_nm hce g1 l1 l2 g2 g3
              refine W_skip' (Nx_then (W_seq (W_region (L_move rfl rfl (L_move rfl rfl (L_idx1 rfl Try.underlying68 Try.ti22 rfl rfl (natc_k _) (by omega) haoT ?_))))))
              refine L_load rfl Try.one22 rfl (by exact htc hs hko2) ?_
              refine L_assign rfl rfl (RL_then (W_seq (W_sg Try.mixed ?_)))
              replace hs := hs.drewN 1
              refine SG_stageB [0, 1, 2, 3] [4, 5, 6] [7, 8] (noBk (fun _ _ _ => False)) (g' := 4) (by kernel_rfl) (by kernel_rfl) (fun _ _ _ _ _ h => h) hs ?_
              refine PL_val rfl (fun w => R_move rfl) ?_
              refine PL_val rfl (fun w => R_move rfl) ?_
              refine PL_val rfl (fun w => R_move rfl) ?_
              refine PL_val rfl (fun w => R_idx1 Try.underlying68 Try.ti22 rfl rfl (natc_k _) (by omega) haoT) ?_
              refine PL_endB ?_
              refine HB_val rfl (fun w R hR hs => R_load Try.one22 rfl (by exact htc hs (hko2.app hR))) ?_
              refine HB_val rfl (fun w R hR hs => R_loadA Try.agg58 Try.ti58 rfl (by exact cellsAt_whole (cs := p.cells) (hs.has _ (List.mem_append_left _ (List.mem_append_right _ hm4))))) ?_
              refine HB_buildSlice rfl Try.underlying23 Try.ti58 rfl (by decide) rfl (by simp [Value.cells, Plt.cells]) ?_
              intro b111 hb111
              refine HB_tail ?_
              intro w hs
              obtain ⟨L1, hL1⟩ : ∃ L1, L1 = L0 ++ [(b111, Row 58 p.cells)] := ⟨_, rfl⟩
              have hL1o : Own w0 L1 := by rw [hL1]; exact hbo.app (Own.cons hb111 Own.nil)
              have hL01 : ∀ q ∈ L0, q ∈ L1 := fun q hq => by rw [hL1]; exact List.mem_append_left _ hq
              have hs1 : HS w0 w (k.bks ++ L1) := by rw [hL1, ← List.append_assoc]; exact hs
              clear hs
              have hs := hs1
              clear hs1
              have hpc : pcs [p] = p.cells := by simp [pcs]
              have hI : StepIn w0 i 1 k t (some ⟨b111, 0, none⟩) [p] L1 := ⟨hk, by omega, hL1o, fun w' L' h1 _ h2 => pcs_sl (by rw [hpc]; exact h1.has _ (h2 _ (by rw [hL1]; exact List.mem_append_right _ (List.mem_singleton.2 rfl)))), rfl, by decide, fun j hj => (by match j, hj with | 0, _ => exact hp), htl, by rcases hst with ⟨_, _, h, _⟩ | ⟨_, h, _⟩ <;> rw [h] <;> decide⟩
              have hS := step_ok w0 w i 1 k t (some ⟨b111, 0, none⟩) 1 [p] L1 hs hI
              have hre : refE k.last t [p] = 0 := ref_ok g1 hfp (by
               rcases hst with ⟨_, _, _, h⟩ | ⟨_, _, h, _⟩
               ·
                exact .inl h
               ·
                exact .inr ⟨L, by rw [h]; exact l1, g2⟩)
              rw [hkB, hre] at hS
              refine L_call rfl Try.fun7 rfl (hS) ?_
              rintro _ w1 (⟨hne, _⟩ | ⟨_, k', vt, M1, told, os2, ps, ms, os3, rfl, hs1, hb1, _, hk', hsp⟩)
              ·
               exact absurd rfl hne
              ·
               clear hs hS hI
               have hk'B : k'.B = B := by rw [hsp.sameB, hkB]
               have hk'r : k'.r = r := by rw [hsp.samer, hkr]
               have hk'l := hsp.last
               have hsp2 : told = [1] ∧ k'.next = 2 ∧ ∃ o, k'.os = [o] ∧ Sty ce (i + 1) vx vy r t o := by
                rcases hst with ⟨h1, h2, h3, _⟩ | ⟨h1, h2, _, o, h3, h4⟩
                ·
                 obtain rfl := h1
                 exact steady1 hPl hvx hvy h2 hkr h3 hsp
                ·
                 exact steady2 hce hPl hvx hvy h1 (by omega) h3 hkr h2 h4 hwait hsp
               clear hsp hst
               obtain ⟨rfl, hnx', o, hos, hsty⟩ := hsp2
               obtain ⟨a1, c1', rfl, _⟩ := hb1.slice
               obtain ⟨L2, hL2⟩ : ∃ L2, L2 = L1 ++ M1 := ⟨_, rfl⟩
               have hL2o : Own w0 L2 := by rw [hL2]; exact hL1o.app hb1.own
               have hs : HS w0 w1 (k'.bks ++ L2) := by rw [hL2, ← List.append_assoc]; exact hs1
               clear hs1
               refine L_move rfl rfl (RL_sg (SG_stageB [9, 10, 11, 12] [] [] (noBk (fun _ _ _ => False)) (g' := 0) (by kernel_rfl) (by kernel_rfl) (fun _ _ _ _ _ h => h) hs ?_))
               refine PL_val rfl (fun w => R_extract rfl rfl) ?_
               refine PL_val rfl (fun w => R_extract rfl rfl) ?_
               refine PL_val rfl (fun w => R_assign rfl) ?_
               refine PL_val rfl (fun w => R_assign rfl) ?_
               refine PL_endB (HB_tail ?_)
               intro w hs
               refine RL_sg (SG_end (by kernel_rfl) ?_)
               refine Nx_then (W_seq (W_region (L_move rfl rfl ?_)))
               rw [List.append_nil] at hs
               have hT := tracks_ok w0 w (i + 1) k' L2 hs hk' hL2o
               rw [hk'B, hos] at hT
               refine L_call rfl Try.fun12 rfl (hT) ?_
               rintro _ w1 ⟨M2, hs1, hb2⟩
               clear hs hT
               rw [show ([o] : List On).length = 1 from rfl] at hb2
               obtain ⟨a2, c2', rfl, _⟩ := hb2.slice
               obtain ⟨L3, hL3⟩ : ∃ L3, L3 = L2 ++ M2 := ⟨_, rfl⟩
               have hL3o : Own w0 L3 := by rw [hL3]; exact hL2o.app hb2.own
               have hs : HS w0 w1 (k'.bks ++ L3) := by rw [hL3, ← List.append_assoc]; exact hs1
               clear hs1
               have hM2 : ∀ q ∈ M2, q ∈ L3 := fun q hq => by rw [hL3]; exact List.mem_append_right _ hq
               have hL23 : ∀ q ∈ L2, q ∈ L3 := fun q hq => by rw [hL3]; exact List.mem_append_left _ hq
               have hM1 : ∀ q ∈ M1, q ∈ L2 := fun q hq => by rw [hL2]; exact List.mem_append_right _ hq
               have hL03 : ∀ q ∈ L0, q ∈ L3 := fun q hq => hL23 _ (by rw [hL2]; exact List.mem_append_left _ (hL01 _ hq))
               have hq1 : SlC w1 a1 (il [1]) := Bl.slcM hb1 hs (fun q hq => List.mem_append_right _ (hL23 _ (hM1 q hq)))
               have hq2 : ∀ {w' : World} {R : Bks}, HS w0 w' (k'.bks ++ (L3 ++ R)) → SlC w' a2 (tcs [o.t]) := fun h => Bl.slcM hb2 h (fun q hq => List.mem_append_right _ (List.mem_append_left _ (hM2 q hq)))
               have hsn : HS w0 w1 (k'.bks ++ (L3 ++ [])) := by rw [List.append_nil]; exact hs
               have haoA : a2 = some (aD a2) := (hq2 hsn).ao (by rw [tcs_len]; show 0 < 1 * 15; decide)
               have q0 : w1.cell? ((aD a2).add 0) = some (.int .i64 1) := by rw [← hsty.id]; exact (hq2 hsn).2 0 _ rfl
               have q13 : w1.cell? ((aD a2).add 13) = some (.int .i64 ((i + 1 : Nat) : Int)) := by rw [← hsty.steps]; exact (hq2 hsn).2 13 _ rfl
               have q12 : w1.cell? ((aD a2).add 12) = some (.int .u16 ((sn (i + 1) : Nat) : Int)) := by rw [← hsty.seen]; exact (hq2 hsn).2 12 _ rfl
               have hodd' : ((sn (i + 1) : Nat) : Int).tmod 2 = 1 := by
                rw [show ((sn (i + 1) : Nat) : Int).tmod 2 = ((sn (i + 1) % 2 : Nat) : Int) from rfl, sn_odd (by omega)]; rfl
               refine L_assign rfl rfl (RL_then (W_seq (W_seq (W_region (L_move rfl rfl (L_neq rfl rfl rfl (dfalse (by omega)) ?_))))))
               refine L_move rfl rfl (RL_want rfl rfl (L_move rfl rfl (RL_want rfl rfl (L_len rfl Try.underlying27 rfl (RL_want rfl rfl (L_neq rfl rfl rfl (dfalse (by omega)) ?_))))))
               refine L_pick_f rfl rfl rfl (L_move rfl rfl (RL_want rfl rfl (L_move rfl rfl (RL_want rfl rfl (L_idx1 rfl Try.underlying27 Try.ti3 rfl rfl natc_0 (by omega) (hq1.ao (by decide)) ?_)))))
               refine RL_want rfl rfl (L_load rfl Try.one3 rfl (by exact hq1.2 0 _ rfl) ?_)
               refine RL_want rfl rfl (L_neq rfl rfl rfl (dfalse (by omega)) ?_)
               refine L_pick_f rfl rfl rfl (L_move rfl rfl (RL_want rfl rfl (L_move rfl rfl (RL_want rfl rfl (L_len rfl Try.underlying44 rfl (RL_want rfl rfl (L_neq rfl rfl rfl (dfalse (by omega)) ?_)))))))
               refine L_pick_f rfl rfl rfl (L_move rfl rfl (RL_want rfl rfl (L_move rfl rfl (RL_want rfl rfl (L_idxN rfl Try.underlying44 Try.ti36 rfl rfl natc_0 (by omega) haoA ?_)))))
               refine RL_want rfl rfl (L_fieldAddr rfl (off := 0) Try.underlying36 rfl rfl Try.ti3 rfl (RL_want rfl rfl ?_))
               refine L_load rfl Try.one3 rfl (by (rw [add_add]; exact q0)) ?_
               refine RL_want rfl rfl (L_neq rfl rfl rfl (dfalse (by omega)) ?_)
               refine L_pick_f rfl rfl rfl (L_move rfl rfl (RL_want rfl rfl (L_move rfl rfl (RL_want rfl rfl (L_idxN rfl Try.underlying44 Try.ti36 rfl rfl natc_0 (by omega) haoA ?_)))))
               refine RL_want rfl rfl (L_fieldAddr rfl (off := 13) Try.underlying36 rfl rfl Try.ti3 rfl (RL_want rfl rfl ?_))
               refine L_load rfl Try.one3 rfl (by (rw [add_add]; exact q13)) ?_
               refine RL_want rfl rfl (L_move rfl rfl (RL_want rfl rfl (L_add rfl rfl rfl (wrp_i64 (by omega)) ?_)))
               refine RL_want rfl rfl (L_neq rfl rfl rfl (dfalse (by omega)) ?_)
               refine L_pick_f rfl rfl rfl (L_move rfl rfl (RL_want rfl rfl (L_move rfl rfl (RL_want rfl rfl (L_idxN rfl Try.underlying44 Try.ti36 rfl rfl natc_0 (by omega) haoA ?_)))))
               refine RL_want rfl rfl (L_fieldAddr rfl (off := 12) Try.underlying36 rfl rfl Try.ti34 rfl (RL_want rfl rfl ?_))
               refine L_load rfl Try.one34 rfl (by (rw [add_add]; exact q12)) ?_
               refine RL_want rfl rfl (L_rem rfl rfl rfl (by omega) ?_)
               refine RL_want rfl rfl ?_
               refine L_neq rfl rfl rfl (dfalse (by rw [hodd']; decide)) ?_
               refine L_pick_f rfl rfl rfl (RL_then (W_if_false rfl ?_))
               have hnc : w1.cell? ((Addr.mk b3 0 none).add 3) = some (.int .i64 r.need) := cellAM hs (List.mem_append_right _ (hL03 _ hm3)) (j := 3) rfl
               have hkd := hsty.kind
               have qk : w1.cell? ((aD a2).add 1) = some (.int .i8 o.t.kind) := (hq2 hsn).2 1 _ rfl
               have q1g : ∀ {w' : World} {R : Bks}, HS w0 w' (k'.bks ++ (L3 ++ R)) → w'.cell? ((aD a2).add 1) = some (.int .i8 o.t.kind) := fun h => (hq2 h).2 1 _ rfl
               clear hsn qk hnc q0 q13 q12
               refine W_skip' (Nx_then (W_seq (W_seq ?_)))
               have hfin : o.t.kind = 1 ∧ r.need ≤ (i : Int) + 1 ∨ o.t.kind = 0 ∧ ¬ r.need ≤ (i : Int) + 1 := by
                by_cases hnd : r.need ≤ ((i + 1 : Nat) : Int)
                ·
                 rw [if_pos hnd] at hkd; exact .inl ⟨hkd, by omega⟩
                ·
                 rw [if_neg hnd] at hkd; exact .inr ⟨hkd, by omega⟩
               rcases hfin with ⟨hkd1, hnd⟩ | ⟨hkd1, hnd⟩
               ·
                rw [hkd1] at q1g
                refine W_pht [0, 1, 2, 5, 6, 7] [3, 4, 8, 9, 10, 11, 12, 13, 14, 15, 16, 17] [] (fun _ _ _ => False) Try.mixed (by kernel_rfl) (fun _ _ _ _ _ h => h) hs ?_
                refine PL_val rfl (fun w => R_move rfl) ?_
                refine PL_val rfl (fun w => R_idxN Try.underlying44 Try.ti36 rfl rfl natc_0 (by omega) haoA) ?_
                refine PL_val rfl (fun w => R_fieldAddr (off := 1) Try.underlying36 rfl rfl Try.ti31 rfl) ?_
                refine PL_val rfl (fun w => R_move rfl) ?_
                refine PL_val rfl (fun w => R_add rfl rfl (wrp_i64 (by omega))) ?_
                refine PL_val rfl (fun w => R_fieldAddr (off := 3) Try.underlying49 rfl rfl Try.ti3 rfl) ?_
                refine PL_end ?_
                refine HL_val rfl (fun w hs => R_load Try.one31 rfl (by (rw [add_add]; exact q1g (R := []) (by rw [List.append_nil]; exact hs)))) ?_
                refine HL_val rfl (fun w hs => R_eql rfl rfl (dtrue (by omega))) ?_
                refine HL_val rfl (fun w hs => R_load Try.one3 rfl (by exact cellAM hs (List.mem_append_right _ (hL03 _ hm3)) (j := 3) rfl)) ?_
                refine HL_val rfl (fun w hs => R_geq rfl rfl (dtrue (by omega))) ?_
                refine HL_val rfl (fun w hs => R_bneq Try.underlying4 rfl rfl) ?_
                refine HL_val rfl (fun w hs => R_move rfl) ?_
                refine HL_want rfl rfl (HL_val rfl (fun w hs => R_move rfl) ?_)
                refine HL_want rfl rfl (HL_val rfl (fun w hs => R_idxN Try.underlying44 Try.ti36 rfl rfl natc_0 (by omega) haoA) ?_)
                refine HL_want rfl rfl (HL_val rfl (fun w hs => R_fieldAddr (off := 1) Try.underlying36 rfl rfl Try.ti31 rfl) ?_)
                refine HL_want rfl rfl ?_
                refine HL_val rfl (fun w hs => R_load Try.one31 rfl (by (rw [add_add]; exact q1g (R := []) (by rw [List.append_nil]; exact hs)))) ?_
                refine HL_want rfl rfl (HL_val rfl (fun w hs => R_eql rfl rfl (dfalse (by omega))) ?_)
                refine HL_val rfl (fun w hs => R_pick_f rfl rfl) ?_
                refine HL_tail ?_
                intro w hs
                refine RL_then (W_if_false rfl ?_)
                have hmem : o ∈ k'.os := by rw [hos]; exact List.mem_singleton.2 rfl
                refine W_skip' (Nx_then (W_seq (W_region (L_move rfl rfl ?_))))
                have hP := past_some w0 w (i + 1) k' L3 o hs hk' hmem hL3o (by omega)
                rw [hk'B, hsty.id] at hP
                refine L_call rfl Try.fun9 rfl (hP) ?_
                rintro _ w2 ⟨vx, Mx, vy, My, rfl, hs1, hbx, hby⟩
                clear hs hP
                have hxl := hsty.xs
                have hyl := hsty.ys
                rw [hxl] at hbx
                rw [hyl] at hby
                obtain ⟨ax, cx, rfl, _⟩ := hbx.slice
                obtain ⟨ay, cy, rfl, _⟩ := hby.slice
                have hs : HS w0 w2 (k'.bks ++ (L3 ++ (Mx ++ My))) := by rw [← List.append_assoc]; exact hs1
                clear hs1
                have hMx : ∀ {R : Bks}, ∀ q ∈ Mx, q ∈ (k'.bks ++ (L3 ++ (Mx ++ My))) ++ R := fun q hq => List.mem_append_left _ (List.mem_append_right _ (List.mem_append_right _ (List.mem_append_left _ hq)))
                have hMy : ∀ {R : Bks}, ∀ q ∈ My, q ∈ (k'.bks ++ (L3 ++ (Mx ++ My))) ++ R := fun q hq => List.mem_append_left _ (List.mem_append_right _ (List.mem_append_right _ (List.mem_append_right _ hq)))
                have hX : ∀ {w' : World}, HS w0 w' (k'.bks ++ (L3 ++ (Mx ++ My))) → SlC w' ax (scs o.xs) := fun h => Bl.slcM hbx h (fun q hq => by have := hMx (R := []) q hq; rwa [List.append_nil] at this)
                have hY : ∀ {w' : World}, HS w0 w' (k'.bks ++ (L3 ++ (Mx ++ My))) → SlC w' ay (scs o.ys) := fun h => Bl.slcM hby h (fun q hq => by have := hMy (R := []) q hq; rwa [List.append_nil] at this)
                have hex : o.xs.getD i stt0 = o.t.x := hsty.xl
                have hey : o.ys.getD i stt0 = o.t.y := hsty.yl
                have haoX : ax = some (aD ax) := (hX hs).ao (by rw [scs_len]; omega)
                have haoY : ay = some (aD ay) := (hY hs).ao (by rw [scs_len]; omega)
                refine L_move rfl rfl (L_extract rfl rfl rfl (L_extract rfl rfl rfl (L_assign rfl rfl (L_assign rfl rfl (RL_then (W_seq (W_sg Try.mixed ?_)))))))
                replace hs := hs.drewN 1
                refine SG_stage [0, 1, 2, 3, 4, 5, 6, 7, 8, 9, 10, 11, 12, 13, 14, 15, 17, 18, 19] [16, 20] [21, 22, 23, 24] (fun _ _ _ => False) (g' := 11) (by kernel_rfl) (by kernel_rfl) (fun _ _ _ _ _ h => h) hs ?_
                refine PL_val rfl (fun w => R_move rfl) ?_
                refine PL_val rfl (fun w => R_len Try.underlying39 rfl) ?_
                refine PL_val rfl (fun w => R_move rfl) ?_
                refine PL_val rfl (fun w => R_add rfl rfl (wrp_i64 (by omega))) ?_
                refine PL_val rfl (fun w => R_neq rfl rfl (dfalse (by omega))) ?_
                refine PL_val rfl (fun w => R_move rfl) ?_
                refine PL_want rfl rfl rfl (fun w => R_move rfl) ?_
                refine PL_want rfl rfl rfl (fun w => R_len Try.underlying39 rfl) ?_
                refine PL_want rfl rfl rfl (fun w => R_move rfl) ?_
                refine PL_want rfl rfl rfl (fun w => R_add rfl rfl (wrp_i64 (by omega))) ?_
                refine PL_want rfl rfl rfl (fun w => R_neq rfl rfl (dfalse (by omega))) ?_
                refine PL_val rfl (fun w => R_pick_f rfl rfl) ?_
                refine PL_val rfl (fun w => R_move rfl) ?_
                refine PL_want rfl rfl rfl (fun w => R_move rfl) ?_
                refine PL_want rfl rfl rfl (fun w => R_move rfl) ?_
                refine PL_want rfl rfl rfl (fun w => R_idxN Try.underlying39 Try.ti33 rfl rfl (natc_k _) (by omega) haoX) ?_
                refine PL_want rfl rfl rfl (fun w => R_move rfl) ?_
                refine PL_want rfl rfl rfl (fun w => R_idxN Try.underlying44 Try.ti36 rfl rfl natc_0 (by omega) haoA) ?_
                refine PL_want rfl rfl rfl (fun w => R_fieldAddr (off := 2) Try.underlying36 rfl rfl Try.ti33 rfl) ?_
                refine PL_end (HL_want rfl rfl ?_)
                refine HL_val rfl (fun w hs => R_loadA Try.agg33 Try.ti33 rfl (by exact (show CellsAt w ((aD ax).add (i * 5)) o.t.x.cells by rw [← hex]; exact stt_at (hX hs) (by omega)))) ?_
                refine HL_want rfl rfl ?_
                refine HL_val rfl (fun w hs => R_loadA Try.agg33 Try.ti33 rfl (by (rw [add_add]; exact trk_x (hq2 hs) (j := 0) (show 0 < 1 by decide)))) ?_
                refine HL_tail ?_
                intro w hs
                refine RL_want rfl rfl (L_call rfl Try.fun26 rfl (sameState_ok o.t.x o.t.x rfl w) ?_)
                rintro _ w3 ⟨rfl, hs'⟩
                replace hs := hs.nil hs'
                clear hs'
                refine RL_want rfl rfl (L_not rfl rfl (L_pick_f rfl rfl rfl (L_move rfl rfl (RL_sg (SG_stage [25, 26, 27, 29, 30, 31] [28, 32] [33, 34, 35] (fun _ _ _ => False) (g' := 0) (by kernel_rfl) (by kernel_rfl) (fun _ _ _ _ _ h => h) hs ?_)))))
                refine PL_want rfl rfl rfl (fun w => R_move rfl) ?_
                refine PL_want rfl rfl rfl (fun w => R_move rfl) ?_
                refine PL_want rfl rfl rfl (fun w => R_idxN Try.underlying39 Try.ti33 rfl rfl (natc_k _) (by omega) haoY) ?_
                refine PL_want rfl rfl rfl (fun w => R_move rfl) ?_
                refine PL_want rfl rfl rfl (fun w => R_idxN Try.underlying44 Try.ti36 rfl rfl natc_0 (by omega) haoA) ?_
                refine PL_want rfl rfl rfl (fun w => R_fieldAddr (off := 7) Try.underlying36 rfl rfl Try.ti33 rfl) ?_
                refine PL_end (HL_want rfl rfl ?_)
                refine HL_val rfl (fun w hs => R_loadA Try.agg33 Try.ti33 rfl (by exact (show CellsAt w ((aD ay).add (i * 5)) o.t.y.cells by rw [← hey]; exact stt_at (hY hs) (by omega)))) ?_
                refine HL_want rfl rfl ?_
                refine HL_val rfl (fun w hs => R_loadA Try.agg33 Try.ti33 rfl (by (rw [add_add]; exact trk_y (hq2 hs) (j := 0) (show 0 < 1 by decide)))) ?_
                refine HL_tail ?_
                intro w hs
                refine RL_want rfl rfl (L_call rfl Try.fun26 rfl (sameState_ok o.t.y o.t.y rfl w) ?_)
                rintro _ w3 ⟨rfl, hs'⟩
                replace hs := hs.nil hs'
                clear hs'
                refine RL_want rfl rfl (L_not rfl rfl (L_pick_f rfl rfl rfl (RL_sg (SG_end (by kernel_rfl) ?_))))
                refine Nx_then (W_if_false rfl (W_skip' (Nx_block (Nx_then (W_region (L_move rfl rfl (L_add rfl rfl rfl (wrp_i64 (by omega)) ?_)))))))
                refine L_assign rfl rfl (RL_nil' ?_)
                refine Nx_loopP (k', t, i + 1, _) (is := [2, 3, 4, 8, 10, 11]) (I' := (fun (k : Bok) (lt : Nat) (i : Nat) (w : World) => (i ≤ n) ∧ (k.B = B ∧ k.r = r) ∧ (k.ok w0 i) ∧ ((i = 0 ∧ k.os = [] ∧ k.next = 1 ∧ k.last = ninf) ∨ (1 ≤ i ∧ k.next = 2 ∧ k.last = lt ∧ ∃ o, k.os = [o] ∧ Sty ce i vx vy r lt o)) ∧ (∃ T : Int, FV lt T ∧ 0 ≤ T ∧ T ≤ ((1048576 * 2 ^ ce : Nat) : Int)) ∧ (HS w0 w (k.bks ++ L0))) (k') (t) (i + 1) (_)) rfl rfl rfl ?_ ?_
                ·
                 refine ⟨by omega, ⟨hk'B, hk'r⟩, hk', .inr ⟨by omega, hnx', hk'l, o, hos, hsty⟩, ⟨T, g1, by omega, g3⟩, ?_⟩
                 have h1 : HS w0 w3 (([(b111, Row 58 p.cells)] ++ (M1 ++ (M2 ++ (Mx ++ My)))) ++ (k'.bks ++ L0)) := by
                  rw [hL3, hL2, hL1] at hs
                  exact HS.re hs (fun c => by simp only [List.map_append, List.map_cons, List.map_nil, List.sum_append, List.sum_cons, List.sum_nil]; omega)
                 exact HS.dropL h1 ((Own.cons hb111 Own.nil).app (hb1.own.app (hb2.own.app (hbx.own.app hby.own))))
                ·
                 show n - (i + 1) < n - i; omega
               ·
                rw [hkd1] at q1g
                refine W_pht [0, 1, 2, 5, 6, 7] [3, 4, 8, 9, 10, 11, 12, 13, 14, 15, 16, 17] [] (fun _ _ _ => False) Try.mixed (by kernel_rfl) (fun _ _ _ _ _ h => h) hs ?_
                refine PL_val rfl (fun w => R_move rfl) ?_
                refine PL_val rfl (fun w => R_idxN Try.underlying44 Try.ti36 rfl rfl natc_0 (by omega) haoA) ?_
                refine PL_val rfl (fun w => R_fieldAddr (off := 1) Try.underlying36 rfl rfl Try.ti31 rfl) ?_
                refine PL_val rfl (fun w => R_move rfl) ?_
                refine PL_val rfl (fun w => R_add rfl rfl (wrp_i64 (by omega))) ?_
                refine PL_val rfl (fun w => R_fieldAddr (off := 3) Try.underlying49 rfl rfl Try.ti3 rfl) ?_
                refine PL_end ?_
                refine HL_val rfl (fun w hs => R_load Try.one31 rfl (by (rw [add_add]; exact q1g (R := []) (by rw [List.append_nil]; exact hs)))) ?_
                refine HL_val rfl (fun w hs => R_eql rfl rfl (dfalse (by omega))) ?_
                refine HL_val rfl (fun w hs => R_load Try.one3 rfl (by exact cellAM hs (List.mem_append_right _ (hL03 _ hm3)) (j := 3) rfl)) ?_
                refine HL_val rfl (fun w hs => R_geq rfl rfl (dfalse (by omega))) ?_
                refine HL_val rfl (fun w hs => R_bneq Try.underlying4 rfl rfl) ?_
                refine HL_val rfl (fun w hs => R_move rfl) ?_
                refine HL_want rfl rfl (HL_val rfl (fun w hs => R_move rfl) ?_)
                refine HL_want rfl rfl (HL_val rfl (fun w hs => R_idxN Try.underlying44 Try.ti36 rfl rfl natc_0 (by omega) haoA) ?_)
                refine HL_want rfl rfl (HL_val rfl (fun w hs => R_fieldAddr (off := 1) Try.underlying36 rfl rfl Try.ti31 rfl) ?_)
                refine HL_want rfl rfl ?_
                refine HL_val rfl (fun w hs => R_load Try.one31 rfl (by (rw [add_add]; exact q1g (R := []) (by rw [List.append_nil]; exact hs)))) ?_
                refine HL_want rfl rfl (HL_val rfl (fun w hs => R_eql rfl rfl (dfalse (by omega))) ?_)
                refine HL_val rfl (fun w hs => R_pick_f rfl rfl) ?_
                refine HL_tail ?_
                intro w hs
                refine RL_then (W_if_false rfl ?_)
                have hmem : o ∈ k'.os := by rw [hos]; exact List.mem_singleton.2 rfl
                refine W_skip' (Nx_then (W_seq (W_region (L_move rfl rfl ?_))))
                have hP := past_some w0 w (i + 1) k' L3 o hs hk' hmem hL3o (by omega)
                rw [hk'B, hsty.id] at hP
                refine L_call rfl Try.fun9 rfl (hP) ?_
                rintro _ w2 ⟨vx, Mx, vy, My, rfl, hs1, hbx, hby⟩
                clear hs hP
                have hxl := hsty.xs
                have hyl := hsty.ys
                rw [hxl] at hbx
                rw [hyl] at hby
                obtain ⟨ax, cx, rfl, _⟩ := hbx.slice
                obtain ⟨ay, cy, rfl, _⟩ := hby.slice
                have hs : HS w0 w2 (k'.bks ++ (L3 ++ (Mx ++ My))) := by rw [← List.append_assoc]; exact hs1
                clear hs1
                have hMx : ∀ {R : Bks}, ∀ q ∈ Mx, q ∈ (k'.bks ++ (L3 ++ (Mx ++ My))) ++ R := fun q hq => List.mem_append_left _ (List.mem_append_right _ (List.mem_append_right _ (List.mem_append_left _ hq)))
                have hMy : ∀ {R : Bks}, ∀ q ∈ My, q ∈ (k'.bks ++ (L3 ++ (Mx ++ My))) ++ R := fun q hq => List.mem_append_left _ (List.mem_append_right _ (List.mem_append_right _ (List.mem_append_right _ hq)))
                have hX : ∀ {w' : World}, HS w0 w' (k'.bks ++ (L3 ++ (Mx ++ My))) → SlC w' ax (scs o.xs) := fun h => Bl.slcM hbx h (fun q hq => by have := hMx (R := []) q hq; rwa [List.append_nil] at this)
                have hY : ∀ {w' : World}, HS w0 w' (k'.bks ++ (L3 ++ (Mx ++ My))) → SlC w' ay (scs o.ys) := fun h => Bl.slcM hby h (fun q hq => by have := hMy (R := []) q hq; rwa [List.append_nil] at this)
                have hex : o.xs.getD i stt0 = o.t.x := hsty.xl
                have hey : o.ys.getD i stt0 = o.t.y := hsty.yl
                have haoX : ax = some (aD ax) := (hX hs).ao (by rw [scs_len]; omega)
                have haoY : ay = some (aD ay) := (hY hs).ao (by rw [scs_len]; omega)
                refine L_move rfl rfl (L_extract rfl rfl rfl (L_extract rfl rfl rfl (L_assign rfl rfl (L_assign rfl rfl (RL_then (W_seq (W_sg Try.mixed ?_)))))))
                replace hs := hs.drewN 1
                refine SG_stage [0, 1, 2, 3, 4, 5, 6, 7, 8, 9, 10, 11, 12, 13, 14, 15, 17, 18, 19] [16, 20] [21, 22, 23, 24] (fun _ _ _ => False) (g' := 11) (by kernel_rfl) (by kernel_rfl) (fun _ _ _ _ _ h => h) hs ?_
                refine PL_val rfl (fun w => R_move rfl) ?_
                refine PL_val rfl (fun w => R_len Try.underlying39 rfl) ?_
                refine PL_val rfl (fun w => R_move rfl) ?_
                refine PL_val rfl (fun w => R_add rfl rfl (wrp_i64 (by omega))) ?_
                refine PL_val rfl (fun w => R_neq rfl rfl (dfalse (by omega))) ?_
                refine PL_val rfl (fun w => R_move rfl) ?_
                refine PL_want rfl rfl rfl (fun w => R_move rfl) ?_
                refine PL_want rfl rfl rfl (fun w => R_len Try.underlying39 rfl) ?_
                refine PL_want rfl rfl rfl (fun w => R_move rfl) ?_
                refine PL_want rfl rfl rfl (fun w => R_add rfl rfl (wrp_i64 (by omega))) ?_
                refine PL_want rfl rfl rfl (fun w => R_neq rfl rfl (dfalse (by omega))) ?_
                refine PL_val rfl (fun w => R_pick_f rfl rfl) ?_
                refine PL_val rfl (fun w => R_move rfl) ?_
                refine PL_want rfl rfl rfl (fun w => R_move rfl) ?_
                refine PL_want rfl rfl rfl (fun w => R_move rfl) ?_
                refine PL_want rfl rfl rfl (fun w => R_idxN Try.underlying39 Try.ti33 rfl rfl (natc_k _) (by omega) haoX) ?_
                refine PL_want rfl rfl rfl (fun w => R_move rfl) ?_
                refine PL_want rfl rfl rfl (fun w => R_idxN Try.underlying44 Try.ti36 rfl rfl natc_0 (by omega) haoA) ?_
                refine PL_want rfl rfl rfl (fun w => R_fieldAddr (off := 2) Try.underlying36 rfl rfl Try.ti33 rfl) ?_
                refine PL_end (HL_want rfl rfl ?_)
                refine HL_val rfl (fun w hs => R_loadA Try.agg33 Try.ti33 rfl (by exact (show CellsAt w ((aD ax).add (i * 5)) o.t.x.cells by rw [← hex]; exact stt_at (hX hs) (by omega)))) ?_
                refine HL_want rfl rfl ?_
                refine HL_val rfl (fun w hs => R_loadA Try.agg33 Try.ti33 rfl (by (rw [add_add]; exact trk_x (hq2 hs) (j := 0) (show 0 < 1 by decide)))) ?_
                refine HL_tail ?_
                intro w hs
                refine RL_want rfl rfl (L_call rfl Try.fun26 rfl (sameState_ok o.t.x o.t.x rfl w) ?_)
                rintro _ w3 ⟨rfl, hs'⟩
                replace hs := hs.nil hs'
                clear hs'
                refine RL_want rfl rfl (L_not rfl rfl (L_pick_f rfl rfl rfl (L_move rfl rfl (RL_sg (SG_stage [25, 26, 27, 29, 30, 31] [28, 32] [33, 34, 35] (fun _ _ _ => False) (g' := 0) (by kernel_rfl) (by kernel_rfl) (fun _ _ _ _ _ h => h) hs ?_)))))
                refine PL_want rfl rfl rfl (fun w => R_move rfl) ?_
                refine PL_want rfl rfl rfl (fun w => R_move rfl) ?_
                refine PL_want rfl rfl rfl (fun w => R_idxN Try.underlying39 Try.ti33 rfl rfl (natc_k _) (by omega) haoY) ?_
                refine PL_want rfl rfl rfl (fun w => R_move rfl) ?_
                refine PL_want rfl rfl rfl (fun w => R_idxN Try.underlying44 Try.ti36 rfl rfl natc_0 (by omega) haoA) ?_
                refine PL_want rfl rfl rfl (fun w => R_fieldAddr (off := 7) Try.underlying36 rfl rfl Try.ti33 rfl) ?_
                refine PL_end (HL_want rfl rfl ?_)
                refine HL_val rfl (fun w hs => R_loadA Try.agg33 Try.ti33 rfl (by exact (show CellsAt w ((aD ay).add (i * 5)) o.t.y.cells by rw [← hey]; exact stt_at (hY hs) (by omega)))) ?_
                refine HL_want rfl rfl ?_
                refine HL_val rfl (fun w hs => R_loadA Try.agg33 Try.ti33 rfl (by (rw [add_add]; exact trk_y (hq2 hs) (j := 0) (show 0 < 1 by decide)))) ?_
                refine HL_tail ?_
                intro w hs
                refine RL_want rfl rfl (L_call rfl Try.fun26 rfl (sameState_ok o.t.y o.t.y rfl w) ?_)
                rintro _ w3 ⟨rfl, hs'⟩
                replace hs := hs.nil hs'
                clear hs'
                refine RL_want rfl rfl (L_not rfl rfl (L_pick_f rfl rfl rfl (RL_sg (SG_end (by kernel_rfl) ?_))))
                refine Nx_then (W_if_false rfl (W_skip' (Nx_block (Nx_then (W_region (L_move rfl rfl (L_add rfl rfl rfl (wrp_i64 (by omega)) ?_)))))))
                refine L_assign rfl rfl (RL_nil' ?_)
                refine Nx_loopP (k', t, i + 1, _) (is := [2, 3, 4, 8, 10, 11]) (I' := (fun (k : Bok) (lt : Nat) (i : Nat) (w : World) => (i ≤ n) ∧ (k.B = B ∧ k.r = r) ∧ (k.ok w0 i) ∧ ((i = 0 ∧ k.os = [] ∧ k.next = 1 ∧ k.last = ninf) ∨ (1 ≤ i ∧ k.next = 2 ∧ k.last = lt ∧ ∃ o, k.os = [o] ∧ Sty ce i vx vy r lt o)) ∧ (∃ T : Int, FV lt T ∧ 0 ≤ T ∧ T ≤ ((1048576 * 2 ^ ce : Nat) : Int)) ∧ (HS w0 w (k.bks ++ L0))) (k') (t) (i + 1) (_)) rfl rfl rfl ?_ ?_
                ·
                 refine ⟨by omega, ⟨hk'B, hk'r⟩, hk', .inr ⟨by omega, hnx', hk'l, o, hos, hsty⟩, ⟨T, g1, by omega, g3⟩, ?_⟩
                 have h1 : HS w0 w3 (([(b111, Row 58 p.cells)] ++ (M1 ++ (M2 ++ (Mx ++ My)))) ++ (k'.bks ++ L0)) := by
                  rw [hL3, hL2, hL1] at hs
                  exact HS.re hs (fun c => by simp only [List.map_append, List.map_cons, List.map_nil, List.sum_append, List.sum_cons, List.sum_nil]; omega)
                 exact HS.dropL h1 ((Own.cons hb111 Own.nil).app (hb1.own.app (hb2.own.app (hbx.own.app hby.own))))
                ·
                 show n - (i + 1) < n - i; omega
             ·
              skip
              refine W_seq (W_seq (W_region (L_move rfl rfl (L_move rfl rfl (L_len rfl Try.underlying68 rfl (L_lss rfl rfl rfl (dtrue (by omega)) ?_))))))
              refine RL_then (W_if_true rfl (W_skip' (Nx_then (W_seq (W_block (W_seq (W_seq (W_region (L_move rfl rfl (L_move rfl rfl (L_idx1 rfl Try.underlying68 Try.ti22 rfl rfl (natc_k _) (by omega) haoT ?_)))))))))))
              refine L_load rfl Try.one22 rfl (by exact htc hs hko2) ?_
              refine L_move rfl rfl ?_
              refine L_fcmp rfl rfl rfl (fun _ => by rw [binOp_float_cmp_geq, d1]; rfl) ?_
              refine L_not rfl rfl (L_move rfl rfl (RL_want rfl rfl (L_move rfl rfl (RL_want rfl rfl (L_move rfl rfl (RL_want rfl rfl (L_idx1 rfl Try.underlying68 Try.ti22 rfl rfl (natc_k _) (by omega) haoT ?_)))))))
              refine RL_want rfl rfl (L_load rfl Try.one22 rfl (by exact htc hs hko2) ?_)
              refine RL_want rfl rfl ?_
              refine L_fcmp rfl rfl rfl (fun _ => by rw [binOp_float_cmp_gtr, d2]; rfl) ?_
              refine L_pick_f rfl rfl rfl (RL_then (W_if_true rfl (W_seq (W_region (L_call rfl Try.fun13 rfl (wakes_ok w) ?_)))))
              rintro _ w3 ⟨rfl, hs'⟩
              replace hs := hs.nil hs'
              refine L_assign rfl rfl (RL_then (W_ret' (Ex_then_ret (Ex_block_ret (Ex_then_ret (Ex_loop_ret (Ex_block_ret (Ex_then_ret (Ex_done1 rfl rfl ?_)))))))))
              exact ⟨_, rfl, rfl, hs.forget hko2⟩
           ·
            obtain rfl : n = i := by omega
            refine W_seq (W_seq (W_region (L_move rfl rfl (L_move rfl rfl (L_len rfl Try.underlying68 rfl (L_lss rfl rfl rfl (dfalse (by omega)) ?_))))))
            refine RL_then (W_if_false rfl (W_exit' (Ex_then_exit (Ex_loop_exit (Ex_block_hit (Nx_then (W_seq (W_region (L_call rfl Try.fun13 rfl (wakes_ok w) ?_)))))))))
            rintro _ w3 ⟨rfl, hs'⟩
            replace hs := hs.nil hs'
            refine L_assign rfl rfl (RL_then (W_ret' (Ex_done1 rfl rfl ?_)))
            exact ⟨_, rfl, rfl, hs.forget (hk.own.app hbo)⟩
        ·
         skip
         refine L_pick_f rfl rfl rfl (RL_then (W_if_true rfl (W_seq (W_region (L_call rfl Try.fun13 rfl (wakes_ok w) ?_)))))
         rintro _ w3 ⟨rfl, hs'⟩
         replace hs := hs.nil hs'
         refine L_assign rfl rfl (RL_then (W_ret' (Ex_then_ret (Ex_done1 rfl rfl ?_))))
         exact ⟨_, rfl, rfl, hs.forget hbo⟩
       ·
        skip
        refine L_pick_f rfl rfl rfl (L_move rfl rfl (RL_skip rfl rfl rfl rfl (RL_skip rfl rfl rfl rfl (RL_skip rfl rfl rfl rfl (L_pick_t rfl rfl rfl (RL_then (W_if_true rfl (W_seq (W_region (L_call rfl Try.fun13 rfl (wakes_ok w) ?_))))))))))
        rintro _ w3 ⟨rfl, hs'⟩
        replace hs := hs.nil hs'
        refine L_assign rfl rfl (RL_then (W_ret' (Ex_then_ret (Ex_done1 rfl rfl ?_))))
        exact ⟨_, rfl, rfl, hs.forget hbo⟩
end Go.Proofs.Ytffobakdngbadaa
