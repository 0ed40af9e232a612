/-
  A part of the proof: what functions that the statement reaches do, or a plain law on what they do. Each theorem holds under its own premises alone.
-/
import Derived.Test.YtoiobncojfeoiaaTUY0
namespace Go.Proofs.Ytoiobncojfeoiaa
open Go Go.Lk
/-! ### The document's guard: its memory -/
structure Kn where
  zone : Int
  id : Int
  inn : Bool
  told : Bool
def Kn.cells (k : Kn) : List Value := [.int .i64 k.zone, .int .i64 k.id, .bool k.inn, .bool k.told]
def kn0 : Kn := ⟨0, 0, false, false⟩
def kcs (ks : List Kn) : List Value := ks.flatMap Kn.cells
theorem kcs_len (ts : List Kn) : (kcs ts).length = ts.length * 4 := by
  induction ts with
  | nil => rfl
  | cons t ts ih =>
    show (Kn.cells t ++ kcs ts).length = _
    rw [List.length_append, ih, List.length_cons]
    show 4 + _ = _
    omega
theorem kcs_get : ∀ {ts : List Kn} {i q : Nat} {v : Value}, i < ts.length → (Kn.cells (ts.getD i kn0))[q]? = some v → (kcs ts)[i * 4 + q]? = some v
  | t :: ts, 0, q, v, _, h => by
    show (Kn.cells t ++ kcs ts)[0 * 4 + q]? = some v
    rw [Nat.zero_mul, Nat.zero_add]
    have hq : q < (Kn.cells t).length := (List.getElem?_eq_some_iff.1 h).1
    rw [List.getElem?_append_left hq]; exact h
  | t :: ts, i + 1, q, v, hi, h => by
    show (Kn.cells t ++ kcs ts)[(i + 1) * 4 + q]? = some v
    have hl : (Kn.cells t).length = 4 := rfl
    rw [List.getElem?_append_right (by omega), show (i + 1) * 4 + q - (Kn.cells t).length = i * 4 + q by omega]
    exact kcs_get (by simpa using hi) h
theorem kcs_at {w : World} {a : Option Addr} {ts : List Kn} (h : SlC w a (kcs ts)) {i : Nat} (hi : i < ts.length) : CellsAt w ((aD a).add (i * 4)) (Kn.cells (ts.getD i kn0)) := h.sub fun _ _ hv => kcs_get hi hv
theorem kcs_app (ts us : List Kn) : kcs (ts ++ us) = kcs ts ++ kcs us := List.flatMap_append ..
theorem Kn.one (k : Kn) : ∀ v ∈ k.cells, v.oneCell' = true := by
  intro v hv
  unfold Kn.cells at hv
  simp only [List.mem_cons, List.not_mem_nil, or_false] at hv
  rcases hv with rfl | rfl | rfl | rfl <;> rfl
abbrev rbs (B far : Nat) (vZ : Value) (MZ : Bks) (vK : Value) (MK : Bks) (ever : Int) (zs : List Zn) : Bks := (B, Row 107 [.float .f64 far, vZ, vK, .int .i64 ever]) :: (MZ ++ (MK ++ zms zs))
structure ROk (w0 : World) (B : Nat) (vZ : Value) (MZ : Bks) (vK : Value) (MK : Bks) (zs : List Zn) (ks : List Kn) : Prop where
  ownB : w0.heap.size ≤ B
  zones : Bl w0 118 3 vZ zs.length (zcs zs) MZ
  known : Bl w0 109 4 vK ks.length (kcs ks) MK
  each : ∀ z ∈ zs, z.ok w0
  len : zs.length ≤ 64
theorem ROk.owns {w0 : World} {B far : Nat} {vZ : Value} {MZ : Bks} {vK : Value} {MK : Bks} {ever : Int} {zs : List Zn} {ks : List Kn} (h : ROk w0 B vZ MZ vK MK zs ks) : Own w0 (rbs B far vZ MZ vK MK ever zs) := Own.cons h.ownB (h.zones.own.app (h.known.own.app (zms_own h.each)))
/-! ### IsFinite, New -/
def finB (x : Nat) : Bool := (FloatKind.f64.format.order x x == some .eq) && (leB x 9218868437227405311 && geB x 18442240474082181119)
theorem isfin_ok (x : Nat) (w : World) : Ret Try.prog 41 [.float .f64 x] w fun v w' => v = .bool (finB x) ∧ w' = w := by
  obtain ⟨a, ha⟩ : ∃ a, (FloatKind.f64.format.order x x == some .eq) = a := ⟨_, rfl⟩
  obtain ⟨b, hb⟩ : ∃ b, leB x 9218868437227405311 = b := ⟨_, rfl⟩
  obtain ⟨c, hc⟩ : ∃ c, geB x 18442240474082181119 = c := ⟨_, rfl⟩
  refine calls_of_W Try.func41 rfl rfl rfl ?_
  cases a
  · refine W_seq ?_
    refine W_region ?_
    refine L_assign rfl rfl ?_
    refine RL_then ?_
    refine W_seq ?_
    refine W_region ?_
    refine L_move rfl rfl ?_
    refine L_move rfl rfl ?_
    refine L_fcmp rfl rfl rfl (fun _ => by rw [binOp_float_cmp_eql, ha]; rfl) ?_
    refine L_move rfl rfl ?_
    first | (refine RL_want rfl rfl ?_; refine L_move rfl rfl ?_) | refine RL_skip rfl rfl rfl rfl ?_ | refine RL_skipU rfl rfl rfl ?_
    first | (refine RL_want rfl rfl ?_; refine L_fcmp rfl rfl rfl (fun _ => by rw [binOp_float_cmp_leq, (show (FloatKind.f64.format.order x 9218868437227405311 == some .lt || FloatKind.f64.format.order x 9218868437227405311 == some .eq) = _ from hb)]; rfl) ?_) | refine RL_skip rfl rfl rfl rfl ?_ | refine RL_skipU rfl rfl rfl ?_
    first | refine L_pick_t rfl rfl rfl ?_ | refine L_pick_f rfl rfl rfl ?_
    refine L_move rfl rfl ?_
    first | (refine RL_want rfl rfl ?_; refine L_move rfl rfl ?_) | refine RL_skip rfl rfl rfl rfl ?_ | refine RL_skipU rfl rfl rfl ?_
    first | (refine RL_want rfl rfl ?_; refine L_fcmp rfl rfl rfl (fun _ => by rw [binOp_float_cmp_geq, (show (FloatKind.f64.format.order x 18442240474082181119 == some .gt || FloatKind.f64.format.order x 18442240474082181119 == some .eq) = _ from hc)]; rfl) ?_) | refine RL_skip rfl rfl rfl rfl ?_ | refine RL_skipU rfl rfl rfl ?_
    first | refine L_pick_t rfl rfl rfl ?_ | refine L_pick_f rfl rfl rfl ?_
    refine L_assign rfl rfl ?_
    refine RL_then ?_
    refine W_ret' ?_
    refine Ex_done1 rfl rfl ?_
    exact ⟨_, rfl, by unfold finB; rw [ha]; rfl, rfl⟩
  · cases b
    · refine W_seq ?_
      refine W_region ?_
      refine L_assign rfl rfl ?_
      refine RL_then ?_
      refine W_seq ?_
      refine W_region ?_
      refine L_move rfl rfl ?_
      refine L_move rfl rfl ?_
      refine L_fcmp rfl rfl rfl (fun _ => by rw [binOp_float_cmp_eql, ha]; rfl) ?_
      refine L_move rfl rfl ?_
      first | (refine RL_want rfl rfl ?_; refine L_move rfl rfl ?_) | refine RL_skip rfl rfl rfl rfl ?_ | refine RL_skipU rfl rfl rfl ?_
      first | (refine RL_want rfl rfl ?_; refine L_fcmp rfl rfl rfl (fun _ => by rw [binOp_float_cmp_leq, (show (FloatKind.f64.format.order x 9218868437227405311 == some .lt || FloatKind.f64.format.order x 9218868437227405311 == some .eq) = _ from hb)]; rfl) ?_) | refine RL_skip rfl rfl rfl rfl ?_ | refine RL_skipU rfl rfl rfl ?_
      first | refine L_pick_t rfl rfl rfl ?_ | refine L_pick_f rfl rfl rfl ?_
      refine L_move rfl rfl ?_
      first | (refine RL_want rfl rfl ?_; refine L_move rfl rfl ?_) | refine RL_skip rfl rfl rfl rfl ?_ | refine RL_skipU rfl rfl rfl ?_
      first | (refine RL_want rfl rfl ?_; refine L_fcmp rfl rfl rfl (fun _ => by rw [binOp_float_cmp_geq, (show (FloatKind.f64.format.order x 18442240474082181119 == some .gt || FloatKind.f64.format.order x 18442240474082181119 == some .eq) = _ from hc)]; rfl) ?_) | refine RL_skip rfl rfl rfl rfl ?_ | refine RL_skipU rfl rfl rfl ?_
      first | refine L_pick_t rfl rfl rfl ?_ | refine L_pick_f rfl rfl rfl ?_
      refine L_assign rfl rfl ?_
      refine RL_then ?_
      refine W_ret' ?_
      refine Ex_done1 rfl rfl ?_
      exact ⟨_, rfl, by unfold finB; rw [ha, hb]; rfl, rfl⟩
    · refine W_seq ?_
      refine W_region ?_
      refine L_assign rfl rfl ?_
      refine RL_then ?_
      refine W_seq ?_
      refine W_region ?_
      refine L_move rfl rfl ?_
      refine L_move rfl rfl ?_
      refine L_fcmp rfl rfl rfl (fun _ => by rw [binOp_float_cmp_eql, ha]; rfl) ?_
      refine L_move rfl rfl ?_
      first | (refine RL_want rfl rfl ?_; refine L_move rfl rfl ?_) | refine RL_skip rfl rfl rfl rfl ?_ | refine RL_skipU rfl rfl rfl ?_
      first | (refine RL_want rfl rfl ?_; refine L_fcmp rfl rfl rfl (fun _ => by rw [binOp_float_cmp_leq, (show (FloatKind.f64.format.order x 9218868437227405311 == some .lt || FloatKind.f64.format.order x 9218868437227405311 == some .eq) = _ from hb)]; rfl) ?_) | refine RL_skip rfl rfl rfl rfl ?_ | refine RL_skipU rfl rfl rfl ?_
      first | refine L_pick_t rfl rfl rfl ?_ | refine L_pick_f rfl rfl rfl ?_
      refine L_move rfl rfl ?_
      first | (refine RL_want rfl rfl ?_; refine L_move rfl rfl ?_) | refine RL_skip rfl rfl rfl rfl ?_ | refine RL_skipU rfl rfl rfl ?_
      first | (refine RL_want rfl rfl ?_; refine L_fcmp rfl rfl rfl (fun _ => by rw [binOp_float_cmp_geq, (show (FloatKind.f64.format.order x 18442240474082181119 == some .gt || FloatKind.f64.format.order x 18442240474082181119 == some .eq) = _ from hc)]; rfl) ?_) | refine RL_skip rfl rfl rfl rfl ?_ | refine RL_skipU rfl rfl rfl ?_
      first | refine L_pick_t rfl rfl rfl ?_ | refine L_pick_f rfl rfl rfl ?_
      refine L_assign rfl rfl ?_
      refine RL_then ?_
      refine W_ret' ?_
      refine Ex_done1 rfl rfl ?_
      exact ⟨_, rfl, by unfold finB; rw [ha, hb, hc]; rfl, rfl⟩
def badR (far : Nat) : Bool := !finB far || ltB far 0
theorem rnew_ok (far : Nat) (w0 : World) : Ret Try.prog 24 [.float .f64 far] w0 fun v w' => (badR far = true ∧ v = .tuple #[.pointer none, .int .i64 6] ∧ HS w0 w' []) ∨
    (badR far = false ∧ ∃ B, v = .tuple #[.pointer (some ⟨B, 0, none⟩), .int .i64 0] ∧ HS w0 w' (rbs B far (.slice none 0 0) [] (.slice none 0 0) [] 0 []) ∧ ROk w0 B (.slice none 0 0) [] (.slice none 0 0) [] [] []) := by
  refine Ret.start fun w hs => ?_
  refine calls_of_W Try.func24 rfl rfl rfl ?_
  refine W_seq ?_
  refine W_region ?_
  refine L_assign rfl rfl ?_
  refine L_assign rfl rfl ?_
  refine RL_then ?_
  refine W_seq ?_
  refine W_seq ?_
  refine W_region ?_
  refine L_move rfl rfl ?_
  refine L_call rfl Try.fun41 rfl (isfin_ok far w) ?_
  rintro _ w ⟨rfl, rfl⟩
  cases h1 : finB far
  · refine L_not rfl rfl ?_
    refine L_move rfl rfl ?_
    first | (refine RL_want rfl rfl ?_; refine L_move rfl rfl ?_) | refine RL_skip rfl rfl rfl rfl ?_ | refine RL_skipU rfl rfl rfl ?_
    first | (refine RL_want rfl rfl ?_; refine L_fcmp rfl rfl rfl (fun _ => by rw [binOp_float_cmp_lss]; rfl) ?_) | refine RL_skip rfl rfl rfl rfl ?_ | refine RL_skipU rfl rfl rfl ?_
    first | refine L_pick_t rfl rfl rfl ?_ | refine L_pick_f rfl rfl rfl ?_
    refine RL_then ?_
    refine W_if_true rfl ?_
    refine W_seq ?_
    refine W_region ?_
    refine L_assign rfl rfl ?_
    refine L_assign rfl rfl ?_
    refine RL_then ?_
    refine W_ret' ?_
    refine Ex_then_ret ?_
    refine Ex_done2 rfl rfl rfl ?_
    exact ⟨_, rfl, .inl ⟨by unfold badR; rw [h1]; rfl, rfl, hs⟩⟩
  · cases h2 : FloatKind.f64.format.order far 0 == some .lt
    · skip
      refine L_not rfl rfl ?_
      refine L_move rfl rfl ?_
      first | (refine RL_want rfl rfl ?_; refine L_move rfl rfl ?_) | refine RL_skip rfl rfl rfl rfl ?_ | refine RL_skipU rfl rfl rfl ?_
      first | (refine RL_want rfl rfl ?_; refine L_fcmp rfl rfl rfl (fun _ => by rw [binOp_float_cmp_lss, h2]; rfl) ?_) | refine RL_skip rfl rfl rfl rfl ?_ | refine RL_skipU rfl rfl rfl ?_
      first | refine L_pick_t rfl rfl rfl ?_ | refine L_pick_f rfl rfl rfl ?_
      refine RL_then ?_
      refine W_if_false rfl ?_
      refine W_skip' ?_
      refine Nx_then ?_
      refine W_seq ?_
      refine W_region ?_
      refine L_move rfl rfl ?_
      refine L_build rfl rfl (Pl.built Try.pl107 rfl) ?_
      refine L_box rfl hs rfl ?_
      intro b13 w hb13 hnb13 hs
      try dsimp only [List.set_cons_succ, List.set_cons_zero, List.cons_append, List.nil_append] at hs
      refine L_assign rfl rfl ?_
      refine L_assign rfl rfl ?_
      refine RL_then ?_
      refine W_ret' ?_
      refine Ex_done2 rfl rfl rfl ?_
      exact ⟨_, rfl, .inr ⟨by unfold badR; rw [h1]; exact h2, b13, rfl, hs, ⟨hb13, Bl.nil, Bl.nil, fun z hz => (by cases hz), by decide⟩⟩⟩
    · skip
      refine L_not rfl rfl ?_
      refine L_move rfl rfl ?_
      first | (refine RL_want rfl rfl ?_; refine L_move rfl rfl ?_) | refine RL_skip rfl rfl rfl rfl ?_ | refine RL_skipU rfl rfl rfl ?_
      first | (refine RL_want rfl rfl ?_; refine L_fcmp rfl rfl rfl (fun _ => by rw [binOp_float_cmp_lss, h2]; rfl) ?_) | refine RL_skip rfl rfl rfl rfl ?_ | refine RL_skipU rfl rfl rfl ?_
      first | refine L_pick_t rfl rfl rfl ?_ | refine L_pick_f rfl rfl rfl ?_
      refine RL_then ?_
      refine W_if_true rfl ?_
      refine W_seq ?_
      refine W_region ?_
      refine L_assign rfl rfl ?_
      refine L_assign rfl rfl ?_
      refine RL_then ?_
      refine W_ret' ?_
      refine Ex_then_ret ?_
      refine Ex_done2 rfl rfl rfl ?_
      exact ⟨_, rfl, .inl ⟨by unfold badR; rw [h1]; exact h2, rfl, hs⟩⟩
theorem fv_fin {x : Nat} {v : Int} (h : FV x v) : finB x = true := by
  obtain ⟨s, r, hx, hr, hv⟩ := h
  have h2 : FV x v := ⟨s, r, hx, hr, hv⟩
  have hm : rv r ≤ rv 9218868437227405311 := rv_le.2 (by omega)
  have m1 : FV 9218868437227405311 (rv 9218868437227405311 : Int) := ⟨false, 9218868437227405311, by decide +kernel, by decide, by simp⟩
  have m2 : FV 18442240474082181119 (-(rv 9218868437227405311 : Int)) := ⟨true, 9218868437227405311, by decide +kernel, by decide, by simp⟩
  have hb : v ≤ (rv 9218868437227405311 : Int) ∧ -(rv 9218868437227405311 : Int) ≤ v := by
    cases s <;> simp at hv <;> omega
  have e1 : leB x 9218868437227405311 = true := by
    unfold leB
    rw [h2.order m1]
    rcases Int.lt_or_eq_of_le hb.1 with h | h
    · rw [Int.compare_eq_lt.2 h]; rfl
    · rw [Int.compare_eq_eq.2 h]; rfl
  have e2 : geB x 18442240474082181119 = true := by
    unfold geB
    rw [h2.order m2]
    rcases Int.lt_or_eq_of_le hb.2 with h | h
    · rw [Int.compare_eq_gt.2 h]; rfl
    · rw [Int.compare_eq_eq.2 h.symm]; rfl
  unfold finB
  rw [h2.order h2, Int.compare_eq_eq.2 rfl, e1, e2]; rfl
theorem fin_nf {x : Nat} (hx : x < 18446744073709551616) : finB x = !nfX x := by
  rcases classify hx with ⟨v, hv⟩ | ⟨s, hs⟩ | hn
  · rw [fv_fin hv, nfX_fv hv]; rfl
  · rcases inf_of_read hx hs with rfl | rfl <;> kernel_rfl
  · have h1 : (FloatKind.f64.format.order x x == some .eq) = false := by
      cases h : (FloatKind.f64.format.order x x == some .eq) with
      | false => rfl
      | true =>
        have : leB x x = true := by unfold leB; rw [h]; simp
        rw [leB_num this] at hn; cases hn
    have h2 : nfX x = true := by
      unfold nfX
      cases h : eqB (fop .sub x x) 0 with
      | false => rfl
      | true =>
        have : leB 0 (fop .sub x x) = true := by rw [← geB_leB]; unfold geB; unfold eqB at h; rw [h]; simp
        have h3 := leB_num this
        unfold fop at h3
        rw [floatBits_nanL hn] at h3
        rw [show isnan ((none : Option Nat).getD qnan) = true from isnan_qnan] at h3; cases h3
    unfold finB
    rw [h1, h2]; rfl
theorem bad_same {far : Nat} (hf : far < 18446744073709551616) : badR far = badNew far := by unfold badR badNew; rw [fin_nf hf]; simp
end Go.Proofs.Ytoiobncojfeoiaa
