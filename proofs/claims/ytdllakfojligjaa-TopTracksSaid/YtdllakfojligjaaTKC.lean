/-
  A part of the proof: what functions that the statement reaches do, or a plain law on what they do. Each theorem holds under its own premises alone.
-/
import Derived.Test.YtdllakfojligjaaTKB
import Derived.Test.YtdllakfojligjaaKitQ
namespace Go.Proofs.Ytdllakfojligjaa
open Go Go.Lk
/-! ### Points, costs -/
theorem in_ok (n a b : Int) (w : World) : Ret Try.prog 35 [.int .i64 n, .int .i64 a, .int .i64 b] w fun v w' => v = .bool (decide (a ≤ n) && decide (n ≤ b)) ∧ w' = w := by
 refine calls_of_W Try.func35 rfl rfl rfl ?_
 by_cases h1 : a ≤ n
 ·
  by_cases h2 : n ≤ b
  ·
   refine W_seq ?_
   refine W_region ?_
   refine L_assign rfl rfl ?_
   refine RL_then ?_
   refine W_seq ?_
   refine W_region ?_
   refine L_move rfl rfl ?_
   refine L_move rfl rfl ?_
   first | refine L_geq rfl rfl rfl (dtrue (by omega)) ?_ | refine L_geq rfl rfl rfl (dfalse (by omega)) ?_ | refine L_geq rfl rfl rfl rfl ?_
   refine L_move rfl rfl ?_
   first | (refine RL_want rfl rfl ?_; refine L_move rfl rfl ?_) | refine RL_skip rfl rfl rfl rfl ?_ | refine RL_skipU rfl rfl rfl ?_
   first | (refine RL_want rfl rfl ?_; refine L_move rfl rfl ?_) | refine RL_skip rfl rfl rfl rfl ?_ | refine RL_skipU rfl rfl rfl ?_
   first | (refine RL_want rfl rfl ?_; (first | refine L_leq rfl rfl rfl (dtrue (by omega)) ?_ | refine L_leq rfl rfl rfl (dfalse (by omega)) ?_ | refine L_leq rfl rfl rfl rfl ?_)) | refine RL_skip rfl rfl rfl rfl ?_ | refine RL_skipU rfl rfl rfl ?_
   first | refine L_pick_t rfl rfl rfl ?_ | refine L_pick_f rfl rfl rfl ?_
   refine L_assign rfl rfl ?_
   refine RL_then ?_
   refine W_ret' ?_
   refine Ex_done1 rfl rfl ?_
   exact ⟨_, rfl, by rw [decide_eq_true h1, decide_eq_true h2]; rfl, rfl⟩
  ·
   refine W_seq ?_
   refine W_region ?_
   refine L_assign rfl rfl ?_
   refine RL_then ?_
   refine W_seq ?_
   refine W_region ?_
   refine L_move rfl rfl ?_
   refine L_move rfl rfl ?_
   first | refine L_geq rfl rfl rfl (dtrue (by omega)) ?_ | refine L_geq rfl rfl rfl (dfalse (by omega)) ?_ | refine L_geq rfl rfl rfl rfl ?_
   refine L_move rfl rfl ?_
   first | (refine RL_want rfl rfl ?_; refine L_move rfl rfl ?_) | refine RL_skip rfl rfl rfl rfl ?_ | refine RL_skipU rfl rfl rfl ?_
   first | (refine RL_want rfl rfl ?_; refine L_move rfl rfl ?_) | refine RL_skip rfl rfl rfl rfl ?_ | refine RL_skipU rfl rfl rfl ?_
   first | (refine RL_want rfl rfl ?_; (first | refine L_leq rfl rfl rfl (dtrue (by omega)) ?_ | refine L_leq rfl rfl rfl (dfalse (by omega)) ?_ | refine L_leq rfl rfl rfl rfl ?_)) | refine RL_skip rfl rfl rfl rfl ?_ | refine RL_skipU rfl rfl rfl ?_
   first | refine L_pick_t rfl rfl rfl ?_ | refine L_pick_f rfl rfl rfl ?_
   refine L_assign rfl rfl ?_
   refine RL_then ?_
   refine W_ret' ?_
   refine Ex_done1 rfl rfl ?_
   exact ⟨_, rfl, by rw [decide_eq_false h2, Bool.and_false], rfl⟩
 ·
  refine W_seq ?_
  refine W_region ?_
  refine L_assign rfl rfl ?_
  refine RL_then ?_
  refine W_seq ?_
  refine W_region ?_
  refine L_move rfl rfl ?_
  refine L_move rfl rfl ?_
  first | refine L_geq rfl rfl rfl (dtrue (by omega)) ?_ | refine L_geq rfl rfl rfl (dfalse (by omega)) ?_ | refine L_geq rfl rfl rfl rfl ?_
  refine L_move rfl rfl ?_
  first | (refine RL_want rfl rfl ?_; refine L_move rfl rfl ?_) | refine RL_skip rfl rfl rfl rfl ?_ | refine RL_skipU rfl rfl rfl ?_
  first | (refine RL_want rfl rfl ?_; refine L_move rfl rfl ?_) | refine RL_skip rfl rfl rfl rfl ?_ | refine RL_skipU rfl rfl rfl ?_
  first | (refine RL_want rfl rfl ?_; (first | refine L_leq rfl rfl rfl (dtrue (by omega)) ?_ | refine L_leq rfl rfl rfl (dfalse (by omega)) ?_ | refine L_leq rfl rfl rfl rfl ?_)) | refine RL_skip rfl rfl rfl rfl ?_ | refine RL_skipU rfl rfl rfl ?_
  first | refine L_pick_t rfl rfl rfl ?_ | refine L_pick_f rfl rfl rfl ?_
  refine L_assign rfl rfl ?_
  refine RL_then ?_
  refine W_ret' ?_
  refine Ex_done1 rfl rfl ?_
  exact ⟨_, rfl, by rw [decide_eq_false h1]; rfl, rfl⟩
structure Plt where
 r : Nat
 s : Nat
 p : Nat
 b : Nat
 t : Nat
def plt0 : Plt := ⟨0, 0, 0, 0, 0⟩
def Plt.cells (l : Plt) : List Value := [.float .f64 l.r, .float .f64 l.s, .float .f64 l.p, .float .f64 l.b, .float .f64 l.t]
def ptX (l : Plt) : Nat := fop .mul l.r (turnF l.b).2
def ptY (l : Plt) : Nat := fop .mul l.r (turnF l.b).1
theorem point_ok (l : Plt) (hb : l.b < 18446744073709551616) (w0 : World) : Ret Try.prog 40 [.agg l.cells.toArray] w0 fun v w' => (∃ x y, v = .agg #[.float .f64 x, .float .f64 y] ∧ cn x = ptX l ∧ cn y = ptY l) ∧ HS w0 w' [] := by
 refine Ret.start fun w hs => ?_
 refine calls_of_W Try.func40 rfl rfl rfl ?_
 refine W_seq ?_
 refine W_region ?_
 refine L_box rfl hs rfl ?_
 intro b1 w hb1 hnb1 hs
 try dsimp only [List.set_cons_succ, List.set_cons_zero, List.cons_append, List.nil_append] at hs
 refine L_alloc rfl hs Try.ti97 ?_
 intro b2 w hb2 hnb2 hs
 try dsimp only [List.set_cons_succ, List.set_cons_zero, List.cons_append, List.nil_append] at hs
 refine RL_then ?_
 refine W_seq ?_
 refine W_region ?_
 replace hs : HS w0 w [(b1, Row 35 l.cells), (b2, Row 97 [.float .f64 0, .float .f64 0])] := hs
 refine L_fieldAddr rfl (off := 3) Try.underlying35 rfl rfl Try.ti23 rfl ?_
 refine L_load rfl Try.one23 rfl (by exact hs.cell (i := 0) rfl rfl) ?_
 refine L_call rfl Try.fun24 rfl (turn_ok l.b hb w) ?_
 rintro _ w ⟨re, im, rfl, hs', hre, him⟩
 have h1 := hs.nil hs'
 clear hs hs'
 have hs := h1
 clear h1
 refine L_assign rfl rfl ?_
 refine RL_then ?_
 refine W_seq ?_
 refine W_region ?_
 refine L_fieldAddr rfl (off := 0) Try.underlying35 rfl rfl Try.ti23 rfl ?_
 refine L_load rfl Try.one23 rfl (by exact hs.cell (i := 0) rfl rfl) ?_
 refine L_move rfl rfl ?_
 refine L_imag rfl rfl ?_
 refine L_farith rfl (op := .mul) rfl rfl rfl ?_
 intro r11 k11 hr11
 try replace hs := hs.drewN k11
 refine L_fieldAddr rfl (off := 0) Try.underlying35 rfl rfl Try.ti23 rfl ?_
 refine L_load rfl Try.one23 rfl (by exact hs.cell (i := 0) rfl rfl) ?_
 refine L_move rfl rfl ?_
 refine L_real rfl rfl ?_
 refine L_farith rfl (op := .mul) rfl rfl rfl ?_
 intro r16 k16 hr16
 try replace hs := hs.drewN k16
 refine L_build rfl rfl (Pl.built Try.pl97 rfl) ?_
 refine L_storeA hs (i := 1) rfl Try.ti97 rfl rfl (by first | rfl | exact add_lit0 _ _ | exact Addr.add_lit .. | (rw [add_add]; exact add_lit0 _ _)) (by simp) (by simp [Value.oneCell']) ?_
 intro w hs
 try dsimp only [List.set_cons_succ, List.set_cons_zero, List.cons_append, List.nil_append] at hs
 refine RL_then ?_
 refine W_ret' ?_
 refine Ex_doneC rfl rfl Try.agg97 Try.ti97 (by exact cellsAt_whole (hs.get (i := 1) rfl)) ?_
 refine ⟨_, rfl, ⟨_, _, rfl, ?_, ?_⟩, hs.forget (Own.cons hb1 (Own.cons hb2 Own.nil))⟩
 ·
  exact (Fs.cn hr11).trans (fop_congr rfl him)
 ·
  exact (Fs.cn hr16).trans (fop_congr rfl hre)
theorem floor_ok (x r : Nat) (hx : isnan x = false) (hr : FloatKind.f64.encode ((FloatKind.f64.decode x).integral .down) = r) (w : World) : Ret Try.prog 26 [.float .f64 x] w fun v w' => v = .float .f64 r ∧ w' = w := by
 refine calls_of_W Try.func26 rfl rfl rfl ?_
 refine W_seq ?_
 refine W_region ?_
 refine L_assign rfl rfl ?_
 refine RL_then ?_
 refine W_seq ?_
 refine W_if_true rfl ?_
 refine W_seq ?_
 refine W_region ?_
 refine L_move rfl rfl ?_
 refine RL_val rfl (R_extern Try.ext54 rfl (fun w => run_trunc hx w)) ?_
 refine L_assign rfl rfl ?_
 refine RL_then ?_
 refine W_ret' ?_
 refine Ex_then_ret ?_
 refine Ex_done1 rfl rfl ?_
 exact ⟨_, rfl, by rw [hr], rfl⟩
def leB (x y : Nat) : Bool := FloatKind.f64.format.order x y == some .lt || FloatKind.f64.format.order x y == some .eq
theorem gtZ_pos {x : Nat} (hx : x < 18446744073709551616) (h : gtZ x = true) : x ≤ 9218868437227405312 := by
 unfold gtZ at h
 rcases classify hx with ⟨v, hv⟩ | ⟨s, hs⟩ | hn
 ·
  rw [hv.order (by have := fv_zero false; rwa [word_false] at this)] at h
  obtain ⟨s, r, h1, h2, h3⟩ := hv
  cases s
  ·
   rw [h1, word_false]; omega
  ·
   exfalso
   simp at h3
   have : compare v 0 ≠ .gt := by
    intro hc
    have := Int.compare_eq_gt.1 hc
    omega
   exact this (by simpa using h)
 ·
  rcases inf_of_read hx hs with rfl | rfl
  ·
   exact Nat.le_refl _
  ·
   exact absurd h (by decide +kernel)
 ·
  rw [order_nanL hn] at h; exact absurd h (by decide)
theorem farF_pos (s : Stt) (x n : Nat) : isnan (farF s x n) = true ∨ farF s x n ≤ 9218868437227405312 := by
 unfold farF
 cases hb : gtZ (farW s n)
 ·
  exact .inr (Nat.le_refl _)
 ·
  have hw := gtZ_pos (fop_lt ..) hb
  rcases mul_self (fop .sub x s.x) with h | h
  ·
   left
   rw [if_pos rfl, fop, floatBits_nanL h]; exact isnan_qnan
  ·
   exact quo_pos h hw
def dstF (n : Nat) (x y : Stt) (px py : Nat) : Nat := fop .add (farF x px n) (farF y py n)
theorem dstF_pos {n : Nat} {x y : Stt} {px py : Nat} (h : isnan (dstF n x y px py) = false) : dstF n x y px py ≤ 9218868437227405312 := by
 unfold dstF at h ⊢
 rcases farF_pos x px n with hx | hx
 ·
  rw [fop, floatBits_nanL hx] at h; exact absurd h (by decide)
 ·
  rcases farF_pos y py n with hy | hy
  ·
   rw [fop, floatBits_nanR hy] at h; exact absurd h (by decide)
  ·
   exact add_pos hx hy
def cV (Q : Nat) : Option Int := floatToIntVal .f64 (FloatKind.f64.encode ((FloatKind.f64.decode Q).integral .down)) .i64
def costD (g d : Nat) : Int := if leB d g then (cV (fop .mul d 4697254411347427328)).getD 0 else -1
def costT (n g : Nat) (x y : Stt) (px py : Nat) : Int := costD g (dstF n x y px py)
structure GateOk (g : Nat) : Prop where
 lt : g < 18446744073709551616
 fin : finB g = true
 le : (FloatKind.f64.format.order g 4697254411347427328 == some .gt) = false
theorem GateOk.fv {g : Nat} (h : GateOk g) : ∃ v, FV g v ∧ v ≤ (rv 4697254411347427328 : Int) := by
 rcases classify h.lt with ⟨v, hv⟩ | ⟨s, hs⟩ | hn
 ·
  refine ⟨v, hv, ?_⟩
  have h1 := h.le
  rw [hv.order (FV.nat (by decide))] at h1
  exact Int.not_lt.1 fun hh => by rw [Int.compare_eq_gt.2 hh] at h1; exact absurd h1 (by decide)
 ·
  have := h.fin
  rcases inf_of_read h.lt hs with e | e <;> rw [e] at this <;> exact absurd this (by decide +kernel)
 ·
  have h1 := h.fin
  unfold finB nanB at h1
  rw [order_nanL hn] at h1
  exact absurd h1 (by simp)
theorem cost_some {g d : Nat} (hg : GateOk g) (hd : isnan d = false → d ≤ 9218868437227405312) (hle : leB d g = true) : isnan d = false ∧ isnan (fop .mul d 4697254411347427328) = false ∧ ∃ m : Nat, m ≤ 1099511627776 ∧ cV (fop .mul d 4697254411347427328) = some (m : Int) := by
 obtain ⟨c, hc⟩ : ∃ c, c = 1074 := ⟨_, rfl⟩
 obtain ⟨u, hu, hu2⟩ := hg.fv
 have hn : isnan d = false := by
  unfold leB at hle
  cases ho : FloatKind.f64.format.order d g with
  | none => rw [ho] at hle; exact absurd hle (by decide)
  | some o => exact order_num ho
 obtain ⟨hv, hle2⟩ := fin_of_le (hd hn) hu hle
 rw [rv_fine c hc] at hu2
 obtain ⟨q, y, k1, k2, k3, k4⟩ := mul_fine40 c hc hv (Int.natCast_nonneg _) (Int.le_trans hle2 hu2)
 have hq : fop .mul d 4697254411347427328 = q := fop_some k1
 rw [hq]
 exact ⟨hn, k2.num, floor_small40 c hc k2 k3 k4⟩
theorem costT_rng {n g : Nat} {x y : Stt} {px py : Nat} (hg : GateOk g) : costT n g x y px py = -1 ∨ (0 ≤ costT n g x y px py ∧ costT n g x y px py ≤ 1099511627776) := by
 unfold costT costD
 split
 ·
  next h =>
  obtain ⟨_, _, m, h1, h2⟩ := cost_some hg dstF_pos h
  rw [h2]
  right
  show 0 ≤ (m : Int) ∧ (m : Int) ≤ 1099511627776
  omega
 ·
  exact .inl rfl
end Go.Proofs.Ytdllakfojligjaa
