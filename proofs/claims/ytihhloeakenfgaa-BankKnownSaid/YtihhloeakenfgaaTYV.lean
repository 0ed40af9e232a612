/-
  A part of the proof: what functions that the statement reaches do, or a plain law on what they do. Each theorem holds under its own premises alone.
-/
import Derived.Test.YtihhloeakenfgaaTYT
import Derived.Test.YtihhloeakenfgaaKit
import Derived.Test.YtihhloeakenfgaaTQ4
import Derived.Test.YtihhloeakenfgaaTQ7
namespace Go.Lk
open Go
/-! ### Whole numbers as floats: divided by 1; and what stands behind 'cn' -/
theorem rep_not_nan {x : Nat} {v : Int} (h : Rep x v) : isnan x = false := by
  obtain ⟨c, hc⟩ : ∃ c, c = 1074 := ⟨_, rfl⟩
  obtain ⟨s, m, p, h1, _⟩ := h.read c hc
  show (Ieee.double.read x).isNaN = false
  rw [h1]; rfl
theorem fop_some {op : BinOp} {x y r : Nat} (h : floatBits op .f64 x y = some r) : fop op x y = r := by simp [fop, h]
theorem cn_rep {x r : Nat} {v : Int} (h : cn x = r) (hr : Rep r v) : Rep x v := by
  cases hx : isnan x with
  | true =>
    rw [cn_nan hx] at h
    have := rep_not_nan hr
    rw [← h] at this
    exact absurd this (by rw [isnan_qnan]; simp)
  | false => rw [cn_num hx] at h; rw [h]; exact hr
theorem cn_rep2 {x r : Nat} {v : Int} (h : cn x = cn r) (hr : Rep r v) : Rep x v := cn_rep (h.trans (cn_num (rep_not_nan hr))) hr
theorem fop_rep {op : BinOp} {x y z : Nat} {v : Int} (h : ∃ r, floatBits op .f64 x y = some r ∧ Rep r v) (hz : cn z = fop op x y) : Rep z v := by
  obtain ⟨r, h1, h2⟩ := h
  exact cn_rep (hz.trans (fop_some h1)) h2
theorem fs_rep {op : BinOp} {x y z : Nat} {v : Int} (h : ∃ r, floatBits op .f64 x y = some r ∧ Rep r v) (hz : Fs op x y z) : Rep z v := fop_rep h hz.cn
theorem rep_one : Rep 4607182418800017408 1 := .inr ⟨by decide, by decide, by decide +kernel⟩
theorem rep_nought : Rep 0 0 := .inl ⟨rfl, .inl rfl⟩
set_option maxHeartbeats 1000000 in
theorem rep_div1 {x : Nat} {v : Int} (hx : Rep x v) : ∃ r, floatBits .quo .f64 x 4607182418800017408 = some r ∧ Rep r v := by
  have h1 : Ieee.double.read 4607182418800017408 = .number false 4503599627370496 (-52) := by decide +kernel
  rcases hx with ⟨rfl, h⟩ | ⟨h0, hb, rfl⟩
  · rcases h with rfl | rfl
    · exact ⟨0, by decide +kernel, .inl ⟨rfl, .inl rfl⟩⟩
    · exact ⟨9223372036854775808, by decide +kernel, .inl ⟨rfl, .inr rfl⟩⟩
  · have he : v.natAbs.log2 ≤ 52 := by
      have := (Nat.log2_lt (by omega : v.natAbs ≠ 0) (k := 53)).2 (by simpa using hb)
      omega
    obtain ⟨n, hn⟩ : ∃ n, n = v.natAbs := ⟨_, rfl⟩
    have hn0 : 1 ≤ n := by omega
    rw [← hn] at he hb ⊢
    obtain ⟨s, hs⟩ : ∃ s, s = decide (v < 0) := ⟨_, rfl⟩
    rw [← hs]
    refine ⟨Ieee.double.word s (fRung n), ?_, .inr ⟨h0, by omega, by rw [← hn, ← hs]⟩⟩
    show (Ieee.Datum.quotient _ (Ieee.double.read _) (Ieee.double.read _)).map Ieee.double.write = _
    rw [read_int s n hn0 hb, h1]
    obtain ⟨c, hc⟩ : ∃ c, c = 1074 := ⟨_, rfl⟩
    have hl : (n * 2 ^ (52 - n.log2)).log2 = 52 := by rw [log2_mul_pow (by omega)]; omega
    obtain ⟨M, hM⟩ : ∃ M, M = n * 2 ^ (52 - n.log2) := ⟨_, rfl⟩
    rw [← hM] at hl ⊢
    have e1 : (4503599627370496 : Nat).log2 = 52 := by decide +kernel
    have hd : M <<< 54 = (M * 4) * 4503599627370496 := by
      rw [Nat.shiftLeft_eq, Nat.mul_assoc, show (2 : Nat) ^ 54 = 4 * 4503599627370496 by decide]
    have hq : Ieee.Datum.quotient 54 (.number s M ((n.log2 : Int) - 52)) (.number false 4503599627370496 (-52)) = some (.number s (2 * (M * 4)) ((n.log2 : Int) - 55)) := by
      simp only [Ieee.Datum.quotient, hl, e1]
      rw [show 54 + 52 - 52 = 54 by decide, hd, Nat.mul_div_cancel _ (by decide), Nat.mul_mod_left, if_neg (by decide)]
      refine congrArg some ?_
      rw [Ieee.Datum.number.injEq]
      exact ⟨by cases s <;> rfl, rfl, by omega⟩
    show (Ieee.Datum.quotient 54 _ _).map Ieee.double.write = _
    rw [hq]
    show some (Ieee.double.nearest s _ _) = _
    rw [nearest_int c hc s _ n _ hn0 hb (by omega) ?_]
    obtain ⟨k, hk⟩ : ∃ k, k = n.log2 + 1019 := ⟨_, rfl⟩
    rw [show ((n.log2 : Int) - 55 + 1074).toNat = k by omega, hM, show c = (52 - n.log2) + (3 + k) by omega, Nat.pow_add 2 (52 - n.log2), Nat.pow_add 2 3 k, show (2 : Nat) ^ 3 = 8 by decide]
    generalize 2 ^ (52 - n.log2) = A
    generalize 2 ^ k = B
    rw [show 2 * (n * A * 4) * B = n * A * B * 8 by rw [Nat.mul_comm 2, Nat.mul_assoc, Nat.mul_assoc (n * A), Nat.mul_assoc (n * A), show 4 * (2 * B) = B * 8 by omega]]
    rw [← Nat.mul_assoc, ← Nat.mul_assoc]
    rw [Nat.mul_assoc (n * A) B 8, Nat.mul_assoc (n * A) 8 B, Nat.mul_comm B 8]
theorem cellsAt_row {w : World} {b T j : Nat} {xs : List Value} (cs : List Value) (h : w.heap[b]? = some (Row T xs)) (hx : ∀ q v, cs[q]? = some v → xs[j + q]? = some v) : CellsAt w ((Addr.mk b 0 none).add j) cs := fun q v hv => by
  rw [add_add, add_lit0]
  exact Lk.cell_of_row h (hx q v hv)
theorem R_idxA1 {P : Program} {n : Nat} {e : Env} {w : World} {t : TypeId} {p : String} {af : Array Edge} {d : Nat} {T E : TypeId} {x y : Operand} {ad : Addr} {len j : Nat} {k : IntKind} {i : Int} {z : Value} {b : Nat} (hT : P.underlying T = some (.array len E)) (hi : TI P E z 1 b)
    (hx : evalE e x = some (.pointer (some ad))) (hy : evalE e y = some (.int k i)) (hj : i = (j : Int)) (hb : j < len) :
    ∀ act, Kn n act e → (execOp act.eval (Oper.mk (some d) (.indexAddr T x y) t p af none)).run P w = .ok (.value (.pointer (some (ad.add j)))) w := by
  have := R_idxA (n := n) (w := w) (t := t) (p := p) (af := af) (d := d) hT hi hx hy hj hb
  rw [Nat.mul_one] at this
  exact this
theorem L_idxA1 {P : Program} {n : Nat} {Q : Post} {e : Env} {w : World} {ops : Array Oper} {rest : List Oper} {t : TypeId} {p : String} {af : Array Edge} {d : Nat} (hd : Nat.blt d n = true) {T E : TypeId} {x y : Operand} {ad : Addr} {len j : Nat} {k : IntKind} {i : Int} {z : Value} {b : Nat} (hT : P.underlying T = some (.array len E)) (hi : TI P E z 1 b)
    (hx : evalE e x = some (.pointer (some ad))) (hy : evalE e y = some (.int k i)) (hj : i = (j : Int)) (hb : j < len)
    (h : RL P n ops rest Q ((d, .pointer (some (ad.add j))) :: e) w) : RL P n ops (Oper.mk (some d) (.indexAddr T x y) t p af none :: rest) Q e w :=
  RL_val hd (R_idxA1 hT hi hx hy hj hb) h
theorem cellsAt_whole {w : World} {b T : Nat} {cs : List Value} (h : w.heap[b]? = some (Row T cs)) : CellsAt w ⟨b, 0, none⟩ cs := fun q v hv => by
  rw [add_lit0]
  exact Lk.cell_of_row h hv
theorem Ex_doneC {P : Program} {n : Nat} {e : Env} {w : World} {fn : Func} {R : Ending → World → Prop} {p : Tmp} {ty : TypeId} {ad : Addr} {cs : List Value} {z : Value} {b : Nat} (hr : fn.results = #[.cell p ty]) (hp : look e p = some (.pointer (some ad))) (hT : Agg P ty) (hi : TI P ty z cs.length b) (hc : CellsAt w ad cs) (h : R (.returned (.agg cs.toArray)) w) : Ex n (bodyPost P fn R) .ret e w :=
  fun a ha => ⟨ha.2.1, _, by
    have hl := run_loadCells_list (P := P) w ad cs hc
    have h1 := evalTmps ha hp
    have h2 : a.tmps[p]?.getD undef = .pointer (some ad) := by simpa using h1
    simp [results, hr, h2, asAddr, loadVar, hT.run, hi.sizeOf, hl], h⟩
theorem R_ibits {P : Program} {n : Nat} {e : Env} {w : World} {t : TypeId} {p : String} {af : Array Edge} {d : Nat} {op : BinOp} {T T' : TypeId} {x y : Operand} {k : IntKind} {i j c : Int} (ho : op = .and ∨ op = .or ∨ op = .andNot ∨ op = .xor) (hx : evalE e x = some (.int k i)) (hy : evalE e y = some (.int k j)) (hc : bits op k i j = c) :
    ∀ act, Kn n act e → (execOp act.eval (Oper.mk (some d) (.binOp op T x y T') t p af none)).run P w = .ok (.value (.int k c)) w := by
  subst hc
  rcases ho with rfl | rfl | rfl | rfl
  · exact R_bin hx hy (fun _ _ => rfl) (by rw [binOp_and]; rfl)
  · exact R_bin hx hy (fun _ _ => rfl) (by rw [binOp_or]; rfl)
  · exact R_bin hx hy (fun _ _ => rfl) (by rw [binOp_andNot]; rfl)
  · exact R_bin hx hy (fun _ _ => rfl) (by rw [binOp_xor]; rfl)
theorem R_extern {P : Program} {n : Nat} {e : Env} {w : World} {t : TypeId} {p : String} {af : Array Edge} {d : Nat} {f : FuncId} {E : Array Value → Sem Value} {x : Operand} {vx v : Value} {ats : Array TypeId} (hf : Ext P f E) (hx : evalE e x = some vx) (hr : ∀ w, (E #[vx]).run P w = .ok v w) :
    ∀ act, Kn n act e → (execOp act.eval (Oper.mk (some d) (.call { callee := .value (.func f), args := #[x], argTypes := ats }) t p af none)).run P w = .ok (.value v) w := fun a ha => by
  have he : (execOp a.eval (Oper.mk (some d) (.call { callee := .value (.func f), args := #[x], argTypes := ats }) t p af none)).run P w = ((E #[a.eval x]).run P w).andThen fun v w' => .ok (.value v) w' := by
    simp [execOp, resolve, Act.eval, Deferred.ofValue, invoke, hf.run]
  rw [he, ha.eval hx, hr]
  rfl
theorem fs_val {op : BinOp} {x y r z : Nat} (h : Fs op x y r) (hz : floatBits op .f64 x y = some z) : r = z := by
  rcases h with h | ⟨h, _⟩
  · rw [hz] at h; exact (Option.some.inj h).symm
  · rw [hz] at h; cases h
theorem run_trunc {P : Program} {name : String} {way : Ieee.Toward} {x : Nat} (hx : isnan x = false) (w : World) : (Extern.MathFloor.toIntegral name way #[.float .f64 x]).run P w = .ok (.float .f64 (FloatKind.f64.encode ((FloatKind.f64.decode x).integral way))) w := by
  have h : (FloatKind.f64.decode x).isNaN = false := hx
  change Sem.run P (Extern.MathFloor.toIntegral.match_1 (motive := fun _ => Sem Value) (FloatKind.f64.decode x) _ _) w = _
  cases hd : FloatKind.f64.decode x with
  | nan s t => rw [hd] at h; cases h
  | infinity s => rfl
  | number s m i => rfl
theorem run_sqrt {P : Program} {x r : Nat} (hx : FloatKind.f64.format.sqrt x = some r) (w : World) : (Extern.MathSqrt.sqrt #[.float .f64 x]).run P w = .ok (.float .f64 r) w := by
  change Sem.run P (Extern.MathSqrt.sqrt.match_1 (motive := fun _ => Sem Value) (FloatKind.f64.format.sqrt x) _ _) w = _
  rw [hx]
  rfl
theorem R_cneqF {P : Program} {n : Nat} {e : Env} {w : World} {t : TypeId} {p : String} {af : Array Edge} {d : Nat} {T T' : TypeId} {x y : Operand} {a b c f : Nat} (hx : evalE e x = some (.complex .f64 a b)) (hy : evalE e y = some (.complex .f64 c f)) (h1 : FloatKind.f64.format.order a c = some .eq) (h2 : FloatKind.f64.format.order b f = some .eq) :
    ∀ act, Kn n act e → (execOp act.eval (Oper.mk (some d) (.binOp .neq T x y T') t p af none)).run P w = .ok (.value (.bool false)) w := by
  have := R_cneq (P := P) (n := n) (w := w) (t := t) (p := p) (af := af) (d := d) (T := T) (T' := T') hx hy
  rw [h1, h2] at this
  exact this
theorem frung_lt {n : Nat} (hn : 1 ≤ n) (hn2 : n < 9007199254740992) : fRung n < 9218868437227405312 := by
  have he : n.log2 ≤ 52 := by
    have := (Nat.log2_lt (by omega : n ≠ 0) (k := 53)).2 (by simpa using hn2)
    omega
  obtain ⟨e, hE⟩ : ∃ e, e = n.log2 := ⟨_, rfl⟩
  have hhi : n < 2 ^ (e + 1) := by rw [hE]; exact ((Nat.log2_eq_iff (by omega)).1 rfl).2
  have hkept : n * 2 ^ (52 - e) < 9007199254740992 := by
    have h1 : n * 2 ^ (52 - e) < 2 ^ (e + 1) * 2 ^ (52 - e) := Nat.mul_lt_mul_of_pos_right hhi (Nat.two_pow_pos _)
    rw [← Nat.pow_add, show e + 1 + (52 - e) = 53 by omega] at h1
    simpa using h1
  unfold fRung
  rw [← hE]
  generalize n * 2 ^ (52 - e) = A at hkept
  omega
theorem fv_rung {r : Nat} (h : r < 9218868437227405312) : FV r (rv r : Int) := ⟨false, r, by unfold Ieee.Format.word; simp, h, by simp⟩
theorem rung_ord {r : Nat} (h : r < 9218868437227405312) : FloatKind.f64.format.order r 9218868437227405311 ≠ some .gt := by
  rw [FV.order (fv_rung h) (fv_rung (by decide))]
  intro hc
  have h1 : compare (rv r : Int) (rv 9218868437227405311 : Int) = .gt := Option.some.inj hc
  have h2 := (Int.compare_eq_gt).1 h1
  have h3 := (rv_le (r := r) (s := 9218868437227405311)).2 (by omega)
  omega
theorem rep_rung {x : Nat} {v : Int} (h : Rep x v) : x < 18446744073709551616 ∧ x % 9223372036854775808 < 9218868437227405312 := by
  rcases h with ⟨_, rfl | rfl⟩ | ⟨h0, h1, rfl⟩
  · decide
  · decide
  · have := frung_lt (n := v.natAbs) (by omega) h1
    unfold Ieee.Format.word
    rw [double_sw]
    split <;> omega
theorem perm_by {α : Type} {l m : List α} (h : ∀ c : α → Nat, (l.map c).sum = (m.map c).sum) : l.Perm m := by
  haveI : DecidableEq α := fun a b => Classical.propDecidable (a = b)
  refine List.perm_iff_count.2 fun a => ?_
  have e : ∀ l : List α, l.count a = (l.map fun x => if x = a then 1 else 0).sum := fun l => by
    induction l with
    | nil => rfl
    | cons x l ih => rw [List.count_cons, ih, List.map_cons, List.sum_cons, Nat.add_comm]; simp
  rw [e, e]
  exact h _
theorem R_ceqlT {P : Program} {n : Nat} {e : Env} {w : World} {t : TypeId} {p : String} {af : Array Edge} {d : Nat} {T T' : TypeId} {x y : Operand} {a b c f : Nat} (hx : evalE e x = some (.complex .f64 a b)) (hy : evalE e y = some (.complex .f64 c f)) (h1 : FloatKind.f64.format.order a c = some .eq) (h2 : FloatKind.f64.format.order b f = some .eq) :
    ∀ act, Kn n act e → (execOp act.eval (Oper.mk (some d) (.binOp .eql T x y T') t p af none)).run P w = .ok (.value (.bool true)) w := by
  have := R_ceql (P := P) (n := n) (w := w) (t := t) (p := p) (af := af) (d := d) (T := T) (T' := T') hx hy
  rw [h1, h2] at this
  exact this
theorem R_slice011 {P : Program} {n : Nat} {e : Env} {w : World} {t : TypeId} {p : String} {af : Array Edge} {d : Nat} {T E : TypeId} {x u v : Operand} {a : Option Addr} {len cap h m : Nat} {k' k'' : IntKind} {j q : Int} {z : Value} {sz b : Nat} (hT : P.underlying T = some (.slice E)) (hi : TI P E z sz b) (hx : evalE e x = some (.slice a len cap)) (hu : evalE e u = some (.int k' j)) (hv : evalE e v = some (.int k'' q)) (hh : j = (h : Int)) (hm : q = (m : Int)) (h1 : h ≤ m ∧ m ≤ cap) :
    ∀ act, Kn n act e → (execOp act.eval (Oper.mk (some d) (.slice T x none (some u) (some v)) t p af none)).run P w = .ok (.value (.slice (slA a 0 m sz) h m)) w := fun ac ha => by
  subst hh hm
  have := run_slice P w hT hi a len cap none (some (.int k' (h : Int))) (some (.int k'' (m : Int))) 0 h m (.inr ⟨k'', rfl⟩) (.inr ⟨k', rfl⟩) (.inl ⟨rfl, rfl⟩) (by omega) h1.1 h1.2
  simp [execOp, ha.eval hx, ha.eval hu, ha.eval hv, this]
end Go.Lk
