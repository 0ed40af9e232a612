/-
  Proved: FilterRound: a ring without what comes back is a line, where all is whole. Its conditions: none beyond the statement's.
-/
import Derived.Test.YtihhloeakenfgaaKit
import Derived.Test.YtihhloeakenfgaaTB16
import Derived.HandedShaped
namespace Go.Proofs.Ytihhloeakenfgaa
open Go.ChangeShapes Go.WideShapes Go.ChangeAt Go.RowKit Go.Lk
section
variable {H : Type} {P : Program} {w : World} {base : Nat} {spare : Nat → Bool} {held : Bool} {enc : TypeId × Value → H}
theorem open_triple {t e : TypeId} {fuel : Nat} {cs : List Value} {x : DataW H × List MemPlace} (ht : P.underlying t = some (.array 3 e)) (he : P.underlying e = some (.int .i64)) (hc : P.cellsOf e = 1) (ht2 : P.cellsOf t = 3) (h : DataW.trod enc P w base spare held fuel t cs = some x) :
    ∃ u v y, cs = [.int .i64 u, .int .i64 v, .int .i64 y] := by
  obtain ⟨xs, m, _, _, hl, hx, hi⟩ := DataW.trod_array ht h
  rw [ht2] at hl
  match cs, hl with
  | [c0, c1, c2], _ =>
    match xs, hx with
    | [x0, x1, x2], _ =>
      have h0 := hi 0 (by omega)
      have h1 := hi 1 (by omega)
      have h2 := hi 2 (by omega)
      rw [hc] at h0 h1 h2
      obtain ⟨u, rfl, hu⟩ := trod_int he (show DataW.trod enc P w base spare held m e [c0] = some x0 from h0)
      obtain ⟨v, rfl, hv⟩ := trod_int he (show DataW.trod enc P w base spare held m e [c1] = some x1 from h1)
      obtain ⟨y, rfl, hy⟩ := trod_int he (show DataW.trod enc P w base spare held m e [c2] = some x2 from h2)
      exact ⟨u, v, y, rfl⟩
theorem okWide_array {r : Reach} {b0 n : Nat} {t e : TypeId} {v : Value} (ht : P.underlying t = some (.array n e)) (h : Value.okWide P w r b0 t v) : ∃ cs, v = .agg cs := by
  simp only [Value.okWide, ht] at h
  cases v <;> simp_all
theorem array_cells {v : Value} {l : List Value} (h : ∃ cs, v = .agg cs) (hc : v.cells.toList = l) : v = .agg l.toArray := by
  obtain ⟨cs, rfl⟩ := h
  have : cs.toList = l := hc
  rw [← this]
end
theorem Try.ownB : ownKnob Try.prog.godebug = none := by kernel_rfl
theorem Try.laidB : laidOutB Try.prog = true := by kernel_rfl
set_option maxRecDepth 100000 in
theorem filterRound_lifted (os : Os) (started : os.Started) (H : Type) (enc : TypeId × Value → H) :
    ReturnsInHanded {} Try.checked os 3 .any (Rows.filterRoundSpec.pre6 enc Try.prog Try.f3 Rows.filterRoundRow.domain false) (Rows.filterRoundSpec.post enc Try.prog Try.f3 false true false false) := by
  refine returnsInHanded_of_change_shaped (C := Try.checked) Try.ownB started (by kernel_rfl) Try.func3
    (ChangeSpec.witness6 (enc := enc) (C := Try.checked) false ⟨#[], #[.agg #[.int .i64 0, .int .i64 0, .int .i64 0], .slice none 0 0], []⟩ 8 (by kernel_rfl) (by kernel_rfl) (by kernel_rfl) (by kernel_rfl)) ?_
  intro W base args ds gs before hval0 hW hcnd hwt0 _ _
  have hval : ∀ (j : Nat) t v, Try.f3.params[j]? = some t → args[j]? = some v → Value.okWide Try.prog W .any base t v := hval0
  have hwt : (DataW.weightsEach Try.prog (Try.f3.params.toList ++ []) (ds ++ gs)).all (· ≤ reachBytes) = true := hwt0
  have hW' := hW
  obtain ⟨p, q, hA0, hV, rfl, hfz, hnd⟩ := hW
  have hA : DataW.TrodAll enc Try.prog W 0 (fun _ => true) true Try.f3.params.toList args.toList ds p := hA0
  rw [Try.params3] at hA hval hwt
  obtain ⟨v0, vs0, d0, ds0, p0, q0, hargs, rfl, rfl, h0, r0⟩ := trodAll_cons hA
  obtain ⟨v1, vs1, d1, ds1, p1, q1, rfl, rfl, rfl, h1, r1⟩ := trodAll_cons r0
  obtain ⟨rfl, rfl, rfl⟩ := trodAll_nil r1
  obtain rfl : args = #[v0, v1] := by cases args; simp_all
  obtain ⟨rfl, rfl⟩ := trodVars_none hV
  have hlt1 : Light Try.prog 23 d1 := fun n hn => by
    have := List.all_eq_true.1 hwt n (by simp [DataW.weightsEach, DataW.weights, hn])
    exact of_decide_eq_true this
  obtain ⟨fuel, h0'⟩ := h0
  obtain ⟨fuel1, h1'⟩ := h1
  obtain ⟨x0, x1, x2, hcs⟩ := open_triple Try.underlying22 Try.underlying3 (by kernel_rfl) (by kernel_rfl) h0'
  obtain rfl : v0 = .agg #[.int .i64 x0, .int .i64 x1, .int .i64 x2] := array_cells (okWide_array Try.underlying22 (hval 0 22 v0 rfl rfl)) hcs
  obtain ⟨a, c, ps, hcs1, _, hp⟩ := open_pairs Try.underlying23 Try.underlying29 Try.underlying3 (by kernel_rfl) (by kernel_rfl) h1' hlt1
  obtain rfl : v1 = .slice a ps.length c := slice_cells (Lk.okWide_slice Try.underlying23 (hval 1 23 v1 rfl rfl)) hcs1
  exact law_calls Try.laidB (by kernel_rfl) rfl rfl Try.underlying4 hW' rfl (round_law x0 x1 x2 a ps.length c ps W hp rfl)
theorem filterRound_holds : Rows.FilterRoundSaid :=
  OpenClaim.holds_of_wide 3 Try.f3 rfl rfl rfl rfl rfl rfl rfl ⟨rfl, rfl, rfl, rfl, rfl⟩ rfl rfl rfl rfl rfl (by kernel_rfl) Try.func3 (by kernel_rfl)
    (of_decide_eq_true (by kernel_rfl)) (by unfold Func.isWrapper; first | (rw [if_pos (by decide +kernel)]; kernel_rfl) | (rw [if_neg (by decide +kernel)]; exact ⟨rfl, rfl⟩))
    (fun os started H enc _ => filterRound_lifted os started H enc)
end Go.Proofs.Ytihhloeakenfgaa
