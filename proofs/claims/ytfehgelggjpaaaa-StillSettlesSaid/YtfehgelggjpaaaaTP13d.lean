/-
  Proved: StillSettles, a map that is fed settles, for every share and every row of floats. Conditions: none beyond the given statement's own.
-/
import Derived.HandedShaped
import Derived.Test.YtfehgelggjpaaaaTP13a
import Derived.Test.YtfehgelggjpaaaaTS7
namespace Go.Proofs.Ytfehgelggjpaaaa
open Go.ChangeShapes Go.WideShapes Go.ChangeAt Go.RowKit Go.Lk
set_option maxRecDepth 100000 in
theorem stillSettles_lifted (os : Os) (started : os.Started) (H : Type) (enc : TypeId × Value → H) :
    ReturnsInHanded {} Try.checked os 7 .any (Rows.stillSettlesSpec.pre6 enc Try.prog Try.f7 Rows.stillSettlesRow.domain false) (Rows.stillSettlesSpec.post enc Try.prog Try.f7 false true false false) := by
  refine returnsInHanded_of_change_shaped (C := Try.checked) Try.own started (by kernel_rfl) Try.func7
    (ChangeSpec.witness6 (enc := enc) (C := Try.checked) false ⟨#[], #[.float .f64 0, .slice none 0 0], []⟩ 8 (by kernel_rfl) (by kernel_rfl) (by kernel_rfl) (by kernel_rfl)) ?_
  intro W base args ds gs before hval0 hW hcnd hwt0 _ _
  have hval : ∀ (j : Nat) t v, Try.f7.params[j]? = some t → args[j]? = some v → Value.okWide Try.prog W .any base t v := hval0
  have hwt : (DataW.weightsEach Try.prog (Try.f7.params.toList ++ []) (ds ++ gs)).all (· ≤ reachBytes) = true := hwt0
  have hW' := hW
  obtain ⟨p, q, hA0, hV, rfl, hfz, hnd⟩ := hW
  have hA : DataW.TrodAll enc Try.prog W 0 (fun _ => true) true Try.f7.params.toList args.toList ds p := hA0
  rw [Try.params7] at hA hval hwt
  obtain ⟨v0, v1, d0, d1, p0, p1, rfl, rfl, rfl, h0, h1⟩ := trodAll_two hA
  obtain ⟨rfl, rfl⟩ := trodVars_none hV
  obtain ⟨s, rfl, rfl, rfl, ws⟩ := open_float Try.underlying35 (hval 0 35 v0 rfl rfl) h0
  have hlt : Light Try.prog 39 d1 := fun n hn => by
    have := List.all_eq_true.1 hwt n (by simp [DataW.weightsEach, DataW.weights, hn])
    exact of_decide_eq_true this
  obtain ⟨fuel, h1'⟩ := h1
  obtain ⟨a, c, xs, hcs, hc, hk, hx, hwf⟩ := open_floats Try.underlying39 Try.underlying35 (by kernel_rfl) h1' hlt
  obtain rfl : v1 = .slice a xs.length c := slice_cells (Lk.okWide_slice Try.underlying39 (hval 1 39 v1 rfl rfl)) hcs
  have h64 : ∀ b, (Lit.float .f64 b).wf = true → b < 18446744073709551616 := fun b hb => of_decide_eq_true hb
  have hb8 : xs.length * 8 ≤ 140737488351232 := hk
  refine law_calls Try.laidOut (by kernel_rfl) rfl rfl Try.underlying4 hW' rfl ?_
  cases hsh : shOk s with
  | false => exact settles_bad s a c xs W hsh
  | true => exact settles_ok s a c xs W hx hsh (h64 _ ws) (fun x hm => h64 _ (hwf x hm)) hc (by omega)
theorem stillSettles_holds : Rows.StillSettlesSaid :=
  OpenClaim.holds_of_wide 7 Try.f7 rfl rfl rfl rfl rfl rfl rfl ⟨rfl, rfl, rfl, rfl, rfl⟩ rfl rfl rfl rfl rfl (by kernel_rfl) Try.func7 (by kernel_rfl)
    (of_decide_eq_true (by kernel_rfl)) (by unfold Func.isWrapper; first | (rw [if_pos (by decide +kernel)]; kernel_rfl) | (rw [if_neg (by decide +kernel)]; exact ⟨rfl, rfl⟩))
    (fun os started H enc _ => stillSettles_lifted os started H enc)
end Go.Proofs.Ytfehgelggjpaaaa
