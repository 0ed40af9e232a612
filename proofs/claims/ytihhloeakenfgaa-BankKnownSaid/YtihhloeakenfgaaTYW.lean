/-
  A part of the proof: what functions that the statement reaches do, or a plain law on what they do. Each theorem holds under its own premises alone.
-/
import Derived.Test.YtihhloeakenfgaaTYV
namespace Go.Lk
open Go
/-! ### Function values -/
theorem R_makeFunc {P : Program} {n : Nat} {e : Env} {w : World} {t : TypeId} {p : String} {af : Array Edge} {d : Nat} {fn : Fn} {xs ys : List Operand} {l l' : List Value} (hx : evalEs e xs = some l) (hy : evalEs e ys = some l') :
    ∀ act, Kn n act e → (execOp act.eval (Oper.mk (some d) (.makeFunc fn xs.toArray ys.toArray) t p af none)).run P w = .ok (.value (.func fn l.toArray l'.toArray)) w := fun a ha => by
  have e1 := evalEs_spec ha hx
  have e2 := evalEs_spec ha hy
  simp only [execOp, List.map_toArray]
  rw [e1, e2]
  rfl
theorem L_callV {P : Program} {n : Nat} {Q : Post} {e : Env} {w : World} {ops : Array Oper} {rest : List Oper} {t : TypeId} {p : String} {af : Array Edge} {d : Nat} (hd : Nat.blt d n = true) {f : FuncId} {x : Operand} {first cap : List Value} {xs : List Operand} {l : List Value} {ats : Array TypeId} {R : Value → World → Prop} (hf : Fun P f) (hv : evalE e x = some (.func (.func f) first.toArray cap.toArray)) (hx : evalEs e xs = some l) (hc : Ret P f (first ++ l ++ cap) w R)
    (h : ∀ v w', R v w' → RL P n ops rest Q ((d, v) :: e) w') :
    RL P n ops (Oper.mk (some d) (.call { callee := .value x, args := xs.toArray, argTypes := ats }) t p af none :: rest) Q e w := by
  intro a ha
  refine wpList_plain rfl fun K hK => ?_
  have he : (execOp a.eval (Oper.mk (some d) (.call { callee := .value x, args := xs.toArray, argTypes := ats }) t p af none)).run P w = .ok (.enter f (first ++ l ++ cap).toArray) w := by
    have e1 := evalEs_spec ha hx
    simp [execOp, resolve, Deferred.ofValue, invoke, ha.eval hv, hf.run]
    rw [← e1]
  simp only [Oper.wp, he, Oper.upon]
  refine Calls.mono hc fun ex w' hR => ?_
  obtain ⟨v, rfl, hv⟩ := hR
  exact hK _ _ (h v w' hv _ (ha.put hd v))
end Go.Lk
