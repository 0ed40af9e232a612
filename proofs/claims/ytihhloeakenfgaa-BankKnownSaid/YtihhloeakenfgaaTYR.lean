/-
  A part of the proof: what functions that the statement reaches do, or a plain law on what they do. Each theorem holds under its own premises alone.
-/
import Derived.Test.YtihhloeakenfgaaTYQ
namespace Go.Lk
open Go
theorem results_tmp4 {fn : Func} {t u v q : Tmp} (h : fn.results = #[.tmp t, .tmp u, .tmp v, .tmp q]) (tmps : Array Value) (P : Program) (w : World) :
    (results fn tmps).run P w = .ok (.tuple #[tmps.getD t undef, tmps.getD u undef, tmps.getD v undef, tmps.getD q undef]) w := by
  simp [results, h]
section
variable {P : Program} {n : Nat} {e : Env} {w : World}
theorem Ex_done4 {fn : Func} {R : Ending → World → Prop} {t u s q : Tmp} {v v' v'' v''' : Value} (hr : fn.results = #[.tmp t, .tmp u, .tmp s, .tmp q]) (ht : look e t = some v) (hu : look e u = some v') (hs : look e s = some v'') (hq : look e q = some v''')
    (h : R (.returned (.tuple #[v, v', v'', v'''])) w) : Ex n (bodyPost P fn R) .ret e w :=
  fun a ha => ⟨ha.2.1, _, by rw [results_tmp4 hr, evalTmps ha ht, evalTmps ha hu, evalTmps ha hs, evalTmps ha hq], h⟩
end
end Go.Lk
