/-
 A part of the proof: what functions that the statement reaches do, or a plain law on what they do. Each theorem holds under its own premises alone.
-/
import Derived.Test.YtffobakdngbadaaTKW
namespace Go.Proofs.Ytffobakdngbadaa
open Go Go.Lk Go.Pr
/-! ### What is told, in plain words -/
theorem MostAns.inj {rows : List (List Int)} {ms : List Int} {c t e : Int} (h : MostAns rows ms c t e) {i j : Nat} (hi : i < ms.length) (hj : j < ms.length) (h0 : 0 ≤ ms.getD i 0) (he : ms.getD i 0 = ms.getD j 0) : i = j := by
 rcases h with ⟨_, rfl, _⟩ | ⟨_, _, f, hf, rfl, _⟩
 ·
  simp at hi
 ·
  rw [List.length_map, List.length_range] at hi hj
  have e1 : ∀ q, q < rows.length → ((List.range rows.length).map (fun i => if f i < wid rows 0 then (f i : Int) else -1)).getD q 0 = if f q < wid rows 0 then (f q : Int) else -1 := fun q hq => by
   rw [List.getD_eq_getElem?_getD, List.getElem?_map, List.getElem?_range hq]; rfl
  rw [e1 i hi, e1 j hj] at he
  rw [e1 i hi] at h0
  have hfi : f i = f j := by
   split at he
   ·
    split at he
    ·
     omega
    ·
     omega
   ·
    next hh => rw [if_neg hh] at h0; omega
  exact hf.bij.inj _ _ (by omega) (by omega) hfi
structure Least (k : Bok) (told : List Int) (os2 : List On) (ms : List Int) : Prop where
 mate : ∀ i, i < os2.length → 0 ≤ ms.getD i 0 → told.getD (ms.getD i 0).toNat 0 = (os2.getD i on0).t.id
 told : ∀ i q, i < os2.length → q < told.length → told.getD q 0 = (os2.getD i on0).t.id → ms.getD i 0 = q
end Go.Proofs.Ytffobakdngbadaa
