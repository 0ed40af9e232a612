/-
  A part of the proof: what functions that the statement reaches do, or a plain law on what they do. Each theorem holds under its own premises alone.
-/
import Derived.Test.YtihhloeakenfgaaTD11
namespace Go.Proofs.Ytihhloeakenfgaa
open Go Go.Lk
theorem chkF_rep {k n : Nat} {z : Nat × Nat} {e : Int} (hk : 0 < k) : chkF (List.replicate k (List.replicate n z)) e = if 256 < k ∨ 16384 < n ∨ 262144 < (k : Int) * (n : Int) ∨ (0 < e ∧ Int.tdiv 16777216 e < (k : Int) * (n : Int)) then 3 else 0 := by
  have hw : widC (List.replicate k (List.replicate n z)) = n := by
    unfold widC
    rw [List.getD_eq_getElem?_getD, List.getElem?_replicate_of_lt hk]; simp
  unfold chkF
  rw [if_neg, hw, List.length_replicate]
  rintro ⟨i, hi, hne⟩
  rw [hw] at hne
  rw [List.length_replicate] at hi
  apply hne
  rw [List.getD_eq_getElem?_getD, List.getElem?_replicate_of_lt hi]; simp
theorem rep_len {k n : Nat} {z : Nat × Nat} {i : Nat} (hi : i < k) : ((List.replicate k (List.replicate n z)).getD i []).length = n := by
  rw [List.getD_eq_getElem?_getD, List.getElem?_replicate_of_lt hi]; simp
theorem cl_rep (n : Nat) : cl (List.replicate n (0, 0)) = List.replicate n (.complex .f64 0 0) := by simp [cl]
theorem RowsC.rep {w : World} {a : Option Addr} {vs : List Value} {k n : Nat} (hs : SlC w a vs) (hl : vs.length = k) (h : ∀ q, q < k → ∃ g, vs[q]? = some (.slice (some ⟨g, 0, none⟩) n n) ∧ w.heap[g]? = some (Row 28 (List.replicate n (.complex .f64 0 0)))) :
    RowsC w a (List.replicate k (List.replicate n (0, 0))) vs := by
  refine ⟨hs, by rw [hl, List.length_replicate], fun i hi => ?_⟩
  rw [List.length_replicate] at hi
  obtain ⟨g, e1, e2⟩ := h i hi
  refine ⟨some ⟨g, 0, none⟩, n, by rw [rep_len hi]; exact e1, by rw [rep_len hi]; exact Nat.le_refl _, ?_⟩
  rw [List.getD_eq_getElem?_getD, List.getElem?_replicate_of_lt hi]
  exact SlC.of_row (sp := []) (by rw [List.append_nil]; show w.heap[g]? = some (Row 28 (cl (List.replicate n (0, 0)))); rw [cl_rep]; exact e2)
theorem RowsC.take {w : World} {a : Option Addr} {vs : List Value} {rows : List CL} {m : Nat} (h : RowsC w a rows vs) : RowsC w a (rows.take m) (vs.take m) := by
  refine ⟨⟨fun hp => h.sl.1 ?_, fun j v hv => h.sl.2 j v ?_⟩, by simp [h.len], fun i hi => ?_⟩
  · rw [List.length_take] at hp; omega
  · rw [List.getElem?_take] at hv; split at hv
    · exact hv
    · cases hv
  · rw [List.length_take] at hi
    obtain ⟨ai, ci, e1, e2, e3⟩ := h.row i (by omega)
    have hg : (rows.take m).getD i [] = rows.getD i [] := by
      rw [List.getD_eq_getElem?_getD, List.getD_eq_getElem?_getD, List.getElem?_take_of_lt (by omega)]
    rw [hg]
    exact ⟨ai, ci, by rw [List.getElem?_take_of_lt (by omega)]; exact e1, e2, e3⟩
theorem RowsC.none (w : World) : RowsC w none [] [] := ⟨⟨fun h => absurd h (Nat.lt_irrefl _), fun j v hv => by simp at hv⟩, rfl, fun i hi => absurd hi (Nat.not_lt_zero _)⟩
end Go.Proofs.Ytihhloeakenfgaa
