/-
  A part of the proof: what functions that the statement reaches do, or a plain law on what they do. Each theorem holds under its own premises alone.
-/
import Derived.Test.YtfehgelggjpaaaaTX1
namespace Go.Proofs.Ytfehgelggjpaaaa
open Go Go.Lk
inductive BlL (w0 : World) (n : Nat) : List Value → List (List (Nat × Nat)) → List (Nat × Obj) → Prop
  | nil : BlL w0 n [] [] []
  | cons {v : Value} {r : List (Nat × Nat)} {M : List (Nat × Obj)} {vs : List Value} {rs : List (List (Nat × Nat))} {Ms : List (Nat × Obj)} (h : Bl w0 34 1 v n (cl r) M) (t : BlL w0 n vs rs Ms) : BlL w0 n (v :: vs) (r :: rs) (M ++ Ms)
section
variable {w0 : World} {n : Nat} {vs : List Value} {rs : List (List (Nat × Nat))} {Ms : List (Nat × Obj)}
theorem BlL.snoc (h : BlL w0 n vs rs Ms) {v : Value} {r : List (Nat × Nat)} {M : List (Nat × Obj)} (hv : Bl w0 34 1 v n (cl r) M) : BlL w0 n (vs ++ [v]) (rs ++ [r]) (Ms ++ M) := by
  induction h with
  | nil => simpa using BlL.cons hv .nil
  | cons h1 _ ih => simpa [List.append_assoc] using BlL.cons h1 ih
theorem BlL.len (h : BlL w0 n vs rs Ms) : vs.length = rs.length := by induction h <;> simp [*]
theorem BlL.own (h : BlL w0 n vs rs Ms) : Own w0 Ms := by
  induction h with
  | nil => exact Own.nil
  | cons h1 _ ih => exact h1.own.app ih
theorem BlL.rowlen (h : BlL w0 n vs rs Ms) : ∀ i, i < rs.length → (rs.getD i []).length = n := by
  induction h with
  | nil => intro i hi; simp at hi
  | cons h1 _ ih =>
    intro i hi
    cases i with
    | zero => simpa using h1.len
    | succ i => simpa using ih i (by simpa using hi)
theorem BlL.val (h : BlL w0 n vs rs Ms) : ∀ i, i < rs.length → ∃ ao c, vs[i]? = some (.slice ao n c) := by
  induction h with
  | nil => intro i hi; simp at hi
  | cons h1 _ ih =>
    intro i hi
    cases i with
    | zero => obtain ⟨ao, c, rfl, _⟩ := h1.slice; exact ⟨ao, c, rfl⟩
    | succ i => simpa using ih i (by simpa using hi)
theorem BlL.at (h : BlL w0 n vs rs Ms) (hn : 0 < n) : ∀ i, i < rs.length → ∃ j g cap sp, Ms[j]? = some (g, Row 34 (cl (rs.getD i []) ++ sp)) ∧ vs[i]? = some (.slice (some ⟨g, 0, none⟩) n cap) ∧
    ∀ r', r'.length = n → BlL w0 n vs (rs.set i r') (Ms.set j (g, Row 34 (cl r' ++ sp))) := by
  induction h with
  | nil => intro i hi; simp at hi
  | @cons v r M vs rs Ms h1 t ih =>
    intro i hi
    cases i with
    | zero =>
      obtain ⟨g, cap, sp, rfl, rfl, hg, hc, hcap⟩ := h1.own_row hn
      refine ⟨0, g, cap, sp, by simp, by simp, fun r' hr' => ?_⟩
      have hl := h1.len
      have : Bl w0 34 1 (.slice (some ⟨g, 0, none⟩) n cap) n (cl r') [(g, Row 34 (cl r' ++ sp))] := .row hg (by simp [hr']) (by simp at hc hl ⊢; omega) hcap
      simpa using BlL.cons this t
    | succ i =>
      obtain ⟨j, g, cap, sp, h2, h3, h4⟩ := ih i (by simpa using hi)
      refine ⟨M.length + j, g, cap, sp, by rw [List.getElem?_append_right (by omega), Nat.add_sub_cancel_left]; simpa using h2, by simpa using h3, fun r' hr' => ?_⟩
      have := BlL.cons h1 (h4 r' hr')
      simpa [List.set_append] using this
/-- Read in a world that holds them. -/
theorem BlL.rows {w : World} {L : List (Nat × Obj)} (h : BlL w0 n vs rs Ms) (hs : HS w0 w (L ++ Ms)) : ∀ i, i < rs.length → ∃ ai ci, vs[i]? = some (.slice ai n ci) ∧ SlC w ai (cl (rs.getD i [])) := by
  induction h generalizing L with
  | nil => intro i hi; simp at hi
  | @cons v r M vs rs Ms h1 t ih =>
    intro i hi
    cases i with
    | zero =>
      obtain ⟨a, c, rfl, h2⟩ := SlC.of_bl (L := L ++ Ms) h1 (hs.mem_perm (by rw [List.append_assoc]; exact List.Perm.append_left L List.perm_append_comm))
      exact ⟨a, c, by simp, by simpa using h2⟩
    | succ i =>
      have := ih (L := L ++ M) (by rw [List.append_assoc]; exact hs) i (by simpa using hi)
      simpa using this
end
def cn2 (x : Nat × Nat) : Nat × Nat := (cn x.1, cn x.2)
def csub (x y : Nat × Nat) : Nat × Nat := (fop .sub x.1 y.1, fop .sub x.2 y.2)
def crow (r : List (Nat × Nat)) : List (Nat × Nat) := r.map cn2
def dRow (q r : List (Nat × Nat)) : List (Nat × Nat) := List.zipWith csub q r
def dRows (R : List (List (Nat × Nat))) : List (List (Nat × Nat)) := List.zipWith dRow R.tail R
def dIter (R : List (List (Nat × Nat))) : Nat → List (List (Nat × Nat))
  | 0 => R
  | o + 1 => dRows (dIter R o)
theorem csub_cn (x y : Nat × Nat) : csub (cn2 x) (cn2 y) = csub x y := by simp [csub, cn2, fop_cn]
theorem dRow_cn (q r : List (Nat × Nat)) : dRow (crow q) (crow r) = dRow q r := by
  unfold dRow crow
  rw [List.zipWith_map]
  congr 1
  funext x y; exact csub_cn x y
/-- The first of the rows so far, made anew. -/
theorem dRows_of {k : Nat} {R rs : List (List (Nat × Nat))} (hR : R.length = k + 1) (hrs : rs.length = k + 1) (h : ∀ j, j < k → crow (rs.getD j []) = dRow (R.getD (j + 1) []) (R.getD j [])) : (rs.take k).map crow = dRows (R.map crow) := by
  apply List.ext_getElem
  · simp [dRows, hR, hrs]
  · intro i h1 h2
    simp at h1
    have hi : i < k := by omega
    have := h i hi
    simp [dRows]
    rw [dRow_cn]
    simpa [List.getD, show i < rs.length by omega, show i < R.length by omega, show i + 1 < R.length by omega] using this
end Go.Proofs.Ytfehgelggjpaaaa
