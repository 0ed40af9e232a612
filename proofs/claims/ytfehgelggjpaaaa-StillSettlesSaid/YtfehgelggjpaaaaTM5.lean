/-
  A part of the proof: what functions that the statement reaches do, or a plain law on what they do. Each theorem holds under its own premises alone.
-/
import Derived.Test.YtfehgelggjpaaaaTM4
import Derived.Test.YtfehgelggjpaaaaTF10
import Derived.Test.YtfehgelggjpaaaaKit
namespace Go.Proofs.Ytfehgelggjpaaaa
open Go Go.Lk
/-- What a feeding answers and leaves, floats without NaN's bits. -/
def stp (k s : Nat) (fed : Bool) (ls row : List Nat) : Int × Bool × List Nat × List Nat :=
  if row.length = k then (0, true, (List.range k).map (gD row (if fed then ls else row)), (List.range k).map (gL s row (if fed then ls else row))) else (5, fed, [], ls)
theorem cn_zero : cn 0 = 0 := by decide +kernel
theorem getD_map_cn (l : List Nat) (j : Nat) : (l.map cn).getD j 0 = cn (l.getD j 0) := by
  simp only [List.getD, List.getElem?_map]
  cases l[j]? <;> simp [cn_zero]
theorem gD_cn (row l0 : List Nat) (j : Nat) : gD (row.map cn) (l0.map cn) j = gD row l0 j := by simp only [gD, getD_map_cn, fop_cn]
theorem gL_cn (s : Nat) (row l0 : List Nat) (j : Nat) : gL s (row.map cn) (l0.map cn) j = gL s row l0 j := by
  unfold gL
  rw [gD_cn, getD_map_cn]
  exact fop_congr (cn_cn _) rfl
theorem map_range_of {k : Nat} {l : List Nat} {f : Nat → Nat} (hl : l.length = k) (h : ∀ j, j < k → cn (l.getD j 0) = f j) : l.map cn = (List.range k).map f := by
  apply List.ext_getElem
  · simp [hl]
  · intro j h1 h2
    have hj : j < k := by simpa using h2
    have := h j hj
    simpa [List.getD, show j < l.length by omega] using this
theorem stp_of {k s : Nat} {fed : Bool} {ls row out ls' l0 : List Nat} (hk : row.length = k) (hl0 : l0 = if fed then ls else row) (ho : out.length = k) (hl : ls'.length = k) (hD : ∀ j, j < k → cn (out.getD j 0) = gD row l0 j) (hL : ∀ j, j < k → cn (ls'.getD j 0) = gL s row l0 j) :
    (0, true, out.map cn, ls'.map cn) = stp k s fed (ls.map cn) (row.map cn) := by
  have e0 : (if fed then ls.map cn else row.map cn) = l0.map cn := by rw [hl0]; cases fed <;> rfl
  unfold stp
  rw [if_pos (by simpa using hk), e0, map_range_of ho hD, map_range_of hl hL]
  have f1 : (List.range k).map (gD row l0) = (List.range k).map (gD (row.map cn) (l0.map cn)) := List.map_congr_left fun j _ => (gD_cn ..).symm
  have f2 : (List.range k).map (gL s row l0) = (List.range k).map (gL s (row.map cn) (l0.map cn)) := List.map_congr_left fun j _ => (gL_cn ..).symm
  rw [f1, f2]
theorem stp_not {k s : Nat} {fed : Bool} {ls row : List Nat} (hk : row.length ≠ k) : (5, fed, [], ls.map cn) = stp k s fed (ls.map cn) (row.map cn) := by
  unfold stp
  rw [if_neg (by simpa using hk)]
theorem feed_any (b g k s : Nat) (fed : Bool) (ls row : List Nat) (a : Option Addr) (c : Nat) (w0 : World) (hm : IsMap w0 60 b g k s fed ls) (hgb : g ≠ b) (hrow : SlC w0 a (fl row)) (h1 : 1 ≤ k) (h2 : k ≤ 16384) (ha : 0 < row.length → (aD a).block ≠ g ∧ (aD a).block ≠ b) :
    Ret Try.prog 16 [.pointer (some ⟨b, 0, none⟩), .slice a row.length c] w0 fun v w' => ∃ v1 N out ls' fed' e, v = .tuple #[v1, .int .i64 e] ∧ HS w0 w' (MapL 60 g b k s fed' ls' ++ N) ∧ Bl w0 35 1 v1 out.length (fl out) N ∧ ls'.length = k ∧ (e, fed', out.map cn, ls'.map cn) = stp k s fed (ls.map cn) (row.map cn) := by
  by_cases hk : row.length = k
  · obtain ⟨l0, hl0⟩ : ∃ l0, l0 = if fed then ls else row := ⟨_, rfl⟩
    rw [hk]
    refine Calls.mono (feed_ok b g k s fed ls row l0 a c w0 hm hgb hrow hk h1 h2 (ha (by omega)) hl0) fun e w' hR => ?_
    obtain ⟨v, rfl, q, out, ls', rfl, hs, hq, ho, hl, hD, hL⟩ := hR
    refine ⟨_, rfl, _, _, out, ls', true, 0, rfl, hs, ?_, hl, stp_of hk hl0 ho hl hD hL⟩
    have : Bl w0 35 1 (.slice (some ⟨q, 0, none⟩) k k) k (fl out) [(q, Row 35 (fl out ++ []))] := .row hq (by simp [ho]) (by simp [ho]) (Nat.le_refl _)
    rw [List.append_nil] at this
    rw [ho]; exact this
  · refine Calls.mono (feed_len b g k s fed ls a row.length c w0 hm hk) fun e w' hR => ?_
    obtain ⟨v, rfl, rfl, rfl⟩ := hR
    refine ⟨_, rfl, _, [], [], ls, fed, 5, rfl, ?_, Bl.nil, hm.len, stp_not hk⟩
    rw [List.append_nil]
    exact HS.named (by simp [hm.row, hm.box]) (by simp [hgb])
theorem rfeed_any (b g k s : Nat) (fed : Bool) (ls row : List Nat) (a : Option Addr) (c : Nat) (w0 : World) (hm : IsMap w0 62 b g k s fed ls) (hgb : g ≠ b) (hrow : SlC w0 a (fl row)) (h1 : 1 ≤ k) (h2 : k ≤ 16384) (ha : 0 < row.length → (aD a).block ≠ g ∧ (aD a).block ≠ b) :
    Ret Try.prog 15 [.pointer (some ⟨b, 0, none⟩), .slice a row.length c] w0 fun v w' => ∃ v1 N out ls' fed' e, v = .tuple #[v1, .int .i64 e] ∧ HS w0 w' (MapL 62 g b k s fed' ls' ++ N) ∧ Bl w0 35 1 v1 out.length (fl out) N ∧ ls'.length = k ∧ (e, fed', out.map cn, ls'.map cn) = stp k s fed (ls.map cn) (row.map cn) := by
  by_cases hk : row.length = k
  · obtain ⟨l0, hl0⟩ : ∃ l0, l0 = if fed then ls else row := ⟨_, rfl⟩
    rw [hk]
    refine Calls.mono (rfeed_ok b g k s fed ls row l0 a c w0 hm hgb hrow hk h1 h2 (ha (by omega)) hl0) fun e w' hR => ?_
    obtain ⟨v, rfl, v1, M, out, ls', rfl, hs, hb, ho, hl, hD, hL⟩ := hR
    exact ⟨_, rfl, v1, M, out, ls', true, 0, rfl, hs, by rw [ho]; exact hb, hl, stp_of hk hl0 ho hl hD hL⟩
  · refine Calls.mono (rfeed_len b g k s fed ls a row.length c w0 hm hk) fun e w' hR => ?_
    obtain ⟨v, rfl, rfl, rfl⟩ := hR
    refine ⟨_, rfl, _, [], [], ls, fed, 5, rfl, ?_, Bl.nil, hm.len, stp_not hk⟩
    rw [List.append_nil]
    exact HS.named (by simp [hm.row, hm.box]) (by simp [hgb])
theorem new_any (gates : Int) (s : Nat) (w0 : World) : Ret Try.prog 13 [.int .i64 gates, .float .f64 s] w0 fun v w' => ∃ p e, v = .tuple #[.pointer p, .int .i64 e] ∧ HS w0 w' [] := by
  by_cases h1 : gates < 1 ∨ shOk s = false
  · refine Calls.mono (new_bad gates s w0 h1) fun e w' hR => ?_
    obtain ⟨v, rfl, rfl, rfl⟩ := hR
    exact ⟨_, rfl, _, _, rfl, HS.refl _⟩
  · simp only [not_or, Bool.not_eq_false] at h1
    by_cases h2 : 16384 < gates
    · refine Calls.mono (new_big gates s w0 h2 h1.2) fun e w' hR => ?_
      obtain ⟨v, rfl, rfl, rfl⟩ := hR
      exact ⟨_, rfl, _, _, rfl, HS.refl _⟩
    · obtain ⟨k, rfl⟩ : ∃ k : Nat, gates = (k : Int) := ⟨gates.toNat, by omega⟩
      refine Calls.mono (new_ok k s w0 (by omega) (by omega) h1.2) fun e w' hR => ?_
      obtain ⟨v, rfl, g, b, rfl, hs, hg, hb⟩ := hR
      exact ⟨_, rfl, _, _, rfl, hs.forget (Own.cons hg (Own.cons hb Own.nil))⟩
/-- No map: both answer one code; or both a map. -/
theorem new_pair (gates : Int) (s : Nat) (h : gates < 1 ∨ shOk s = false ∨ 16384 < gates) : ∃ e : Int, ∀ w, Ret Try.prog 13 [.int .i64 gates, .float .f64 s] w (fun v w' => v = .tuple #[.pointer none, .int .i64 e] ∧ w' = w) ∧ Ret Try.prog 14 [.int .i64 gates, .float .f64 s] w (fun v w' => v = .tuple #[.pointer none, .int .i64 e] ∧ w' = w) := by
  by_cases h1 : gates < 1 ∨ shOk s = false
  · exact ⟨2, fun w => ⟨new_bad gates s w h1, rnew_bad gates s w h1⟩⟩
  · simp only [not_or, Bool.not_eq_false] at h1
    have h2 : 16384 < gates := by
      rcases h with h | h | h
      · exact absurd h h1.1
      · rw [h1.2] at h; cases h
      · exact h
    exact ⟨3, fun w => ⟨new_big gates s w h2 h1.2, rnew_big gates s w h2 h1.2⟩⟩
end Go.Proofs.Ytfehgelggjpaaaa
