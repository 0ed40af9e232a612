/-
  A part of the proof: what functions that the statement reaches do, or a plain law on what they do. Each theorem holds under its own premises alone.
-/
import Derived.Test.YtcfdmenmlemahaaTG10
import Derived.Test.YtcfdmenmlemahaaTPE
namespace Go.Proofs.Ytcfdmenmlemahaa
open Go Go.Lk Go.Pr
/-- A table whose best pairing is known. -/
theorem leastAns_known {rows : List (List Int)} {G : List Nat} {ms : List Int} {t e : Int} (h : LeastAns rows ms t e) (hc : chk rows = 0) (h0 : rows.length ≠ 0) (hw : rows.length ≤ wid rows 0) (hl : G.length = rows.length ∨ rows.length ≤ G.length)
    (hGn : ∀ j, j < wid rows 0 → G.getD j 0 < wid rows 0) (hGi : ∀ a, a < wid rows 0 → ∀ b, b < wid rows 0 → G.getD a 0 = G.getD b 0 → a = b) (hall : (seqs (wid rows 0) (wid rows 0)).all (beats (wid rows 0) rows.length (lsC rows) G) = true) :
    (∃ i, i < rows.length ∧ el rows i (G.getD i 0) < 0) ∧ ms = [] ∧ t = 0 ∧ e = 170 ∨ (∀ i, i < rows.length → 0 ≤ el rows i (G.getD i 0)) ∧ ms = (List.range rows.length).map (fun i => ((G.getD i 0 : Nat) : Int)) ∧ t = tot rows.length (fun i => el rows i (G.getD i 0)) ∧ e = 0 := by
  rcases h with ⟨h1 | h1, _⟩ | ⟨_, _, h1, _⟩ | ⟨_, _, _, f, hf, h1⟩
  · exact absurd hc h1
  · exact absurd h1 h0
  · omega
  · have hu := best_is hw hf hGn hGi hall
    rcases h1 with ⟨⟨i, hi, hin⟩, h2⟩ | ⟨h2, h3, h4, h5⟩
    · exact .inl ⟨⟨i, hi, by rw [← hu i hi]; exact hin⟩, h2⟩
    · refine .inr ⟨fun i hi => by rw [← hu i hi]; exact h2 i hi, ?_, ?_, h5⟩
      · rw [h3]; exact List.map_congr_left fun i hi => by rw [hu i (List.mem_range.1 hi)]
      · rw [h4]; exact tot_congr fun i hi => by rw [hu i hi]
theorem mostAns_known {rows : List (List Int)} {G : List Nat} {ms : List Int} {cnt t e : Int} (h : MostAns rows ms cnt t e) (hc : chk rows = 0) (h0 : rows.length ≠ 0)
    (hGn : ∀ j, j < wid rows 0 + rows.length → G.getD j 0 < wid rows 0 + rows.length) (hGi : ∀ a, a < wid rows 0 + rows.length → ∀ b, b < wid rows 0 + rows.length → G.getD a 0 = G.getD b 0 → a = b) (hall : (seqs (wid rows 0 + rows.length) (wid rows 0 + rows.length)).all (beats (wid rows 0 + rows.length) rows.length (msC rows (wid rows 0)) G) = true) :
    ms = (List.range rows.length).map (fun i => if G.getD i 0 < wid rows 0 then ((G.getD i 0 : Nat) : Int) else -1) ∧ cnt = tot rows.length (fun i => if G.getD i 0 < wid rows 0 then 1 else 0) ∧ t = tot rows.length (fun i => if G.getD i 0 < wid rows 0 then el rows i (G.getD i 0) else 0) ∧ e = 0 := by
  rcases h with ⟨h1 | h1, _⟩ | ⟨_, _, f, hf, h1, h2, h3, h4⟩
  · exact absurd hc h1
  · exact absurd h1 h0
  · have hu := best_is (by omega) hf hGn hGi hall
    refine ⟨?_, ?_, ?_, h4⟩
    · rw [h1]; exact List.map_congr_left fun i hi => by rw [hu i (List.mem_range.1 hi)]
    · rw [h2]; exact tot_congr fun i hi => by rw [hu i hi]
    · rw [h3]; exact tot_congr fun i hi => by rw [hu i hi]
theorem l_works {ms : List Int} {t e : Int} (h : LeastAns [[4, 1, 3], [2, 0, 5], [3, 2, 2]] ms t e) : ms = [1, 0, 2] ∧ t = 5 ∧ e = 0 := by
  rcases leastAns_known (G := [1, 0, 2]) h (by decide +kernel) (by decide) (by decide) (.inl rfl) (by decide +kernel) (by decide +kernel) (by decide +kernel) with ⟨h1, _⟩ | ⟨_, h1, h2, h3⟩
  · exact absurd h1 (by decide +kernel)
  · exact ⟨by rw [h1]; decide +kernel, by rw [h2]; decide +kernel, h3⟩
theorem m_works {ms : List Int} {c t e : Int} (h : MostAns [[5, -1], [3, -1]] ms c t e) : ms = [-1, 0] ∧ c = 1 ∧ t = 3 ∧ e = 0 := by
  obtain ⟨h1, h2, h3, h4⟩ := mostAns_known (G := [2, 0, 1, 3]) h (by decide +kernel) (by decide) (by decide +kernel) (by decide +kernel) (by decide +kernel)
  exact ⟨by rw [h1]; decide +kernel, by rw [h2]; decide +kernel, by rw [h3]; decide +kernel, h4⟩
theorem l_known1 {ms : List Int} {t e : Int} (h : LeastAns [[1, 1], [1, 1]] ms t e) : ms = [0, 1] ∧ t = 2 ∧ e = 0 := by
  rcases leastAns_known (G := [0, 1]) h (by decide +kernel) (by decide) (by decide) (.inl rfl) (by decide +kernel) (by decide +kernel) (by decide +kernel) with ⟨h1, _⟩ | ⟨_, h1, h2, h3⟩
  · exact absurd h1 (by decide +kernel)
  · exact ⟨by rw [h1]; decide +kernel, by rw [h2]; decide +kernel, h3⟩
theorem l_known2 {ms : List Int} {t e : Int} (h : LeastAns [[5, -1], [3, -1]] ms t e) : e = 170 := by
  rcases leastAns_known (G := [1, 0]) h (by decide +kernel) (by decide) (by decide) (.inl rfl) (by decide +kernel) (by decide +kernel) (by decide +kernel) with ⟨_, _, _, h3⟩ | ⟨h1, _⟩
  · exact h3
  · exact absurd (h1 0 (by decide)) (by decide +kernel)
theorem m_known {ms : List Int} {c t e : Int} (h : MostAns [[5, -1], [5, -1]] ms c t e) : ms = [0, -1] ∧ c = 1 ∧ t = 5 ∧ e = 0 := by
  obtain ⟨h1, h2, h3, h4⟩ := mostAns_known (G := [0, 3, 1, 2]) h (by decide +kernel) (by decide) (by decide +kernel) (by decide +kernel) (by decide +kernel)
  exact ⟨by rw [h1]; decide +kernel, by rw [h2]; decide +kernel, by rw [h3]; decide +kernel, h4⟩
theorem l_known3 {ms : List Int} {t e : Int} (h : LeastAns [[1, 2], [3, 4], [5, 6]] ms t e) : e = 170 := by
  rcases h with ⟨h1 | h1, _⟩ | ⟨_, _, _, _, _, h1⟩ | ⟨_, _, h1, _⟩
  · exact absurd h1 (by decide +kernel)
  · exact absurd h1 (by decide)
  · exact h1
  · exact absurd h1 (by decide)
theorem l_known4 {ms : List Int} {t e : Int} (h : LeastAns [] ms t e) : ms = [] ∧ t = 0 ∧ e = 0 := by
  rcases h with ⟨_, h1, h2, h3⟩ | ⟨_, h1, _⟩ | ⟨_, h1, _⟩
  · exact ⟨h1, h2, by rw [h3]; decide +kernel⟩
  · exact absurd rfl h1
  · exact absurd rfl h1
theorem m_known2 {ms : List Int} {c t e : Int} (h : MostAns [[], []] ms c t e) : ms = [-1, -1] ∧ c = 0 ∧ e = 0 := by
  obtain ⟨h1, h2, h3, h4⟩ := mostAns_known (G := [0, 1]) h (by decide +kernel) (by decide) (by decide +kernel) (by decide +kernel) (by decide +kernel)
  exact ⟨by rw [h1]; decide +kernel, by rw [h2]; decide +kernel, h4⟩
theorem l_known5 {ms : List Int} {t e : Int} (h : LeastAns [[1, 2], [3]] ms t e) : e = 5 := by
  rcases h with ⟨_, _, _, h1⟩ | ⟨h1, _⟩ | ⟨h1, _⟩
  · rw [h1]; decide +kernel
  · exact absurd h1 (by decide +kernel)
  · exact absurd h1 (by decide +kernel)
theorem l_known6 {ms : List Int} {t e : Int} (h : LeastAns [[1099511627777]] ms t e) : e = 2 := by
  rcases h with ⟨_, _, _, h1⟩ | ⟨h1, _⟩ | ⟨h1, _⟩
  · rw [h1]; decide +kernel
  · exact absurd h1 (by decide +kernel)
  · exact absurd h1 (by decide +kernel)
instance (rows : List (List Int)) (mt : List Int) (i : Nat) : Decidable (badT rows mt i) := by
  unfold badT
  have : Decidable (∃ q, q < i ∧ mt.getD q 0 = mt.getD i 0) := decidable_of_iff ((List.range i).any fun q => decide (mt.getD q 0 = mt.getD i 0)) (by simp)
  infer_instance
theorem t_ok {rows : List (List Int)} {mt : List Int} {t e : Int} (h : TotalAns rows mt t e) (hc : chk rows = 0) (hl : mt.length = rows.length) (hb : ∀ i, i < rows.length → ¬badT rows mt i) : t = tot rows.length (fun i => if mt.getD i 0 = -1 then 0 else el rows i (mt.getD i 0).toNat) ∧ e = 0 := by
  rcases h with ⟨h1, _⟩ | ⟨_, h1, _⟩ | ⟨_, _, ⟨i, hi, h1⟩, _⟩ | ⟨_, _, _, h1⟩
  · exact absurd hc h1
  · exact absurd hl h1
  · exact absurd h1 (hb i hi)
  · exact h1
theorem t_known1 {t e : Int} (h : TotalAns [[4, 1], [2, 0]] [1, 0] t e) : t = 3 ∧ e = 0 := by
  obtain ⟨h1, h2⟩ := t_ok h (by decide +kernel) rfl (by decide +kernel)
  exact ⟨by rw [h1]; decide +kernel, h2⟩
theorem t_known2 {t e : Int} (h : TotalAns [[4, 1], [2, 0]] [1, 1] t e) : e = 170 := by
  rcases h with ⟨h1, _⟩ | ⟨_, h1, _⟩ | ⟨_, _, _, _, h1⟩ | ⟨_, _, h1, _⟩
  · exact absurd h1 (by decide +kernel)
  · exact absurd rfl h1
  · exact h1
  · exact absurd (show badT [[4, 1], [2, 0]] [1, 1] 1 by decide +kernel) (h1 1 (by decide))
theorem t_known3 {t e : Int} (h : TotalAns [[4, 1], [2, 0]] [0] t e) : e = 5 := by
  rcases h with ⟨h1, _⟩ | ⟨_, _, _, h1⟩ | ⟨_, h1, _⟩ | ⟨_, h1, _⟩
  · exact absurd h1 (by decide +kernel)
  · exact h1
  · exact absurd h1 (by decide)
  · exact absurd h1 (by decide)
theorem t_known4 {t e : Int} (h : TotalAns [[4, 1], [2, 0]] [-1, 0] t e) : t = 2 ∧ e = 0 := by
  obtain ⟨h1, h2⟩ := t_ok h (by decide +kernel) rfl (by decide +kernel)
  exact ⟨by rw [h1]; decide +kernel, h2⟩
end Go.Proofs.Ytcfdmenmlemahaa
