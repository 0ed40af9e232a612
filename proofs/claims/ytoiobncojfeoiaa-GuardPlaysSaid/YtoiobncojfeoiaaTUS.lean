/-
  A part of the proof: what functions that the statement reaches do, or a plain law on what they do. Each theorem holds under its own premises alone.
-/
import Derived.Test.YtoiobncojfeoiaaTUF
import Derived.Shelf.Sort.Plain
import Derived.Shelf.Slices.In.SortNone
import Derived.Sort.OwnSortedInts
namespace Go.Proofs.Ytoiobncojfeoiaa
open Go.Shelf
/-! ### slices.Sort of whole numbers: the library's contract, laid at this program -/
def Srt.lays189_ren : Go.Shelf.Ren := ⟨fun | 189 => 38 | 125 => 51 | 257 => 50 | 128 => 64 | 129 => 65 | 294 => 55 | 295 => 56 | 296 => 57 | 297 => 58 | 298 => 59 | 299 => 60 | 216 => 61 | 300 => 62 | 301 => 63 | 328 => 66 | 329 => 67 | 330 => 68 | 331 => 69 | 332 => 70 | 215 => 71 | 343 => 72 | n => n, fun | 28 => 38 | 3 => 3 | 46 => 116 | 0 => 0 | 51 => 132 | 53 => 82 | 4 => 4 | 183 => 124 | 182 => 123 | 131 => 129 | 5 => 5 | 9 => 9 | 218 => 134 | 222 => 138 | 228 => 141 | 229 => 142 | n => n, fun | n => n⟩
theorem Srt.lays189 : Go.Proofs.Lays.n189 Try.prog Srt.lays189_ren := {
  mixed := by kernel_rfl
  f125 := Try.func51.trans (congrArg some (by kernel_rfl))
  f128 := Try.func64.trans (congrArg some (by kernel_rfl))
  f129 := Try.func65.trans (congrArg some (by kernel_rfl))
  f189 := Try.func38.trans (congrArg some (by kernel_rfl))
  f215 := Try.func71.trans (congrArg some (by kernel_rfl))
  f216 := Try.func61.trans (congrArg some (by kernel_rfl))
  f257 := Try.func50.trans (congrArg some (by kernel_rfl))
  f294 := Try.func55.trans (congrArg some (by kernel_rfl))
  f295 := Try.func56.trans (congrArg some (by kernel_rfl))
  f296 := Try.func57.trans (congrArg some (by kernel_rfl))
  f297 := Try.func58.trans (congrArg some (by kernel_rfl))
  f298 := Try.func59.trans (congrArg some (by kernel_rfl))
  f299 := Try.func60.trans (congrArg some (by kernel_rfl))
  f300 := Try.func62.trans (congrArg some (by kernel_rfl))
  f301 := Try.func63.trans (congrArg some (by kernel_rfl))
  f328 := Try.func66.trans (congrArg some (by kernel_rfl))
  f329 := Try.func67.trans (congrArg some (by kernel_rfl))
  f330 := Try.func68.trans (congrArg some (by kernel_rfl))
  f331 := Try.func69.trans (congrArg some (by kernel_rfl))
  f332 := Try.func70.trans (congrArg some (by kernel_rfl))
  f343 := Try.func72.trans (congrArg some (by kernel_rfl))
  t0 := Try.underlying0
  a0 := Try.isAgg0
  z0 := Try.sizeOf0
  v0 := Try.zeroValue0
  t3 := Try.underlying3
  a3 := Try.isAgg3
  z3 := Try.sizeOf3
  v3 := Try.zeroValue3
  t4 := Try.underlying4
  a4 := Try.isAgg4
  z4 := Try.sizeOf4
  v4 := Try.zeroValue4
  t5 := Try.underlying5
  a5 := Try.isAgg5
  z5 := Try.sizeOf5
  v5 := Try.zeroValue5
  t9 := Try.underlying9
  a9 := Try.isAgg9
  z9 := Try.sizeOf9
  v9 := Try.zeroValue9
  t28 := Try.underlying38
  a28 := Try.isAgg38
  z28 := Try.sizeOf38
  v28 := Try.zeroValue38
  t46 := Try.underlying116
  a46 := Try.isAgg116
  z46 := Try.sizeOf116
  v46 := Try.zeroValue116
  t51 := Try.underlying132
  a51 := Try.isAgg132
  z51 := Try.sizeOf132
  v51 := Try.zeroValue132
  t53 := Try.underlying82
  a53 := Try.isAgg82
  z53 := Try.sizeOf82
  v53 := Try.zeroValue82
  t131 := Try.underlying129
  a131 := Try.isAgg129
  z131 := Try.sizeOf129
  v131 := Try.zeroValue129
  t182 := Try.underlying123
  a182 := Try.isAgg123
  z182 := Try.sizeOf123
  v182 := Try.zeroValue123
  t183 := Try.underlying124
  a183 := Try.isAgg124
  z183 := Try.sizeOf124
  v183 := Try.zeroValue124
  t218 := Try.underlying134
  a218 := Try.isAgg134
  z218 := Try.sizeOf134
  v218 := Try.zeroValue134
  t222 := Try.underlying138
  a222 := Try.isAgg138
  z222 := Try.sizeOf138
  v222 := Try.zeroValue138
  t228 := Try.underlying141
  a228 := Try.isAgg141
  z228 := Try.sizeOf141
  v228 := Try.zeroValue141
  t229 := Try.underlying142
  a229 := Try.isAgg142
  z229 := Try.sizeOf142
  v229 := Try.zeroValue142 }
open Go Go.Lk Go.Sort
def isort (xs : List Int) : List Int := xs.mergeSort fun x y => decide (x ≤ y)
theorem isort_perm (xs : List Int) : (isort xs).Perm xs := List.mergeSort_perm xs _
theorem isort_len (xs : List Int) : (isort xs).length = xs.length := (isort_perm xs).length_eq
theorem putCells_row {xs ts : List Int} {sp : List Value} (h : ts.length = xs.length) : putCells (Value.int .i64) 0 ts.toArray (il xs ++ sp).toArray = (il ts ++ sp).toArray := by
  apply Array.ext'
  apply List.ext_getElem?
  intro j
  by_cases hj : j < ts.length
  · have h1 : (il ts ++ sp)[j]? = some (.int .i64 (ts.getD j 0)) := il_get' hj
    rw [h1]
    simp [putCells, hj, List.getElem?_append, h ▸ hj]
  · have e : (il ts ++ sp)[j]? = (il xs ++ sp)[j]? := by
      rw [List.getElem?_append_right (by rw [il_length]; omega), List.getElem?_append_right (by rw [il_length]; omega), il_length, il_length, h]
    rw [e]
    simp [putCells, hj]
theorem sort_row (g n c : Nat) (xs : List Int) (sp : List Value) (A : Bks) (w0 w : World) (hs : HS w0 w ((g, Row 3 (il xs ++ sp)) :: A)) (hn : xs.length = n) (hn2 : n < 4611686018427387904) :
    Ret Try.prog 38 [.slice (some ⟨g, 0, none⟩) n c] w fun v w' => v = .tuple #[] ∧ HS w0 w' ((g, Row 3 (il (isort xs) ++ sp)) :: A) := by
  subst hn
  have hb := hs.get (i := 0) rfl
  have hH : Holds (Value.int .i64) w g 0 xs.toArray := holds_of_blockI (ss := xs) hb (by
    show (il xs ++ sp).take xs.length = _
    rw [List.take_left' (by simp)]; rfl)
  have hg : g < w.heap.size := hs.lt (i := 0) rfl
  refine Calls.mono (Any.slices_Sort_int Srt.lays189 g 0 c xs w hH hg hn2) fun e w' => ?_
  rintro ⟨rfl, k, os, rfl⟩
  refine ⟨_, rfl, rfl, ?_⟩
  have hG := grownBy_sortedI (w := w) (g := g) (n := k) (os := os) (isort xs).toArray
  have hnew := heap_sortedI (n := k) (os := os) (isort xs).toArray hb
  rw [putCells_row (isort_len xs)] at hnew
  obtain ⟨g1, g2, g3, g4, g5⟩ := hG
  refine ⟨Nat.le_trans hs.size g4, fun p hp => ?_, hs.nodup, fun b hb' hnb => ?_, g1.trans hs.env.1, g2.trans hs.env.2.1, g3.trans hs.env.2.2⟩
  · rcases List.mem_cons.1 hp with rfl | hp
    · exact hnew
    · have hne : p.1 ≠ g := fun he => by
        have := hs.nodup
        simp only [List.map_cons, List.nodup_cons] at this
        exact this.1 (List.mem_map.2 ⟨p, hp, he⟩)
      have hp' := List.mem_cons_of_mem (g, Row 3 (il xs ++ sp)) hp
      exact (g5 p.1 (hs.lt' hp') (by intro he; cases he; exact hne rfl)).trans (hs.has p hp')
  · have hnb' : b ∉ (((g, Row 3 (il xs ++ sp)) :: A).map (·.1)) := hnb
    exact (g5 b (Nat.lt_of_lt_of_le hb' hs.size) (by intro he; cases he; exact hnb (by simp))).trans (hs.kept b hb' hnb')
theorem sort_ok (n : Nat) (v : Value) (xs : List Int) (L M : Bks) (w0 w : World) (hs : HS w0 w (L ++ M)) (hb : Bl w0 3 1 v n (il xs) M) (hn : xs.length = n) (hn2 : n < 4611686018427387904) :
    Ret Try.prog 38 [v] w fun r w' => r = .tuple #[] ∧ ∃ M', HS w0 w' (L ++ M') ∧ Bl w0 3 1 v n (il (isort xs)) M' := by
  rcases Nat.eq_zero_or_pos n with h0 | h0
  · obtain ⟨a, c, rfl, hc⟩ := hb.slice
    have hx : xs = [] := List.eq_nil_of_length_eq_zero (by omega)
    refine Calls.mono (show Ret Try.prog 38 [.slice a n c] w fun v w' => v = .tuple #[] ∧ w' = w from by
      rw [h0]
      refine Calls.mono (Any.slices_Sort_int_none Srt.lays189 a c w) fun e w' => ?_
      rintro ⟨rfl, rfl⟩
      exact ⟨_, rfl, rfl, rfl⟩) fun e w' => ?_
    rintro ⟨r, rfl, rfl, rfl⟩
    exact ⟨_, rfl, rfl, M, hs, by subst hx; rw [show isort [] = [] by simp [isort]]; exact hb⟩
  · obtain ⟨g, c, sp, rfl, rfl, hg, hl, hc⟩ := hb.own_row h0
    refine Calls.mono (sort_row g n c xs sp L w0 w hs.rot hn hn2) fun e w' => ?_
    rintro ⟨r, rfl, rfl, hs'⟩
    exact ⟨_, rfl, rfl, _, HS.rot (A := [_]) hs', .row hg (by rw [il_length, isort_len]; omega) (by rw [List.length_append, il_length, isort_len]; rw [List.length_append, il_length] at hl; exact hl) hc⟩
end Go.Proofs.Ytoiobncojfeoiaa
