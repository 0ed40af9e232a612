/-
  A part of the proof: what functions that the statement reaches do, or a plain law on what they do. Each theorem holds under its own premises alone.
-/
import Derived.Test.YtihhloeakenfgaaTB5
import Derived.Test.YtihhloeakenfgaaKit
import Derived.Test.YtihhloeakenfgaaTYT
namespace Go.Proofs.Ytihhloeakenfgaa
open Go Go.Lk
theorem Bl.reset {w0 : World} {E : TypeId} {sz : Nat} {a : Option Addr} {n c k : Nat} {xs : List Value} {M : List (Nat × Obj)} (h : Bl w0 E sz (.slice a n c) k xs M) : Bl w0 E sz (.slice a 0 c) 0 [] M := by
  cases h with
  | nil => exact .nil
  | @row g n cap xs sp hg hx hc hn => exact .row (xs := []) (sp := xs ++ sp) hg (by simp) (by simpa using hc) (Nat.zero_le _)
theorem SlC.drop {w : World} {a : Option Addr} {cs : List Value} {l c : Nat} (h : SlC w a cs) (hc : cs.length ≤ c) : SlC w (slA a l c 1) (cs.drop l) := by
  by_cases hl : l < cs.length
  · have hao := h.ao (by omega)
    have e : slA a l c 1 = some ((aD a).add l) := by
      unfold slA
      rw [if_neg (by omega), hao, Nat.mul_one]; rfl
    refine ⟨fun _ => by rw [e]; rfl, fun j v hv => ?_⟩
    rw [e]
    show w.cell? (((aD a).add l).add j) = some v
    rw [Lk.add_add]
    exact h.get (by rw [List.getElem?_drop] at hv; exact hv)
  · rw [List.drop_eq_nil_of_le (by omega)]
    exact ⟨fun h => absurd h (by simp), fun j v hv => by simp at hv⟩
def prodT (taps zs : List (Nat × Nat)) (i q : Nat) : Nat × Nat :=
  (fop .sub (fop .mul (taps.getD q (0, 0)).1 (zs.getD (i - q) (0, 0)).1) (fop .mul (taps.getD q (0, 0)).2 (zs.getD (i - q) (0, 0)).2), fop .add (fop .mul (taps.getD q (0, 0)).1 (zs.getD (i - q) (0, 0)).2) (fop .mul (taps.getD q (0, 0)).2 (zs.getD (i - q) (0, 0)).1))
def LStep (taps zs : List (Nat × Nat)) (i : Nat) (o : Nat × Nat) : Prop := ∃ ts : List (Nat × Nat), ts.length = min taps.length (i + 1) ∧ (∀ q, q < ts.length → cn (ts.getD q (0, 0)).1 = (prodT taps zs i q).1 ∧ cn (ts.getD q (0, 0)).2 = (prodT taps zs i q).2) ∧ cn o.1 = cn (sumN ts (ts.length - 1)).1 ∧ cn o.2 = cn (sumN ts (ts.length - 1)).2
theorem czsnoc {xs : List (Nat × Nat)} {x : Nat × Nat} {j q : Nat} (hj : xs.length = j) : (xs ++ [x]).getD q (0, 0) = if q = j then x else xs.getD q (0, 0) := by
  simp only [List.getD]
  by_cases h : q < j
  · rw [List.getElem?_append_left (by omega), if_neg (by omega)]
  · rw [List.getElem?_append_right (by omega)]
    by_cases hq : q = j
    · rw [if_pos hq, hj, hq, Nat.sub_self]; rfl
    · rw [if_neg hq, List.getElem?_eq_none (by simp; omega), List.getElem?_eq_none (by omega)]
set_option maxHeartbeats 1000000 in
theorem line_feed (B g t cg : Nat) (taps : List (Nat × Nat)) (sp : List Value) (a : Option Addr) (k c : Nat) (zs : List (Nat × Nat)) (w0 : World) (hB : w0.heap[B]? = some (Row 52 [.slice (some ⟨g, 0, none⟩) t cg, .slice none 0 0])) (hg : w0.heap[g]? = some (Row 28 (cl taps ++ sp))) (hgB : g ≠ B) (ht : taps.length = t) (h1 : 1 ≤ t) (h2 : t ≤ 256)
    (hz : SlC w0 a (cl zs)) (hk : zs.length = k) (hn : 0 < k → (aD a).block ≠ B) (hk2 : k ≤ 1000000) :
    Ret Try.prog 9 [.pointer (some ⟨B, 0, none⟩), .slice a k c] w0 fun v w' => ∃ go os v' N, v = .slice (some ⟨go, 0, none⟩) k k ∧ HS w0 w' ((B, Row 52 [.slice (some ⟨g, 0, none⟩) t cg, v']) :: (go, Row 28 (cl os)) :: N) ∧ w0.heap.size ≤ go ∧ Own w0 N ∧ os.length = k ∧ ∀ i, i < k → LStep taps zs i (os.getD i (0, 0)) := by
  have hs : HS w0 w0 [(B, Row 52 [.slice (some ⟨g, 0, none⟩) t cg, .slice none 0 0])] := HS.named (by simpa using hB) (by simp)
  have hgt : SlC w0 (some ⟨g, 0, none⟩) (cl taps) := SlC.of_row hg
  have hgs : g < w0.heap.size := (Array.getElem?_eq_some_iff.1 hg).1
  have hold : ∀ {w : World} {v : Value} {M : List (Nat × Obj)}, HS w0 w ((B, Row 52 [.slice (some ⟨g, 0, none⟩) t cg, v]) :: M) → Own w0 M → SlC w (some ⟨g, 0, none⟩) (cl taps) := fun hs hO => SlC.keep hgt hs (by
    show g ∉ _
    rw [List.map_cons, List.mem_cons, not_or]
    exact ⟨hgB, hO.notin hgs⟩)
  have hsrc : ∀ {w : World} {v : Value} {M : List (Nat × Obj)}, HS w0 w ((B, Row 52 [.slice (some ⟨g, 0, none⟩) t cg, v]) :: M) → Own w0 M → SlC w a (cl zs) := fun hs hO => by
    by_cases h0 : 0 < k
    · refine SlC.keep hz hs ?_
      rw [List.map_cons, List.mem_cons, not_or]
      have := World.block_lt_of_cell? w0 _ (hz.get (cl_get (show 0 < zs.length by omega)))
      rw [Lk.block_add] at this
      exact ⟨hn h0, hO.notin this⟩
    · have : zs = [] := List.length_eq_zero_iff.1 (by omega)
      subst this
      exact ⟨fun h => absurd h (by simp), fun j v hv => by simp [cl] at hv⟩
  refine calls_of_W Try.func9 rfl rfl rfl ?_
  refine W_seq ?_
  refine W_region ?_
  refine L_assign rfl rfl ?_
  refine RL_then ?_
  refine W_seq ?_
  refine W_seq ?_
  refine W_region ?_
  refine L_move rfl rfl ?_
  refine L_ptrNil rfl Try.underlying34 rfl rfl ?_
  refine RL_then ?_
  refine W_if_false rfl ?_
  refine W_skip' ?_
  refine Nx_then ?_
  refine W_seq ?_
  refine W_region ?_
  refine L_move rfl rfl ?_
  refine L_len rfl Try.underlying27 rfl ?_
  refine L_make1 (c := k) rfl hs Try.underlying27 Try.ti28 rfl rfl rfl rfl (Nat.le_refl _) (by omega) (by omega) rfl ?_
  intro go w hgo hngo hs
  replace hs : HS w0 w [(B, Row 52 [.slice (some ⟨g, 0, none⟩) t cg, .slice none 0 0]), (go, Row 28 (cl (List.replicate k (0, 0))))] := by simpa [cl] using hs
  refine L_assign rfl rfl ?_
  refine RL_then ?_
  refine W_seq ?_
  refine W_pht [0, 1, 2, 4, 5, 6, 9, 10, 11, 15] [3, 7, 8, 12, 13, 14] [16, 17] (fun _ _ _ => False) Try.mixed (by kernel_rfl) (fun _ _ _ _ _ h => h) hs ?_
  refine PL_val rfl (fun w => R_move rfl) ?_
  refine PL_val rfl (fun w => R_nilCheck rfl) ?_
  refine PL_val rfl (fun w => R_fieldAddr (off := 1) Try.underlying52 rfl rfl Try.ti27 rfl) ?_
  refine PL_val rfl (fun w => R_move rfl) ?_
  refine PL_val rfl (fun w => R_nilCheck rfl) ?_
  refine PL_val rfl (fun w => R_fieldAddr (off := 1) Try.underlying52 rfl rfl Try.ti27 rfl) ?_
  refine PL_val rfl (fun w => R_move rfl) ?_
  refine PL_val rfl (fun w => R_nilCheck rfl) ?_
  refine PL_val rfl (fun w => R_fieldAddr (off := 1) Try.underlying52 rfl rfl Try.ti27 rfl) ?_
  refine PL_val rfl (fun w => R_move rfl) ?_
  refine PL_end ?_
  refine HL_val rfl (fun w hs => R_load Try.one27 rfl (by exact hs.cellA (i := 0) rfl rfl)) ?_
  refine HL_val rfl (fun w hs => R_load Try.one27 rfl (by exact hs.cellA (i := 0) rfl rfl)) ?_
  refine HL_val rfl (fun w hs => R_len Try.underlying27 rfl) ?_
  refine HL_val rfl (fun w hs => R_load Try.one27 rfl (by exact hs.cellA (i := 0) rfl rfl)) ?_
  refine HL_val rfl (fun w hs => R_len Try.underlying27 rfl) ?_
  refine HL_val rfl (fun w hs => R_slice011 Try.underlying27 Try.ti28 rfl rfl rfl (by with_reducible first | exact natc_k _ | exact natc_a1 _ | exact natc_0 | exact natc_1 | exact natc_2 | exact natc_s1 _ (by omega) | exact natc_a2 _ | exact natc_add _ _ | exact natc_mul _ _ | exact natc (by omega)) (by with_reducible first | exact natc_k _ | exact natc_a1 _ | exact natc_0 | exact natc_1 | exact natc_2 | exact natc_s1 _ (by omega) | exact natc_a2 _ | exact natc_add _ _ | exact natc_mul _ _ | exact natc (by omega)) (by omega)) ?_
  refine HL_tail ?_
  intro w hs
  refine L_appendS (L := [(B, Row 52 [.slice (some ⟨g, 0, none⟩) t cg, .slice none 0 0]), (go, Row 28 (cl (List.replicate k (0, 0))))]) (M := []) rfl Try.underlying27 Try.ti28 rfl (by decide) (by rw [List.append_nil]; exact hs) Bl.nil rfl rfl (news := cl zs) (by rw [cl_length, hk, Nat.mul_one]) (hsrc hs (Own.cons hgo Own.nil)) (cl_one _) (by omega) (by omega) ?_
  intro v6 w M6 hs hb6
  rw [List.nil_append, Nat.zero_add] at hb6
  obtain ⟨a6, c6, rfl, hc6⟩ := hb6.slice
  refine L_assign rfl rfl ?_
  refine RL_then ?_
  refine W_seq ?_
  refine W_region ?_
  refine L_move rfl rfl ?_
  refine L_nilCheck rfl rfl ?_
  refine L_fieldAddr rfl (off := 1) Try.underlying52 rfl rfl Try.ti27 rfl ?_
  refine L_load rfl Try.one27 rfl (by exact hs.cellA (i := 0) rfl rfl) ?_
  refine L_len rfl Try.underlying27 rfl ?_
  refine L_assign rfl rfl ?_
  refine RL_then ?_
  refine W_seq ?_
  refine W_region ?_
  refine L_move rfl rfl ?_
  refine L_nilCheck rfl rfl ?_
  refine L_fieldAddr rfl (off := 0) Try.underlying52 rfl rfl Try.ti27 rfl ?_
  refine L_load rfl Try.one27 rfl (by exact hs.cellA (i := 0) rfl rfl) ?_
  refine L_len rfl Try.underlying27 rfl ?_
  refine L_make1 (l := 0) (c := t) rfl hs Try.underlying27 Try.ti28 rfl rfl natc_0 rfl (Nat.zero_le _) (by omega) (by omega) rfl ?_
  intro gt w hgt' hngt hs
  replace hs : HS w0 w ((B, Row 52 [.slice (some ⟨g, 0, none⟩) t cg, .slice none 0 0]) :: (go, Row 28 (cl (List.replicate k (0, 0)))) :: (M6 ++ [(gt, Row 28 (List.replicate t (.complex .f64 0 0)))])) := by simpa using hs
  have hbt0 : Bl w0 28 1 (.slice (some ⟨gt, 0, none⟩) 0 t) 0 (cl []) [(gt, Row 28 (List.replicate t (.complex .f64 0 0)))] := .row (xs := []) (sp := List.replicate t (.complex .f64 0 0)) hgt' rfl (by simp) (Nat.zero_le _)
  have hO6 := Bl.own hb6
  have h6 : ∀ {w : World} {os : List (Nat × Nat)} {MT : List (Nat × Obj)}, HS w0 w ((B, Row 52 [.slice (some ⟨g, 0, none⟩) t cg, .slice none 0 0]) :: (go, Row 28 (cl os)) :: (M6 ++ MT)) → SlC w a6 (cl zs) := fun {w os MT} hs => hb6.slc (L := (B, Row 52 [.slice (some ⟨g, 0, none⟩) t cg, .slice none 0 0]) :: (go, Row 28 (cl os)) :: MT) (hs.mem_perm (List.Perm.cons _ (List.Perm.cons _ List.perm_append_comm)))
  refine L_assign rfl rfl ?_
  refine RL_then ?_
  refine W_seq ?_
  refine W_seq ?_
  refine W_region ?_
  refine L_move rfl rfl ?_
  refine L_len rfl Try.underlying27 rfl ?_
  refine L_move rfl rfl ?_
  refine RL_then ?_
  refine W_block ?_
  refine W_loop6 (fun (i : Nat) (os : List (Nat × Nat)) (vT : Value) (ts : List (Nat × Nat)) (MT : List (Nat × Obj)) (w : World) => [(0, .pointer (some ⟨B, 0, none⟩)), (5, .slice (some ⟨go, 0, none⟩) k k), (6, .slice a6 k c6), (7, .int .i64 (0 : Nat)), (8, vT), (46, .int .i64 k), (47, .int .i64 i)]) (fun (i : Nat) (os : List (Nat × Nat)) (vT : Value) (ts : List (Nat × Nat)) (MT : List (Nat × Obj)) (w : World) => w) (fun (i : Nat) (os : List (Nat × Nat)) (vT : Value) (ts : List (Nat × Nat)) (MT : List (Nat × Obj)) (w : World) => (i ≤ k) ∧ (os.length = k) ∧ (∀ q, q < i → LStep taps zs q (os.getD q (0, 0))) ∧ (Bl w0 28 1 vT ts.length (cl ts) MT) ∧ (HS w0 w ((B, Row 52 [.slice (some ⟨g, 0, none⟩) t cg, .slice none 0 0]) :: (go, Row 28 (cl os)) :: (M6 ++ MT)))) (fun (i : Nat) (os : List (Nat × Nat)) (vT : Value) (ts : List (Nat × Nat)) (MT : List (Nat × Obj)) (w : World) => k - i) (0) (List.replicate k (0, 0)) (.slice (some ⟨gt, 0, none⟩) 0 t) ([]) ([(gt, Row 28 (List.replicate t (.complex .f64 0 0)))]) (w) (is := [0, 5, 6, 7, 8, 46, 47]) rfl rfl ?_ ?_
  · exact ⟨Nat.zero_le _, by simp, fun _ h => absurd h (Nat.not_lt_zero _), hbt0, hs⟩
  · clear hs
    intro i os vT ts MT w hI
    show W _ _ _ _ [(0, .pointer (some ⟨B, 0, none⟩)), (5, .slice (some ⟨go, 0, none⟩) k k), (6, .slice a6 k c6), (7, .int .i64 (0 : Nat)), (8, vT), (46, .int .i64 k), (47, .int .i64 i)] w
    obtain ⟨hi, hol, hL, hbT, hs⟩ := hI
    by_cases hlt : i < k
    · obtain ⟨aT, cT, rfl, _⟩ := hbT.slice
      have hb0 := Bl.reset hbT
      refine W_seq ?_
      refine W_region ?_
      first | refine L_lss rfl rfl rfl (dtrue (by omega)) ?_ | refine L_lss rfl rfl rfl (dfalse (by omega)) ?_ | refine L_lss rfl rfl rfl rfl ?_
      refine RL_then ?_
      refine W_seq ?_
      refine W_if_true rfl ?_
      refine W_skip' ?_
      refine Nx_then ?_
      refine W_seq ?_
      refine W_block ?_
      refine W_seq ?_
      refine W_region ?_
      refine L_move rfl rfl ?_
      refine L_assign rfl rfl ?_
      refine RL_then ?_
      refine W_seq ?_
      refine W_region ?_
      refine L_move rfl rfl ?_
      refine RL_val rfl (R_slice010 Try.underlying27 Try.ti28 rfl rfl (by with_reducible first | exact natc_k _ | exact natc_a1 _ | exact natc_0 | exact natc_1 | exact natc_2 | exact natc_s1 _ (by omega) | exact natc_a2 _ | exact natc_add _ _ | exact natc_mul _ _ | exact natc (by omega)) (by omega)) ?_
      refine L_assign rfl rfl ?_
      refine RL_then ?_
      refine W_seq ?_
      refine W_seq ?_
      refine W_region ?_
      refine L_assign rfl rfl ?_
      refine RL_then ?_
      refine W_block ?_
      refine W_loop5 (fun (j : Nat) (vT : Value) (ts : List (Nat × Nat)) (MT : List (Nat × Obj)) (w : World) => [(0, .pointer (some ⟨B, 0, none⟩)), (5, .slice (some ⟨go, 0, none⟩) k k), (6, .slice a6 k c6), (7, .int .i64 (0 : Nat)), (8, vT), (9, .int .i64 i), (10, .int .i64 j), (46, .int .i64 k), (47, .int .i64 i)]) (fun (j : Nat) (vT : Value) (ts : List (Nat × Nat)) (MT : List (Nat × Obj)) (w : World) => w) (fun (j : Nat) (vT : Value) (ts : List (Nat × Nat)) (MT : List (Nat × Obj)) (w : World) => (j ≤ t ∧ j ≤ i + 1) ∧ (ts.length = j) ∧ (∀ q, q < j → cn (ts.getD q (0, 0)).1 = (prodT taps zs i q).1 ∧ cn (ts.getD q (0, 0)).2 = (prodT taps zs i q).2) ∧ (Bl w0 28 1 vT j (cl ts) MT) ∧ (HS w0 w ((B, Row 52 [.slice (some ⟨g, 0, none⟩) t cg, .slice none 0 0]) :: (go, Row 28 (cl os)) :: (M6 ++ MT)))) (fun (j : Nat) (vT : Value) (ts : List (Nat × Nat)) (MT : List (Nat × Obj)) (w : World) => t + 1 - j) (0) (.slice aT 0 cT) ([]) (MT) (w) (is := [0, 5, 6, 7, 8, 9, 10, 46, 47]) rfl rfl ?_ ?_
      · exact ⟨⟨Nat.zero_le _, Nat.zero_le _⟩, rfl, fun _ h => absurd h (Nat.not_lt_zero _), hb0, hs⟩
      · clear hs hbT hb0
        intro j vT ts MT w hI
        show W _ _ _ _ [(0, .pointer (some ⟨B, 0, none⟩)), (5, .slice (some ⟨go, 0, none⟩) k k), (6, .slice a6 k c6), (7, .int .i64 (0 : Nat)), (8, vT), (9, .int .i64 i), (10, .int .i64 j), (46, .int .i64 k), (47, .int .i64 i)] w
        obtain ⟨⟨hj, hji⟩, htl, hT, hbT, hs⟩ := hI
        have hao6 : a6 = some (aD a6) := (h6 hs).ao (by rw [cl_length]; omega)
        have hij : j ≤ i → (((0 : Nat) : Int) + (i : Int) - (j : Int)) = ((i - j : Nat) : Int) := fun h => by omega
        by_cases hjt : j < t
        · by_cases hj2 : j ≤ i
          · have hij' := hij hj2
            refine W_seq ?_
            refine W_seq ?_
            refine W_region ?_
            refine L_move rfl rfl ?_
            refine L_move rfl rfl ?_
            refine L_nilCheck rfl rfl ?_
            refine L_fieldAddr rfl (off := 0) Try.underlying52 rfl rfl Try.ti27 rfl ?_
            refine L_load rfl Try.one27 rfl (by exact hs.cellA (i := 0) rfl rfl) ?_
            refine L_len rfl Try.underlying27 rfl ?_
            first | refine L_lss rfl rfl rfl (dtrue (by omega)) ?_ | refine L_lss rfl rfl rfl (dfalse (by omega)) ?_ | refine L_lss rfl rfl rfl rfl ?_
            refine L_move rfl rfl ?_
            first | (refine RL_want rfl rfl ?_; refine L_move rfl rfl ?_) | refine RL_skip rfl rfl rfl rfl ?_ | refine RL_skipU rfl rfl rfl ?_
            first | (refine RL_want rfl rfl ?_; refine L_move rfl rfl ?_) | refine RL_skip rfl rfl rfl rfl ?_ | refine RL_skipU rfl rfl rfl ?_
            first | (refine RL_want rfl rfl ?_; refine L_move rfl rfl ?_) | refine RL_skip rfl rfl rfl rfl ?_ | refine RL_skipU rfl rfl rfl ?_
            first | (refine RL_want rfl rfl ?_; (first | refine L_add rfl rfl rfl (wrp_i64 (by omega)) ?_ | refine L_add rfl rfl rfl rfl ?_)) | refine RL_skip rfl rfl rfl rfl ?_ | refine RL_skipU rfl rfl rfl ?_
            first | (refine RL_want rfl rfl ?_; (first | refine L_leq rfl rfl rfl (dtrue (by omega)) ?_ | refine L_leq rfl rfl rfl (dfalse (by omega)) ?_ | refine L_leq rfl rfl rfl rfl ?_)) | refine RL_skip rfl rfl rfl rfl ?_ | refine RL_skipU rfl rfl rfl ?_
            first | refine L_pick_t rfl rfl rfl ?_ | refine L_pick_f rfl rfl rfl ?_
            refine RL_then ?_
            refine W_if_true rfl ?_
            refine W_skip' ?_
            refine Nx_then ?_
            refine W_seq ?_
            refine W_block ?_
            refine W_pht [0, 1, 2, 3, 5, 8, 9, 10, 11, 12, 13, 14] [4, 6, 7, 15] [16, 17, 18, 19] (fun _ _ _ => False) Try.mixed (by kernel_rfl) (fun _ _ _ _ _ h => h) hs ?_
            refine PL_val rfl (fun w => R_move rfl) ?_
            refine PL_val rfl (fun w => R_move rfl) ?_
            refine PL_val rfl (fun w => R_nilCheck rfl) ?_
            refine PL_val rfl (fun w => R_fieldAddr (off := 0) Try.underlying52 rfl rfl Try.ti27 rfl) ?_
            refine PL_val rfl (fun w => R_move rfl) ?_
            refine PL_val rfl (fun w => R_move rfl) ?_
            refine PL_val rfl (fun w => R_move rfl) ?_
            refine PL_val rfl (fun w => R_move rfl) ?_
            first | refine PL_val rfl (fun w => R_add rfl rfl (wrp_i64 (by omega))) ?_ | refine PL_val rfl (fun w => R_add rfl rfl rfl) ?_
            refine PL_val rfl (fun w => R_move rfl) ?_
            first | refine PL_val rfl (fun w => R_sub rfl rfl (wrp_i64 (by omega))) ?_ | refine PL_val rfl (fun w => R_sub rfl rfl rfl) ?_
            refine PL_val rfl (fun w => R_idx1 Try.underlying27 Try.ti28 rfl rfl hij' (by omega) hao6) ?_
            refine PL_end ?_
            refine HL_val rfl (fun w hs => R_load Try.one27 rfl (by exact hs.cellA (i := 0) rfl rfl)) ?_
            refine HL_val rfl (fun w hs => R_idx1 Try.underlying27 Try.ti28 rfl rfl (by with_reducible first | exact natc_k _ | exact natc_a1 _ | exact natc_0 | exact natc_1 | exact natc_2 | exact natc_s1 _ (by omega) | exact natc_a2 _ | exact natc_add _ _ | exact natc_mul _ _ | exact natc (by omega)) (by omega) rfl) ?_
            refine HL_val rfl (fun w hs => R_load Try.one28 rfl (by exact (hold hs (Own.cons hgo (hO6.app hbT.own))).get (cl_get (by omega)))) ?_
            refine HL_val rfl (fun w hs => R_load Try.one28 rfl (by exact (h6 hs).get (cl_get (by omega)))) ?_
            refine HL_tail ?_
            intro w hs
            refine L_call rfl Try.fun18 rfl (mul_ok _ _ _ _ w) ?_
            rintro _ w1 ⟨re, im, rfl, hs', hre, him⟩
            replace hs := hs.nil hs'
            clear hs'
            refine L_buildSlice1 rfl hs Try.underlying27 Try.ti28 rfl (by decide) rfl rfl ?_
            intro b85 w hb85 hnb85 hs
            simp only [List.map_cons, List.map_nil] at hs
            try dsimp only [List.set_cons_succ, List.set_cons_zero, List.cons_append, List.nil_append] at hs
            refine L_appendT (L := (B, Row 52 [.slice (some ⟨g, 0, none⟩) t cg, .slice none 0 0]) :: (go, Row 28 (cl os)) :: M6) (M := MT) rfl Try.underlying27 Try.ti28 rfl hs (by assumption) hbT rfl rfl rfl (by simp [Value.oneCell']) (by omega) (by omega) ?_
            intro vT' w MT' hs hbT'
            rw [cl_snoc] at hbT'
            refine L_assign rfl rfl ?_
            refine RL_nil' ?_
            refine Nx_block ?_
            refine Nx_then ?_
            refine W_region ?_
            refine L_move rfl rfl ?_
            first | refine L_add rfl rfl rfl (wrp_i64 (by omega)) ?_ | refine L_add rfl rfl rfl rfl ?_
            refine L_assign rfl rfl ?_
            refine RL_nil' ?_
            refine Nx_loopP (j + 1, vT', ts ++ [(re, im)], MT', w) (is := [0, 5, 6, 7, 8, 9, 10, 46, 47]) (I' := (fun (j : Nat) (vT : Value) (ts : List (Nat × Nat)) (MT : List (Nat × Obj)) (w : World) => (j ≤ t ∧ j ≤ i + 1) ∧ (ts.length = j) ∧ (∀ q, q < j → cn (ts.getD q (0, 0)).1 = (prodT taps zs i q).1 ∧ cn (ts.getD q (0, 0)).2 = (prodT taps zs i q).2) ∧ (Bl w0 28 1 vT j (cl ts) MT) ∧ (HS w0 w ((B, Row 52 [.slice (some ⟨g, 0, none⟩) t cg, .slice none 0 0]) :: (go, Row 28 (cl os)) :: (M6 ++ MT)))) (j + 1) (vT') (ts ++ [(re, im)]) (MT') (w)) rfl rfl rfl ?_ ?_
            · refine ⟨⟨by omega, by omega⟩, by simp [htl], fun q hq => ?_, hbT', hs⟩
              rw [czsnoc htl]
              by_cases hqj : q = j
              · subst hqj
                rw [if_pos rfl]
                exact ⟨hre, him⟩
              · rw [if_neg hqj]
                exact hT q (by omega)
            · omega
          · have hje : j = i + 1 := by omega
            refine W_seq ?_
            refine W_seq ?_
            refine W_region ?_
            refine L_move rfl rfl ?_
            refine L_move rfl rfl ?_
            refine L_nilCheck rfl rfl ?_
            refine L_fieldAddr rfl (off := 0) Try.underlying52 rfl rfl Try.ti27 rfl ?_
            refine L_load rfl Try.one27 rfl (by exact hs.cellA (i := 0) rfl rfl) ?_
            refine L_len rfl Try.underlying27 rfl ?_
            first | refine L_lss rfl rfl rfl (dtrue (by omega)) ?_ | refine L_lss rfl rfl rfl (dfalse (by omega)) ?_ | refine L_lss rfl rfl rfl rfl ?_
            refine L_move rfl rfl ?_
            first | (refine RL_want rfl rfl ?_; refine L_move rfl rfl ?_) | refine RL_skip rfl rfl rfl rfl ?_ | refine RL_skipU rfl rfl rfl ?_
            first | (refine RL_want rfl rfl ?_; refine L_move rfl rfl ?_) | refine RL_skip rfl rfl rfl rfl ?_ | refine RL_skipU rfl rfl rfl ?_
            first | (refine RL_want rfl rfl ?_; refine L_move rfl rfl ?_) | refine RL_skip rfl rfl rfl rfl ?_ | refine RL_skipU rfl rfl rfl ?_
            first | (refine RL_want rfl rfl ?_; (first | refine L_add rfl rfl rfl (wrp_i64 (by omega)) ?_ | refine L_add rfl rfl rfl rfl ?_)) | refine RL_skip rfl rfl rfl rfl ?_ | refine RL_skipU rfl rfl rfl ?_
            first | (refine RL_want rfl rfl ?_; (first | refine L_leq rfl rfl rfl (dtrue (by omega)) ?_ | refine L_leq rfl rfl rfl (dfalse (by omega)) ?_ | refine L_leq rfl rfl rfl rfl ?_)) | refine RL_skip rfl rfl rfl rfl ?_ | refine RL_skipU rfl rfl rfl ?_
            first | refine L_pick_t rfl rfl rfl ?_ | refine L_pick_f rfl rfl rfl ?_
            refine RL_then ?_
            refine W_if_false rfl ?_
            refine W_exit' ?_
            refine Ex_then_exit ?_
            refine Ex_loop_exit ?_
            refine Ex_block_hit ?_
            refine Nx_then ?_
            refine W_region ?_
            refine L_move rfl rfl ?_
            refine L_move rfl rfl ?_
            refine L_move rfl rfl ?_
            obtain ⟨aT', cT', rfl, hcT'⟩ := hbT.slice
            refine L_call rfl Try.fun19 rfl (sum_ok aT' j cT' ts w (hbT.slc (L := (B, Row 52 [.slice (some ⟨g, 0, none⟩) t cg, .slice none 0 0]) :: (go, Row 28 (cl os)) :: M6) hs) htl (by omega) hcT' (by omega)) ?_
            rintro _ w1 ⟨re, im, rfl, hs', hre, him⟩
            replace hs := hs.nil hs'
            clear hs'
            refine L_idx1 rfl Try.underlying27 Try.ti28 rfl rfl (by with_reducible first | exact natc_k _ | exact natc_a1 _ | exact natc_0 | exact natc_1 | exact natc_2 | exact natc_s1 _ (by omega) | exact natc_a2 _ | exact natc_add _ _ | exact natc_mul _ _ | exact natc (by omega)) (by omega) rfl ?_
            refine L_store hs (i := 1) rfl Try.ti28 rfl rfl (by first | rfl | exact add_lit0 _ _ | exact Addr.add_lit ..) (by simp; omega) rfl ?_
            intro w hs
            try dsimp only [List.set_cons_succ, List.set_cons_zero, List.cons_append, List.nil_append] at hs
            refine RL_nil' ?_
            refine Nx_block ?_
            refine Nx_then ?_
            refine W_region ?_
            first | refine L_add rfl rfl rfl (wrp_i64 (by omega)) ?_ | refine L_add rfl rfl rfl rfl ?_
            refine L_move rfl rfl ?_
            refine RL_nil' ?_
            rw [cl_set1] at hs
            refine Nx_loopP (i + 1, os.set i (re, im), .slice aT' j cT', ts, MT, _) (is := [0, 5, 6, 7, 8, 46, 47]) (I' := (fun (i : Nat) (os : List (Nat × Nat)) (vT : Value) (ts : List (Nat × Nat)) (MT : List (Nat × Obj)) (w : World) => (i ≤ k) ∧ (os.length = k) ∧ (∀ q, q < i → LStep taps zs q (os.getD q (0, 0))) ∧ (Bl w0 28 1 vT ts.length (cl ts) MT) ∧ (HS w0 w ((B, Row 52 [.slice (some ⟨g, 0, none⟩) t cg, .slice none 0 0]) :: (go, Row 28 (cl os)) :: (M6 ++ MT)))) (i + 1) (os.set i (re, im)) (.slice aT' j cT') (ts) (MT) (_)) rfl rfl rfl ?_ ?_
            · refine ⟨by omega, by simp [hol], fun q hq => ?_, by rw [htl]; exact hbT, hs⟩
              rw [czset (by omega)]
              by_cases hqi : q = i
              · subst hqi
                rw [if_pos rfl]
                exact ⟨ts, by omega, fun p hp => hT p (by omega), by rw [htl]; exact hre, by rw [htl]; exact him⟩
              · rw [if_neg hqi]
                exact hL q (by omega)
            · omega
        · have hje : j = t := by omega
          refine W_seq ?_
          refine W_seq ?_
          refine W_region ?_
          refine L_move rfl rfl ?_
          refine L_move rfl rfl ?_
          refine L_nilCheck rfl rfl ?_
          refine L_fieldAddr rfl (off := 0) Try.underlying52 rfl rfl Try.ti27 rfl ?_
          refine L_load rfl Try.one27 rfl (by exact hs.cellA (i := 0) rfl rfl) ?_
          refine L_len rfl Try.underlying27 rfl ?_
          first | refine L_lss rfl rfl rfl (dtrue (by omega)) ?_ | refine L_lss rfl rfl rfl (dfalse (by omega)) ?_ | refine L_lss rfl rfl rfl rfl ?_
          refine L_move rfl rfl ?_
          first | (refine RL_want rfl rfl ?_; refine L_move rfl rfl ?_) | refine RL_skip rfl rfl rfl rfl ?_ | refine RL_skipU rfl rfl rfl ?_
          first | (refine RL_want rfl rfl ?_; refine L_move rfl rfl ?_) | refine RL_skip rfl rfl rfl rfl ?_ | refine RL_skipU rfl rfl rfl ?_
          first | (refine RL_want rfl rfl ?_; refine L_move rfl rfl ?_) | refine RL_skip rfl rfl rfl rfl ?_ | refine RL_skipU rfl rfl rfl ?_
          first | (refine RL_want rfl rfl ?_; (first | refine L_add rfl rfl rfl (wrp_i64 (by omega)) ?_ | refine L_add rfl rfl rfl rfl ?_)) | refine RL_skip rfl rfl rfl rfl ?_ | refine RL_skipU rfl rfl rfl ?_
          first | (refine RL_want rfl rfl ?_; (first | refine L_leq rfl rfl rfl (dtrue (by omega)) ?_ | refine L_leq rfl rfl rfl (dfalse (by omega)) ?_ | refine L_leq rfl rfl rfl rfl ?_)) | refine RL_skip rfl rfl rfl rfl ?_ | refine RL_skipU rfl rfl rfl ?_
          first | refine L_pick_t rfl rfl rfl ?_ | refine L_pick_f rfl rfl rfl ?_
          refine RL_then ?_
          refine W_if_false rfl ?_
          refine W_exit' ?_
          refine Ex_then_exit ?_
          refine Ex_loop_exit ?_
          refine Ex_block_hit ?_
          refine Nx_then ?_
          refine W_region ?_
          refine L_move rfl rfl ?_
          refine L_move rfl rfl ?_
          refine L_move rfl rfl ?_
          obtain ⟨aT', cT', rfl, hcT'⟩ := hbT.slice
          refine L_call rfl Try.fun19 rfl (sum_ok aT' j cT' ts w (hbT.slc (L := (B, Row 52 [.slice (some ⟨g, 0, none⟩) t cg, .slice none 0 0]) :: (go, Row 28 (cl os)) :: M6) hs) htl (by omega) hcT' (by omega)) ?_
          rintro _ w1 ⟨re, im, rfl, hs', hre, him⟩
          replace hs := hs.nil hs'
          clear hs'
          refine L_idx1 rfl Try.underlying27 Try.ti28 rfl rfl (by with_reducible first | exact natc_k _ | exact natc_a1 _ | exact natc_0 | exact natc_1 | exact natc_2 | exact natc_s1 _ (by omega) | exact natc_a2 _ | exact natc_add _ _ | exact natc_mul _ _ | exact natc (by omega)) (by omega) rfl ?_
          refine L_store hs (i := 1) rfl Try.ti28 rfl rfl (by first | rfl | exact add_lit0 _ _ | exact Addr.add_lit ..) (by simp; omega) rfl ?_
          intro w hs
          try dsimp only [List.set_cons_succ, List.set_cons_zero, List.cons_append, List.nil_append] at hs
          refine RL_nil' ?_
          refine Nx_block ?_
          refine Nx_then ?_
          refine W_region ?_
          first | refine L_add rfl rfl rfl (wrp_i64 (by omega)) ?_ | refine L_add rfl rfl rfl rfl ?_
          refine L_move rfl rfl ?_
          refine RL_nil' ?_
          rw [cl_set1] at hs
          refine Nx_loopP (i + 1, os.set i (re, im), .slice aT' j cT', ts, MT, _) (is := [0, 5, 6, 7, 8, 46, 47]) (I' := (fun (i : Nat) (os : List (Nat × Nat)) (vT : Value) (ts : List (Nat × Nat)) (MT : List (Nat × Obj)) (w : World) => (i ≤ k) ∧ (os.length = k) ∧ (∀ q, q < i → LStep taps zs q (os.getD q (0, 0))) ∧ (Bl w0 28 1 vT ts.length (cl ts) MT) ∧ (HS w0 w ((B, Row 52 [.slice (some ⟨g, 0, none⟩) t cg, .slice none 0 0]) :: (go, Row 28 (cl os)) :: (M6 ++ MT)))) (i + 1) (os.set i (re, im)) (.slice aT' j cT') (ts) (MT) (_)) rfl rfl rfl ?_ ?_
          · refine ⟨by omega, by simp [hol], fun q hq => ?_, by rw [htl]; exact hbT, hs⟩
            rw [czset (by omega)]
            by_cases hqi : q = i
            · subst hqi
              rw [if_pos rfl]
              exact ⟨ts, by omega, fun p hp => hT p (by omega), by rw [htl]; exact hre, by rw [htl]; exact him⟩
            · rw [if_neg hqi]
              exact hL q (by omega)
          · omega
    · obtain rfl : k = i := by omega
      obtain ⟨l, hl⟩ : ∃ l, l = k - (t - 1) := ⟨_, rfl⟩
      have hmm : (if ((k : Int) - ((t : Int) - 1)) > 0 then (k : Int) - ((t : Int) - 1) else 0) = (l : Int) := by split <;> omega
      refine W_seq ?_
      refine W_region ?_
      first | refine L_lss rfl rfl rfl (dtrue (by omega)) ?_ | refine L_lss rfl rfl rfl (dfalse (by omega)) ?_ | refine L_lss rfl rfl rfl rfl ?_
      refine RL_then ?_
      refine W_seq ?_
      refine W_if_false rfl ?_
      refine W_exit' ?_
      refine Ex_then_exit ?_
      refine Ex_loop_exit ?_
      refine Ex_block_hit ?_
      refine Nx_then ?_
      refine W_seq ?_
      refine W_region ?_
      refine L_move rfl rfl ?_
      refine L_len rfl Try.underlying27 rfl ?_
      refine L_move rfl rfl ?_
      refine L_nilCheck rfl rfl ?_
      refine L_fieldAddr rfl (off := 0) Try.underlying52 rfl rfl Try.ti27 rfl ?_
      refine L_load rfl Try.one27 rfl (by exact hs.cellA (i := 0) rfl rfl) ?_
      refine L_len rfl Try.underlying27 rfl ?_
      first | refine L_sub rfl rfl rfl (wrp_i64 (by omega)) ?_ | refine L_sub rfl rfl rfl rfl ?_
      first | refine L_sub rfl rfl rfl (wrp_i64 (by omega)) ?_ | refine L_sub rfl rfl rfl rfl ?_
      refine RL_val rfl (R_maxI rfl rfl hmm) ?_
      refine L_assign rfl rfl ?_
      refine RL_then ?_
      refine W_seq ?_
      refine W_region ?_
      refine L_move rfl rfl ?_
      refine L_move rfl rfl ?_
      refine L_move rfl rfl ?_
      refine RL_val rfl (R_slice100 (l := l) Try.underlying27 Try.ti28 rfl rfl rfl (by omega)) ?_
      skip
      have hsrc6 := SlC.drop (l := l) (c := c6) (h6 hs) (by rw [cl_length]; omega)
      refine L_appendS (L := (B, Row 52 [.slice (some ⟨g, 0, none⟩) t cg, .slice none 0 0]) :: (go, Row 28 (cl os)) :: (M6 ++ MT)) (M := []) rfl Try.underlying27 Try.ti28 rfl (by decide) (by rw [List.append_nil]; exact hs) Bl.nil rfl rfl (news := (cl zs).drop l) (by rw [List.length_drop, cl_length, hk, Nat.mul_one]) hsrc6 (fun v hv => cl_one _ v (List.mem_of_mem_drop hv)) (by omega) (by omega) ?_
      intro v7 w M7 hs hb7
      rw [List.nil_append, Nat.zero_add] at hb7
      obtain ⟨a7, c7, rfl, _⟩ := hb7.slice
      refine L_nilCheck rfl rfl ?_
      refine L_fieldAddr rfl (off := 1) Try.underlying52 rfl rfl Try.ti27 rfl ?_
      refine L_store hs (i := 0) rfl Try.ti27 rfl rfl (by first | rfl | exact add_lit0 _ _ | exact Addr.add_lit ..) (by simp) rfl ?_
      intro w hs
      try dsimp only [List.set_cons_succ, List.set_cons_zero, List.cons_append, List.nil_append] at hs
      refine RL_then ?_
      refine W_seq ?_
      refine W_region ?_
      refine L_move rfl rfl ?_
      refine L_assign rfl rfl ?_
      refine RL_then ?_
      refine W_ret' ?_
      refine Ex_done1 rfl rfl ?_
      exact ⟨_, rfl, go, os, _, (M6 ++ MT) ++ M7, rfl, hs, hgo, (hO6.app hbT.own).app (Bl.own hb7), hol, hL⟩
end Go.Proofs.Ytihhloeakenfgaa
