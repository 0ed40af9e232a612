/-
 A part of the proof: what functions that the statement reaches do, or a plain law on what they do. Each theorem holds under its own premises alone.
-/
import Derived.Test.YtoiobncojfeoiaaTHA
namespace Go.Proofs.Ytoiobncojfeoiaa
open Go Go.Lk
/-! ### The document's guard: at, of, put, In -/
section
variable {w0 w : World} {BR far : Nat} {vZ : Value} {MZ : Bks} {vK : Value} {MK : Bks} {ever : Int} {zs : List Zn} {ks : List Kn} {R : Bks}
theorem rbs_row : (BR, Row 107 [.float .f64 far, vZ, vK, .int .i64 ever]) ∈ rbs BR far vZ MZ vK MK ever zs ++ R := List.mem_append_left _ (List.mem_cons_self ..)
theorem rbs_Z {p : Nat × Obj} (h : p ∈ MZ) : p ∈ rbs BR far vZ MZ vK MK ever zs ++ R := List.mem_append_left _ (List.mem_cons_of_mem _ (List.mem_append_left _ h))
theorem rbs_K {p : Nat × Obj} (h : p ∈ MK) : p ∈ rbs BR far vZ MZ vK MK ever zs ++ R := List.mem_append_left _ (List.mem_cons_of_mem _ (List.mem_append_right _ (List.mem_append_left _ h)))
theorem rbs_z {p : Nat × Obj} {z : Zn} (hz : z ∈ zs) (h : p ∈ z.M) : p ∈ rbs BR far vZ MZ vK MK ever zs ++ R := List.mem_append_left _ (List.mem_cons_of_mem _ (List.mem_append_right _ (List.mem_append_right _ (List.mem_flatMap.2 ⟨z, hz, h⟩))))
end
theorem rat_ok (w0 w : World) (BR far : Nat) (vZ : Value) (MZ : Bks) (vK : Value) (MK : Bks) (ever : Int) (zs : List Zn) (ks : List Kn) (R : Bks) (q : Int) (hs : HS w0 w (rbs BR far vZ MZ vK MK ever zs ++ R)) (hN : ROk w0 BR vZ MZ vK MK zs ks) :
  Ret Try.prog 52 [.pointer (some ⟨BR, 0, none⟩), .int .i64 q] w fun v w' => ∃ j, v = .int .i64 j ∧ HS w0 w' (rbs BR far vZ MZ vK MK ever zs ++ R) ∧ Found (fun i => (zs.getD i zn0).num = q) zs.length j := by
 have hlen := hN.len
 have hb := hN.zones
 obtain ⟨aZ, cZ, rfl, _⟩ := hb.slice
 refine calls_of_W Try.func52 rfl rfl rfl ?_
 refine W_seq ?_
 refine W_region ?_
 refine L_assign rfl rfl ?_
 refine RL_then ?_
 refine W_seq ?_
 refine W_seq ?_
 refine W_region ?_
 refine L_assign rfl rfl ?_
 refine RL_then ?_
 refine W_block ?_
 refine W_loop2 (fun (i : Nat) (w : World) => [(0, .pointer (some ⟨BR, 0, none⟩)), (1, .int .i64 q), (5, .int .i64 i)]) (fun (i : Nat) (w : World) => w) (fun (i : Nat) (w : World) => (i ≤ zs.length) ∧ (∀ j, j < i → ¬ (zs.getD j zn0).num = q) ∧ (HS w0 w (rbs BR far (.slice aZ zs.length cZ) MZ vK MK ever zs ++ R))) (fun (i : Nat) (w : World) => zs.length - i) (0) (w) (is := [0, 1, 5]) rfl rfl ?_ ?_
 ·
  exact ⟨Nat.zero_le _, fun _ h => absurd h (Nat.not_lt_zero _), hs⟩
 ·
  clear hs
  intro i w hI
  show W _ _ _ _ [(0, .pointer (some ⟨BR, 0, none⟩)), (1, .int .i64 q), (5, .int .i64 i)] w
  obtain ⟨hi, hq, hs⟩ := hI
  have hsl := hb.slm hs (fun p hp => rbs_Z hp)
  by_cases hlt : i < zs.length
  ·
   refine W_seq ?_
   refine W_seq ?_
   refine W_region ?_
   refine L_move rfl rfl ?_
   refine L_move rfl rfl ?_
   refine L_nilCheck rfl rfl ?_
   refine L_fieldAddr rfl (off := 1) Try.underlying107 rfl rfl Try.ti104 rfl ?_
   refine L_load rfl Try.one104 rfl (by exact HS.cellM hs rbs_row rfl) ?_
   refine L_len rfl Try.underlying104 rfl ?_
   first | refine L_lss rfl rfl rfl (dtrue (by omega)) ?_ | refine L_lss rfl rfl rfl (dfalse (by omega)) ?_ | refine L_lss rfl rfl rfl rfl ?_
   refine RL_then ?_
   refine W_if_true rfl ?_
   by_cases hp : (zs.getD i zn0).num = q
   ·
    refine W_skip' ?_
    refine Nx_then ?_
    refine W_seq ?_
    refine W_block ?_
    refine W_seq ?_
    refine W_region ?_
    refine L_move rfl rfl ?_
    refine L_nilCheck rfl rfl ?_
    refine L_fieldAddr rfl (off := 1) Try.underlying107 rfl rfl Try.ti104 rfl ?_
    refine L_load rfl Try.one104 rfl (by exact HS.cellM hs rbs_row rfl) ?_
    refine L_move rfl rfl ?_
    refine L_idxN rfl Try.underlying104 Try.ti118 rfl rfl (by with_reducible first | exact natc_k _ | exact natc_a1 _ | exact natc_0 | exact natc_1 | exact natc_2 | exact natc_s1 _ (by omega) | exact natc_a2 _ | exact natc_add _ _ | exact natc_mul _ _ | exact natc (by omega)) (by omega) (hsl.ao (by rw [zcs_len]; omega)) ?_
    refine L_fieldAddr rfl (off := 0) Try.underlying118 rfl rfl Try.ti3 rfl ?_
    refine L_load rfl Try.one3 rfl (by exact zn_at hsl hlt 0 _ rfl) ?_
    refine L_move rfl rfl ?_
    first | refine L_eql rfl rfl rfl (dtrue (by omega)) ?_ | refine L_eql rfl rfl rfl (dfalse (by omega)) ?_ | refine L_eql rfl rfl rfl rfl ?_
    refine RL_then ?_
    refine W_if_true rfl ?_
    refine W_seq ?_
    refine W_region ?_
    refine L_move rfl rfl ?_
    refine L_assign rfl rfl ?_
    refine RL_then ?_
    refine W_ret' ?_
    refine Ex_block_ret ?_
    refine Ex_then_ret ?_
    refine Ex_loop_ret ?_
    refine Ex_block_ret ?_
    refine Ex_then_ret ?_
    refine Ex_done1 rfl rfl ?_
    exact ⟨_, rfl, _, rfl, hs, .inl ⟨i, hlt, rfl, hp, hq⟩⟩
   ·
    refine W_skip' ?_
    refine Nx_then ?_
    refine W_seq ?_
    refine W_block ?_
    refine W_seq ?_
    refine W_region ?_
    refine L_move rfl rfl ?_
    refine L_nilCheck rfl rfl ?_
    refine L_fieldAddr rfl (off := 1) Try.underlying107 rfl rfl Try.ti104 rfl ?_
    refine L_load rfl Try.one104 rfl (by exact HS.cellM hs rbs_row rfl) ?_
    refine L_move rfl rfl ?_
    refine L_idxN rfl Try.underlying104 Try.ti118 rfl rfl (by with_reducible first | exact natc_k _ | exact natc_a1 _ | exact natc_0 | exact natc_1 | exact natc_2 | exact natc_s1 _ (by omega) | exact natc_a2 _ | exact natc_add _ _ | exact natc_mul _ _ | exact natc (by omega)) (by omega) (hsl.ao (by rw [zcs_len]; omega)) ?_
    refine L_fieldAddr rfl (off := 0) Try.underlying118 rfl rfl Try.ti3 rfl ?_
    refine L_load rfl Try.one3 rfl (by exact zn_at hsl hlt 0 _ rfl) ?_
    refine L_move rfl rfl ?_
    first | refine L_eql rfl rfl rfl (dtrue (by omega)) ?_ | refine L_eql rfl rfl rfl (dfalse (by omega)) ?_ | refine L_eql rfl rfl rfl rfl ?_
    refine RL_then ?_
    refine W_if_false rfl ?_
    refine W_skip' ?_
    refine Nx_block ?_
    refine Nx_then ?_
    refine W_region ?_
    refine L_move rfl rfl ?_
    first | refine L_add rfl rfl rfl (wrp_i64 (by omega)) ?_ | refine L_add rfl rfl rfl rfl ?_
    refine L_assign rfl rfl ?_
    refine RL_nil' ?_
    refine Nx_loopP (i + 1, _) (is := [0, 1, 5]) (I' := (fun (i : Nat) (w : World) => (i ≤ zs.length) ∧ (∀ j, j < i → ¬ (zs.getD j zn0).num = q) ∧ (HS w0 w (rbs BR far (.slice aZ zs.length cZ) MZ vK MK ever zs ++ R))) (i + 1) (_)) rfl rfl rfl ?_ ?_
    ·
     refine ⟨by omega, fun j hj => ?_, hs⟩
     by_cases hji : j = i
     ·
      rw [hji]; exact hp
     ·
      exact hq j (by omega)
    ·
     omega
  ·
   obtain hin : i = zs.length := by omega
   refine W_seq ?_
   refine W_seq ?_
   refine W_region ?_
   refine L_move rfl rfl ?_
   refine L_move rfl rfl ?_
   refine L_nilCheck rfl rfl ?_
   refine L_fieldAddr rfl (off := 1) Try.underlying107 rfl rfl Try.ti104 rfl ?_
   refine L_load rfl Try.one104 rfl (by exact HS.cellM hs rbs_row rfl) ?_
   refine L_len rfl Try.underlying104 rfl ?_
   first | refine L_lss rfl rfl rfl (dtrue (by omega)) ?_ | refine L_lss rfl rfl rfl (dfalse (by omega)) ?_ | refine L_lss rfl rfl rfl rfl ?_
   refine RL_then ?_
   refine W_if_false rfl ?_
   refine W_exit' ?_
   refine Ex_then_exit ?_
   refine Ex_loop_exit ?_
   refine Ex_block_hit ?_
   refine Nx_then ?_
   refine W_seq ?_
   refine W_region ?_
   refine L_assign rfl rfl ?_
   refine RL_then ?_
   refine W_ret' ?_
   refine Ex_done1 rfl rfl ?_
   exact ⟨_, rfl, _, rfl, hs, .inr ⟨rfl, fun j hj => hq j (by omega)⟩⟩
/-! ### of -/
def ofK (ks : List Kn) (z id : Int) : Kn := (ks.find? fun k => decide (k.zone = z) && decide (k.id = id)).getD ⟨z, id, false, false⟩
theorem find_first {α : Type} {p : α → Bool} {l : List α} {d : α} {i : Nat} (hi : i < l.length) (hp : p (l.getD i d) = true) (h : ∀ j, j < i → ¬ p (l.getD j d) = true) : l.find? p = some (l.getD i d) := by
 have hs : l = l.take i ++ l.getD i d :: l.drop (i + 1) := by
  rw [List.getD_eq_getElem?_getD, List.getElem?_eq_getElem hi, Option.getD_some, List.getElem_cons_drop, List.take_append_drop]
 have hn : (l.take i).find? p = none := by
  rw [List.find?_eq_none]
  intro x hx
  obtain ⟨j, hj, rfl⟩ := List.getElem_of_mem hx
  rw [List.length_take] at hj
  have := h j (by omega)
  rw [List.getD_eq_getElem?_getD, List.getElem?_eq_getElem (by omega), Option.getD_some] at this
  rw [List.getElem_take]; exact this
 generalize l.getD i d = x at hs hp
 rw [hs, List.find?_append, hn, Option.none_or, List.find?_cons_of_pos hp]
theorem find_not {α : Type} {p : α → Bool} {l : List α} {d : α} (h : ∀ j, j < l.length → ¬ p (l.getD j d) = true) : l.find? p = none := by
 rw [List.find?_eq_none]
 intro x hx
 obtain ⟨j, hj, rfl⟩ := List.getElem_of_mem hx
 have := h j hj
 rw [List.getD_eq_getElem?_getD, List.getElem?_eq_getElem hj, Option.getD_some] at this
 exact this
theorem rof_ok (w0 w : World) (BR far : Nat) (vZ : Value) (MZ : Bks) (vK : Value) (MK : Bks) (ever : Int) (zs : List Zn) (ks : List Kn) (R : Bks) (z id : Int) (hs : HS w0 w (rbs BR far vZ MZ vK MK ever zs ++ R)) (hN : ROk w0 BR vZ MZ vK MK zs ks) (hkl : ks.length ≤ 1000000000) :
  Ret Try.prog 54 [.pointer (some ⟨BR, 0, none⟩), .int .i64 z, .int .i64 id] w fun v w' => v = .agg (ofK ks z id).cells.toArray ∧ HS w0 w' (rbs BR far vZ MZ vK MK ever zs ++ R) := by
 have hb := hN.known
 obtain ⟨aK, cK, rfl, _⟩ := hb.slice
 refine calls_of_W Try.func54 rfl rfl rfl ?_
 refine W_seq ?_
 refine W_region ?_
 refine L_alloc rfl hs Try.ti109 ?_; intro b6 w hb6 _ hs; replace hs := HS.push hs
 refine RL_then ?_
 refine W_seq ?_
 refine W_seq ?_
 obtain ⟨LL, hLL⟩ : ∃ LL, LL = rbs BR far vZ MZ (.slice aK ks.length cK) MK ever zs ++ R := ⟨_, rfl⟩
 have hrow : (BR, Row 107 [.float .f64 far, vZ, .slice aK ks.length cK, .int .i64 ever]) ∈ LL := by rw [hLL]; exact rbs_row
 have hKm : ∀ p ∈ MK, p ∈ LL := fun p hp => by rw [hLL]; exact rbs_K hp
 rw [← hLL] at hs
 rw [← hLL]
 replace hs : HS w0 w ((b6, Row 109 [.int .i64 0, .int .i64 0, .bool false, .bool false]) :: LL) := hs
 refine W_region ?_
 refine L_assign rfl rfl ?_
 refine RL_then ?_
 refine W_block ?_
 refine W_loop2 (fun (i : Nat) (w : World) => [(0, .pointer (some ⟨BR, 0, none⟩)), (1, .int .i64 z), (2, .int .i64 id), (6, .pointer (some ⟨b6, 0, none⟩)), (7, .int .i64 i)]) (fun (i : Nat) (w : World) => w) (fun (i : Nat) (w : World) => (i ≤ ks.length) ∧ (∀ j, j < i → ¬ (decide ((ks.getD j kn0).zone = z) && decide ((ks.getD j kn0).id = id)) = true) ∧ (HS w0 w ((b6, Row 109 [.int .i64 0, .int .i64 0, .bool false, .bool false]) :: LL))) (fun (i : Nat) (w : World) => ks.length - i) (0) (w) (is := [0, 1, 2, 6, 7]) rfl rfl ?_ ?_
 ·
  exact ⟨Nat.zero_le _, fun _ h => absurd h (Nat.not_lt_zero _), hs⟩
 ·
  clear hs
  intro i w hI
  show W _ _ _ _ [(0, .pointer (some ⟨BR, 0, none⟩)), (1, .int .i64 z), (2, .int .i64 id), (6, .pointer (some ⟨b6, 0, none⟩)), (7, .int .i64 i)] w
  obtain ⟨hi, hq, hs⟩ := hI
  have hsl := hb.slm hs (fun p hp => List.mem_cons_of_mem _ (hKm p hp))
  by_cases hlt : i < ks.length
  ·
   refine W_seq ?_
   refine W_seq ?_
   refine W_region ?_
   refine L_move rfl rfl ?_
   refine L_move rfl rfl ?_
   refine L_nilCheck rfl rfl ?_
   refine L_fieldAddr rfl (off := 2) Try.underlying107 rfl rfl Try.ti105 rfl ?_
   refine L_load rfl Try.one105 rfl (by exact HS.cellM hs (List.mem_cons_of_mem _ hrow) rfl) ?_
   refine L_len rfl Try.underlying105 rfl ?_
   first | refine L_lss rfl rfl rfl (dtrue (by omega)) ?_ | refine L_lss rfl rfl rfl (dfalse (by omega)) ?_ | refine L_lss rfl rfl rfl rfl ?_
   refine RL_then ?_
   refine W_if_true rfl ?_
   obtain ⟨k, hkd⟩ : ∃ k, k = ks.getD i kn0 := ⟨_, rfl⟩
   have hat : CellsAt w ((aD aK).add (i * 4)) k.cells := by rw [hkd]; exact kcs_at hsl hlt
   by_cases h1 : k.zone = z
   ·
    by_cases h2 : k.id = id
    ·
     have hfound : ofK ks z id = k := by
      unfold ofK
      rw [find_first (d := kn0) hlt (by rw [← hkd, decide_eq_true h1, decide_eq_true h2]; rfl) hq, ← hkd]; rfl
     refine W_skip' ?_
     refine Nx_then ?_
     refine W_seq ?_
     refine W_block ?_
     refine W_seq ?_
     refine W_region ?_
     refine L_move rfl rfl ?_
     refine L_nilCheck rfl rfl ?_
     refine L_fieldAddr rfl (off := 2) Try.underlying107 rfl rfl Try.ti105 rfl ?_
     refine L_load rfl Try.one105 rfl (by exact HS.cellM hs (List.mem_cons_of_mem _ hrow) rfl) ?_
     refine L_move rfl rfl ?_
     refine L_idxN rfl Try.underlying105 Try.ti109 rfl rfl (by with_reducible first | exact natc_k _ | exact natc_a1 _ | exact natc_0 | exact natc_1 | exact natc_2 | exact natc_s1 _ (by omega) | exact natc_a2 _ | exact natc_add _ _ | exact natc_mul _ _ | exact natc (by omega)) (by omega) (hsl.ao (by rw [kcs_len]; omega)) ?_
     refine L_fieldAddr rfl (off := 0) Try.underlying109 rfl rfl Try.ti3 rfl ?_
     refine L_load rfl Try.one3 rfl (by exact hat 0 _ rfl) ?_
     refine L_move rfl rfl ?_
     first | refine L_eql rfl rfl rfl (dtrue (by omega)) ?_ | refine L_eql rfl rfl rfl (dfalse (by omega)) ?_ | refine L_eql rfl rfl rfl rfl ?_
     refine L_move rfl rfl ?_
     first | (refine RL_want rfl rfl ?_; refine L_move rfl rfl ?_) | refine RL_skip rfl rfl rfl rfl ?_ | refine RL_skipU rfl rfl rfl ?_
     first | (refine RL_want rfl rfl ?_; refine L_nilCheck rfl rfl ?_) | refine RL_skip rfl rfl rfl rfl ?_ | refine RL_skipU rfl rfl rfl ?_
     first | (refine RL_want rfl rfl ?_; refine L_fieldAddr rfl (off := 2) Try.underlying107 rfl rfl Try.ti105 rfl ?_) | refine RL_skip rfl rfl rfl rfl ?_ | refine RL_skipU rfl rfl rfl ?_
     first | (refine RL_want rfl rfl ?_; refine L_load rfl Try.one105 rfl (by exact HS.cellM hs (List.mem_cons_of_mem _ hrow) rfl) ?_) | refine RL_skip rfl rfl rfl rfl ?_ | refine RL_skipU rfl rfl rfl ?_
     first | (refine RL_want rfl rfl ?_; refine L_move rfl rfl ?_) | refine RL_skip rfl rfl rfl rfl ?_ | refine RL_skipU rfl rfl rfl ?_
     first | (refine RL_want rfl rfl ?_; refine L_idxN rfl Try.underlying105 Try.ti109 rfl rfl (by with_reducible first | exact natc_k _ | exact natc_a1 _ | exact natc_0 | exact natc_1 | exact natc_2 | exact natc_s1 _ (by omega) | exact natc_a2 _ | exact natc_add _ _ | exact natc_mul _ _ | exact natc (by omega)) (by omega) (hsl.ao (by rw [kcs_len]; omega)) ?_) | refine RL_skip rfl rfl rfl rfl ?_ | refine RL_skipU rfl rfl rfl ?_
     first | (refine RL_want rfl rfl ?_; refine L_fieldAddr rfl (off := 1) Try.underlying109 rfl rfl Try.ti3 rfl ?_) | refine RL_skip rfl rfl rfl rfl ?_ | refine RL_skipU rfl rfl rfl ?_
     first | (refine RL_want rfl rfl ?_; refine L_load rfl Try.one3 rfl (by exact hat 1 _ rfl) ?_) | refine RL_skip rfl rfl rfl rfl ?_ | refine RL_skipU rfl rfl rfl ?_
     first | (refine RL_want rfl rfl ?_; refine L_move rfl rfl ?_) | refine RL_skip rfl rfl rfl rfl ?_ | refine RL_skipU rfl rfl rfl ?_
     first | (refine RL_want rfl rfl ?_; (first | refine L_eql rfl rfl rfl (dtrue (by omega)) ?_ | refine L_eql rfl rfl rfl (dfalse (by omega)) ?_ | refine L_eql rfl rfl rfl rfl ?_)) | refine RL_skip rfl rfl rfl rfl ?_ | refine RL_skipU rfl rfl rfl ?_
     first | refine L_pick_t rfl rfl rfl ?_ | refine L_pick_f rfl rfl rfl ?_
     refine RL_then ?_
     refine W_if_true rfl ?_
     refine W_seq ?_
     refine W_region ?_
     refine L_move rfl rfl ?_
     refine L_nilCheck rfl rfl ?_
     refine L_fieldAddr rfl (off := 2) Try.underlying107 rfl rfl Try.ti105 rfl ?_
     refine L_load rfl Try.one105 rfl (by exact HS.cellM hs (List.mem_cons_of_mem _ hrow) rfl) ?_
     refine L_move rfl rfl ?_
     refine L_idxN rfl Try.underlying105 Try.ti109 rfl rfl (by with_reducible first | exact natc_k _ | exact natc_a1 _ | exact natc_0 | exact natc_1 | exact natc_2 | exact natc_s1 _ (by omega) | exact natc_a2 _ | exact natc_add _ _ | exact natc_mul _ _ | exact natc (by omega)) (by omega) (hsl.ao (by rw [kcs_len]; omega)) ?_
     refine L_loadA rfl Try.agg109 Try.ti109 rfl (by exact hat) ?_
     refine L_storeA (vs := k.cells) (j := 0) hs (i := 0) rfl Try.ti109 rfl rfl rfl (by simp [Kn.cells]) (Kn.one k) ?_; intro w hs; replace hs : HS w0 w ((b6, Row 109 k.cells) :: LL) := hs
     refine RL_then ?_
     refine W_ret' ?_
     refine Ex_block_ret ?_
     refine Ex_then_ret ?_
     refine Ex_loop_ret ?_
     refine Ex_block_ret ?_
     refine Ex_then_ret ?_
     refine Ex_doneC rfl rfl Try.agg109 Try.ti109 (by exact cellsAt_whole (cs := k.cells) (hs.get (i := 0) rfl)) ?_
     exact ⟨_, rfl, by rw [hfound], HS.pop hs hb6⟩
    ·
     refine W_skip' ?_
     refine Nx_then ?_
     refine W_seq ?_
     refine W_block ?_
     refine W_seq ?_
     refine W_region ?_
     refine L_move rfl rfl ?_
     refine L_nilCheck rfl rfl ?_
     refine L_fieldAddr rfl (off := 2) Try.underlying107 rfl rfl Try.ti105 rfl ?_
     refine L_load rfl Try.one105 rfl (by exact HS.cellM hs (List.mem_cons_of_mem _ hrow) rfl) ?_
     refine L_move rfl rfl ?_
     refine L_idxN rfl Try.underlying105 Try.ti109 rfl rfl (by with_reducible first | exact natc_k _ | exact natc_a1 _ | exact natc_0 | exact natc_1 | exact natc_2 | exact natc_s1 _ (by omega) | exact natc_a2 _ | exact natc_add _ _ | exact natc_mul _ _ | exact natc (by omega)) (by omega) (hsl.ao (by rw [kcs_len]; omega)) ?_
     refine L_fieldAddr rfl (off := 0) Try.underlying109 rfl rfl Try.ti3 rfl ?_
     refine L_load rfl Try.one3 rfl (by exact hat 0 _ rfl) ?_
     refine L_move rfl rfl ?_
     first | refine L_eql rfl rfl rfl (dtrue (by omega)) ?_ | refine L_eql rfl rfl rfl (dfalse (by omega)) ?_ | refine L_eql rfl rfl rfl rfl ?_
     refine L_move rfl rfl ?_
     first | (refine RL_want rfl rfl ?_; refine L_move rfl rfl ?_) | refine RL_skip rfl rfl rfl rfl ?_ | refine RL_skipU rfl rfl rfl ?_
     first | (refine RL_want rfl rfl ?_; refine L_nilCheck rfl rfl ?_) | refine RL_skip rfl rfl rfl rfl ?_ | refine RL_skipU rfl rfl rfl ?_
     first | (refine RL_want rfl rfl ?_; refine L_fieldAddr rfl (off := 2) Try.underlying107 rfl rfl Try.ti105 rfl ?_) | refine RL_skip rfl rfl rfl rfl ?_ | refine RL_skipU rfl rfl rfl ?_
     first | (refine RL_want rfl rfl ?_; refine L_load rfl Try.one105 rfl (by exact HS.cellM hs (List.mem_cons_of_mem _ hrow) rfl) ?_) | refine RL_skip rfl rfl rfl rfl ?_ | refine RL_skipU rfl rfl rfl ?_
     first | (refine RL_want rfl rfl ?_; refine L_move rfl rfl ?_) | refine RL_skip rfl rfl rfl rfl ?_ | refine RL_skipU rfl rfl rfl ?_
     first | (refine RL_want rfl rfl ?_; refine L_idxN rfl Try.underlying105 Try.ti109 rfl rfl (by with_reducible first | exact natc_k _ | exact natc_a1 _ | exact natc_0 | exact natc_1 | exact natc_2 | exact natc_s1 _ (by omega) | exact natc_a2 _ | exact natc_add _ _ | exact natc_mul _ _ | exact natc (by omega)) (by omega) (hsl.ao (by rw [kcs_len]; omega)) ?_) | refine RL_skip rfl rfl rfl rfl ?_ | refine RL_skipU rfl rfl rfl ?_
     first | (refine RL_want rfl rfl ?_; refine L_fieldAddr rfl (off := 1) Try.underlying109 rfl rfl Try.ti3 rfl ?_) | refine RL_skip rfl rfl rfl rfl ?_ | refine RL_skipU rfl rfl rfl ?_
     first | (refine RL_want rfl rfl ?_; refine L_load rfl Try.one3 rfl (by exact hat 1 _ rfl) ?_) | refine RL_skip rfl rfl rfl rfl ?_ | refine RL_skipU rfl rfl rfl ?_
     first | (refine RL_want rfl rfl ?_; refine L_move rfl rfl ?_) | refine RL_skip rfl rfl rfl rfl ?_ | refine RL_skipU rfl rfl rfl ?_
     first | (refine RL_want rfl rfl ?_; (first | refine L_eql rfl rfl rfl (dtrue (by omega)) ?_ | refine L_eql rfl rfl rfl (dfalse (by omega)) ?_ | refine L_eql rfl rfl rfl rfl ?_)) | refine RL_skip rfl rfl rfl rfl ?_ | refine RL_skipU rfl rfl rfl ?_
     first | refine L_pick_t rfl rfl rfl ?_ | refine L_pick_f rfl rfl rfl ?_
     refine RL_then ?_
     refine W_if_false rfl ?_
     refine W_skip' ?_
     refine Nx_block ?_
     refine Nx_then ?_
     refine W_region ?_
     refine L_move rfl rfl ?_
     first | refine L_add rfl rfl rfl (wrp_i64 (by omega)) ?_ | refine L_add rfl rfl rfl rfl ?_
     refine L_assign rfl rfl ?_
     refine RL_nil' ?_
     refine Nx_loopP (i + 1, _) (is := [0, 1, 2, 6, 7]) (I' := (fun (i : Nat) (w : World) => (i ≤ ks.length) ∧ (∀ j, j < i → ¬ (decide ((ks.getD j kn0).zone = z) && decide ((ks.getD j kn0).id = id)) = true) ∧ (HS w0 w ((b6, Row 109 [.int .i64 0, .int .i64 0, .bool false, .bool false]) :: LL))) (i + 1) (_)) rfl rfl rfl ?_ ?_
     ·
      refine ⟨by omega, fun j hj => ?_, hs⟩
      by_cases hji : j = i
      ·
       rw [hji, ← hkd]; simp [h2]
      ·
       exact hq j (by omega)
     ·
      omega
   ·
    refine W_skip' ?_
    refine Nx_then ?_
    refine W_seq ?_
    refine W_block ?_
    refine W_seq ?_
    refine W_region ?_
    refine L_move rfl rfl ?_
    refine L_nilCheck rfl rfl ?_
    refine L_fieldAddr rfl (off := 2) Try.underlying107 rfl rfl Try.ti105 rfl ?_
    refine L_load rfl Try.one105 rfl (by exact HS.cellM hs (List.mem_cons_of_mem _ hrow) rfl) ?_
    refine L_move rfl rfl ?_
    refine L_idxN rfl Try.underlying105 Try.ti109 rfl rfl (by with_reducible first | exact natc_k _ | exact natc_a1 _ | exact natc_0 | exact natc_1 | exact natc_2 | exact natc_s1 _ (by omega) | exact natc_a2 _ | exact natc_add _ _ | exact natc_mul _ _ | exact natc (by omega)) (by omega) (hsl.ao (by rw [kcs_len]; omega)) ?_
    refine L_fieldAddr rfl (off := 0) Try.underlying109 rfl rfl Try.ti3 rfl ?_
    refine L_load rfl Try.one3 rfl (by exact hat 0 _ rfl) ?_
    refine L_move rfl rfl ?_
    first | refine L_eql rfl rfl rfl (dtrue (by omega)) ?_ | refine L_eql rfl rfl rfl (dfalse (by omega)) ?_ | refine L_eql rfl rfl rfl rfl ?_
    refine L_move rfl rfl ?_
    first | (refine RL_want rfl rfl ?_; refine L_move rfl rfl ?_) | refine RL_skip rfl rfl rfl rfl ?_ | refine RL_skipU rfl rfl rfl ?_
    first | (refine RL_want rfl rfl ?_; refine L_nilCheck rfl rfl ?_) | refine RL_skip rfl rfl rfl rfl ?_ | refine RL_skipU rfl rfl rfl ?_
    first | (refine RL_want rfl rfl ?_; refine L_fieldAddr rfl (off := 2) Try.underlying107 rfl rfl Try.ti105 rfl ?_) | refine RL_skip rfl rfl rfl rfl ?_ | refine RL_skipU rfl rfl rfl ?_
    first | (refine RL_want rfl rfl ?_; refine L_load rfl Try.one105 rfl (by exact HS.cellM hs (List.mem_cons_of_mem _ hrow) rfl) ?_) | refine RL_skip rfl rfl rfl rfl ?_ | refine RL_skipU rfl rfl rfl ?_
    first | (refine RL_want rfl rfl ?_; refine L_move rfl rfl ?_) | refine RL_skip rfl rfl rfl rfl ?_ | refine RL_skipU rfl rfl rfl ?_
    first | (refine RL_want rfl rfl ?_; refine L_idxN rfl Try.underlying105 Try.ti109 rfl rfl (by with_reducible first | exact natc_k _ | exact natc_a1 _ | exact natc_0 | exact natc_1 | exact natc_2 | exact natc_s1 _ (by omega) | exact natc_a2 _ | exact natc_add _ _ | exact natc_mul _ _ | exact natc (by omega)) (by omega) (hsl.ao (by rw [kcs_len]; omega)) ?_) | refine RL_skip rfl rfl rfl rfl ?_ | refine RL_skipU rfl rfl rfl ?_
    first | (refine RL_want rfl rfl ?_; refine L_fieldAddr rfl (off := 1) Try.underlying109 rfl rfl Try.ti3 rfl ?_) | refine RL_skip rfl rfl rfl rfl ?_ | refine RL_skipU rfl rfl rfl ?_
    first | (refine RL_want rfl rfl ?_; refine L_load rfl Try.one3 rfl (by exact hat 1 _ rfl) ?_) | refine RL_skip rfl rfl rfl rfl ?_ | refine RL_skipU rfl rfl rfl ?_
    first | (refine RL_want rfl rfl ?_; refine L_move rfl rfl ?_) | refine RL_skip rfl rfl rfl rfl ?_ | refine RL_skipU rfl rfl rfl ?_
    first | (refine RL_want rfl rfl ?_; (first | refine L_eql rfl rfl rfl (dtrue (by omega)) ?_ | refine L_eql rfl rfl rfl (dfalse (by omega)) ?_ | refine L_eql rfl rfl rfl rfl ?_)) | refine RL_skip rfl rfl rfl rfl ?_ | refine RL_skipU rfl rfl rfl ?_
    first | refine L_pick_t rfl rfl rfl ?_ | refine L_pick_f rfl rfl rfl ?_
    refine RL_then ?_
    refine W_if_false rfl ?_
    refine W_skip' ?_
    refine Nx_block ?_
    refine Nx_then ?_
    refine W_region ?_
    refine L_move rfl rfl ?_
    first | refine L_add rfl rfl rfl (wrp_i64 (by omega)) ?_ | refine L_add rfl rfl rfl rfl ?_
    refine L_assign rfl rfl ?_
    refine RL_nil' ?_
    refine Nx_loopP (i + 1, _) (is := [0, 1, 2, 6, 7]) (I' := (fun (i : Nat) (w : World) => (i ≤ ks.length) ∧ (∀ j, j < i → ¬ (decide ((ks.getD j kn0).zone = z) && decide ((ks.getD j kn0).id = id)) = true) ∧ (HS w0 w ((b6, Row 109 [.int .i64 0, .int .i64 0, .bool false, .bool false]) :: LL))) (i + 1) (_)) rfl rfl rfl ?_ ?_
    ·
     refine ⟨by omega, fun j hj => ?_, hs⟩
     by_cases hji : j = i
     ·
      rw [hji, ← hkd]; simp [h1]
     ·
      exact hq j (by omega)
    ·
     omega
  ·
   obtain hin : i = ks.length := by omega
   have hnone : ofK ks z id = ⟨z, id, false, false⟩ := by
    unfold ofK
    rw [find_not (d := kn0) fun j hj => hq j (by omega)]; rfl
   refine W_seq ?_
   refine W_seq ?_
   refine W_region ?_
   refine L_move rfl rfl ?_
   refine L_move rfl rfl ?_
   refine L_nilCheck rfl rfl ?_
   refine L_fieldAddr rfl (off := 2) Try.underlying107 rfl rfl Try.ti105 rfl ?_
   refine L_load rfl Try.one105 rfl (by exact HS.cellM hs (List.mem_cons_of_mem _ hrow) rfl) ?_
   refine L_len rfl Try.underlying105 rfl ?_
   first | refine L_lss rfl rfl rfl (dtrue (by omega)) ?_ | refine L_lss rfl rfl rfl (dfalse (by omega)) ?_ | refine L_lss rfl rfl rfl rfl ?_
   refine RL_then ?_
   refine W_if_false rfl ?_
   refine W_exit' ?_
   refine Ex_then_exit ?_
   refine Ex_loop_exit ?_
   refine Ex_block_hit ?_
   refine Nx_then ?_
   refine W_seq ?_
   refine W_region ?_
   refine L_move rfl rfl ?_
   refine L_move rfl rfl ?_
   refine L_build rfl rfl (Pl.built Try.pl109 rfl) ?_
   refine L_storeA (vs := (Kn.mk z id false false).cells) (j := 0) hs (i := 0) rfl Try.ti109 rfl rfl rfl (by simp [Kn.cells]) (Kn.one _) ?_; intro w hs; replace hs : HS w0 w ((b6, Row 109 (Kn.mk z id false false).cells) :: LL) := hs
   refine RL_then ?_
   refine W_ret' ?_
   refine Ex_doneC rfl rfl Try.agg109 Try.ti109 (by exact cellsAt_whole (cs := (Kn.mk z id false false).cells) (hs.get (i := 0) rfl)) ?_
   exact ⟨_, rfl, by rw [hnone], HS.pop hs hb6⟩
/-! ### put -/
def putL (id : Int) : List Int → List Int
 | [] => [id]
 | x :: l => if id ≤ x then id :: (if id = x then l else x :: l) else x :: putL id l
theorem putL_len (id : Int) : ∀ l : List Int, (putL id l).length ≤ l.length + 1
 | [] => by simp [putL]
 | x :: l => by
  have := putL_len id l
  unfold putL
  split
  ·
   split <;> simp
  ·
   simp only [List.length_cons]; omega
theorem putL_mem (id : Int) : ∀ (l : List Int) (y : Int), y ∈ putL id l ↔ y = id ∨ y ∈ l
 | [], y => by simp [putL]
 | x :: l, y => by
  have ih := putL_mem id l y
  unfold putL
  split
  ·
   split
   ·
    next h1 h2 => subst h2; simp
   ·
    simp
  ·
   rw [List.mem_cons, ih, List.mem_cons]
   constructor
   ·
    rintro (h | h | h) <;> simp [h]
   ·
    rintro (h | h | h) <;> simp [h]
theorem putL_lt (id : Int) : ∀ {l : List Int}, l.Pairwise (· < ·) → (putL id l).Pairwise (· < ·)
 | [], _ => by simp [putL]
 | x :: l, h => by
  rw [List.pairwise_cons] at h
  unfold putL
  split
  ·
   next h1 =>
   split
   ·
    next h2 => subst h2; exact List.pairwise_cons.2 h
   ·
    refine List.pairwise_cons.2 ⟨fun y hy => ?_, List.pairwise_cons.2 h⟩
    rcases List.mem_cons.1 hy with rfl | hy
    ·
     omega
    ·
     have := h.1 y hy; omega
  ·
   refine List.pairwise_cons.2 ⟨fun y hy => ?_, putL_lt id h.2⟩
   rcases (putL_mem id l y).1 hy with rfl | hy
   ·
    omega
   ·
    exact h.1 y hy
theorem drop_cons {l : List Int} {i : Nat} (h : i < l.length) : l.drop i = l.getD i 0 :: l.drop (i + 1) := by
 rw [List.getD_eq_getElem?_getD, List.getElem?_eq_getElem h, Option.getD_some, List.getElem_cons_drop]
theorem rput_ok (a : Option Addr) (n c : Nat) (l : List Int) (id : Int) (w0 : World) (hx : SlC w0 a (il l)) (hn : l.length = n) (hn2 : n ≤ 1000000000) :
  Ret Try.prog 53 [.slice a n c, .int .i64 id] w0 fun v w' => ∃ N, HS w0 w' N ∧ Bl w0 3 1 v (putL id l).length (il (putL id l)) N := by
 refine Ret.start fun w hs => ?_
 refine calls_of_W Try.func53 rfl rfl rfl ?_
 refine W_seq ?_
 refine W_region ?_
 refine L_assign rfl rfl ?_
 refine RL_then ?_
 refine W_seq ?_
 refine W_region ?_
 refine L_assign rfl rfl ?_
 refine RL_then ?_
 refine W_seq ?_
 refine W_region ?_
 refine L_assign rfl rfl ?_
 refine RL_then ?_
 refine W_seq ?_
 refine W_seq ?_
 refine W_region ?_
 refine L_assign rfl rfl ?_
 refine RL_then ?_
 refine W_cut5 (fun (O : List Int) (dn : Bool) (v : Value) (M : Bks) (w : World) => [(1, .int .i64 id), (5, v), (6, .bool dn)]) (fun (O : List Int) (dn : Bool) (v : Value) (M : Bks) (w : World) => w) (fun (O : List Int) (dn : Bool) (v : Value) (M : Bks) (w : World) => (O.length ≤ n + 1) ∧ (putL id l = O ++ (if dn = true then [] else [id])) ∧ (Bl w0 3 1 v O.length (il O) M) ∧ (HS w0 w M)) ?_ ?_
 ·
  refine W_block ?_
  refine W_loop6 (fun (i : Nat) (O : List Int) (dn : Bool) (v : Value) (M : Bks) (w : World) => [(0, .slice a n c), (1, .int .i64 id), (5, v), (6, .bool dn), (7, .int .i64 i)]) (fun (i : Nat) (O : List Int) (dn : Bool) (v : Value) (M : Bks) (w : World) => w) (fun (i : Nat) (O : List Int) (dn : Bool) (v : Value) (M : Bks) (w : World) => (i ≤ n) ∧ (O.length ≤ i + 1 ∧ (dn = false → O.length = i)) ∧ (putL id l = O ++ (if dn = true then l.drop i else putL id (l.drop i))) ∧ (Bl w0 3 1 v O.length (il O) M) ∧ (HS w0 w M)) (fun (i : Nat) (O : List Int) (dn : Bool) (v : Value) (M : Bks) (w : World) => n - i) (0) ([]) (false) (.slice none 0 0) ([]) (w) (is := [0, 1, 5, 6, 7]) rfl rfl ?_ ?_
  ·
   exact ⟨Nat.zero_le _, ⟨Nat.zero_le _, fun _ => rfl⟩, rfl, Bl.nil, hs⟩
  ·
   clear hs
   intro i O dn v M w hI
   show W _ _ _ _ [(0, .slice a n c), (1, .int .i64 id), (5, v), (6, .bool dn), (7, .int .i64 i)] w
   obtain ⟨hi, hol, hO, hb, hs⟩ := hI
   by_cases hlt : i < n
   ·
    have hxc : SlC w a (il l) := hx.old hs hb.own
    obtain ⟨x, hxd⟩ : ∃ x, x = l.getD i 0 := ⟨_, rfl⟩
    have hd : l.drop i = x :: l.drop (i + 1) := by rw [drop_cons (by omega), ← hxd]
    have hxg : (il l)[i]? = some (.int .i64 x) := by rw [il_get (by omega), hxd]
    cases dn
    ·
     by_cases hle : id ≤ x
     ·
      refine W_seq ?_
      refine W_seq ?_
      refine W_region ?_
      refine L_move rfl rfl ?_
      refine L_move rfl rfl ?_
      refine L_len rfl Try.underlying38 rfl ?_
      first | refine L_lss rfl rfl rfl (dtrue (by omega)) ?_ | refine L_lss rfl rfl rfl (dfalse (by omega)) ?_ | refine L_lss rfl rfl rfl rfl ?_
      refine RL_then ?_
      refine W_if_true rfl ?_
      refine W_skip' ?_
      refine Nx_then ?_
      refine W_seq ?_
      refine W_block ?_
      refine W_seq ?_
      refine W_seq ?_
      refine W_region ?_
      refine L_move rfl rfl ?_
      refine L_not rfl rfl ?_
      refine L_move rfl rfl ?_
      first | (refine RL_want rfl rfl ?_; refine L_move rfl rfl ?_) | refine RL_skip rfl rfl rfl rfl ?_ | refine RL_skipU rfl rfl rfl ?_
      first | (refine RL_want rfl rfl ?_; refine L_move rfl rfl ?_) | refine RL_skip rfl rfl rfl rfl ?_ | refine RL_skipU rfl rfl rfl ?_
      first | (refine RL_want rfl rfl ?_; refine L_move rfl rfl ?_) | refine RL_skip rfl rfl rfl rfl ?_ | refine RL_skipU rfl rfl rfl ?_
      first | (refine RL_want rfl rfl ?_; refine L_idx1 rfl Try.underlying38 Try.ti3 rfl rfl (by with_reducible first | exact natc_k _ | exact natc_a1 _ | exact natc_0 | exact natc_1 | exact natc_2 | exact natc_s1 _ (by omega) | exact natc_a2 _ | exact natc_add _ _ | exact natc_mul _ _ | exact natc (by omega)) (by omega) (hxc.ao (by rw [il_length]; omega)) ?_) | refine RL_skip rfl rfl rfl rfl ?_ | refine RL_skipU rfl rfl rfl ?_
      first | (refine RL_want rfl rfl ?_; refine L_load rfl Try.one3 rfl (by exact hxc.get hxg) ?_) | refine RL_skip rfl rfl rfl rfl ?_ | refine RL_skipU rfl rfl rfl ?_
      first | (refine RL_want rfl rfl ?_; (first | refine L_leq rfl rfl rfl (dtrue (by omega)) ?_ | refine L_leq rfl rfl rfl (dfalse (by omega)) ?_ | refine L_leq rfl rfl rfl rfl ?_)) | refine RL_skip rfl rfl rfl rfl ?_ | refine RL_skipU rfl rfl rfl ?_
      first | refine L_pick_t rfl rfl rfl ?_ | refine L_pick_f rfl rfl rfl ?_
      refine RL_then ?_
      refine W_if_true rfl ?_
      refine W_seq ?_
      refine W_region ?_
      refine L_move rfl rfl ?_
      refine L_move rfl rfl ?_
      refine L_buildSlice1 rfl hs Try.underlying38 Try.ti3 rfl (by decide) rfl rfl ?_
      intro b26 w hb26 hnb26 hs
      simp only [List.map_cons, List.map_nil] at hs
      try dsimp only [List.set_cons_succ, List.set_cons_zero, List.cons_append, List.nil_append] at hs
      have h0 : HS w0 w (([] ++ M) ++ [(b26, Row 3 (il [id]))]) := hs
      clear hs
      refine L_appendT (L := []) (M := M) rfl Try.underlying38 Try.ti3 rfl h0 hb26 hb rfl rfl rfl (by simp [il, Value.oneCell']) (by omega) (by omega) ?_
      intro v27 w M27 hs hb27
      replace hs : HS w0 w M27 := hs
      have hxc2 : SlC w a (il l) := hx.old hs hb27.own
      by_cases heq : id = x
      ·
       refine L_assign rfl rfl ?_
       refine RL_then ?_
       refine W_seq ?_
       refine W_region ?_
       refine L_assign rfl rfl ?_
       refine RL_then ?_
       refine W_seq ?_
       refine W_region ?_
       refine L_move rfl rfl ?_
       refine L_move rfl rfl ?_
       refine L_move rfl rfl ?_
       refine L_idx1 rfl Try.underlying38 Try.ti3 rfl rfl (by with_reducible first | exact natc_k _ | exact natc_a1 _ | exact natc_0 | exact natc_1 | exact natc_2 | exact natc_s1 _ (by omega) | exact natc_a2 _ | exact natc_add _ _ | exact natc_mul _ _ | exact natc (by omega)) (by omega) (hxc2.ao (by rw [il_length]; omega)) ?_
       refine L_load rfl Try.one3 rfl (by exact hxc2.get hxg) ?_
       first | refine L_eql rfl rfl rfl (dtrue (by omega)) ?_ | refine L_eql rfl rfl rfl (dfalse (by omega)) ?_ | refine L_eql rfl rfl rfl rfl ?_
       refine RL_then ?_
       refine W_if_true rfl ?_
       refine W_exit' ?_
       refine Ex_then_exit ?_
       refine Ex_block_hit ?_
       refine Nx_then ?_
       refine W_region ?_
       refine L_move rfl rfl ?_
       first | refine L_add rfl rfl rfl (wrp_i64 (by omega)) ?_ | refine L_add rfl rfl rfl rfl ?_
       refine L_assign rfl rfl ?_
       refine RL_nil' ?_
       refine Nx_loopP (i + 1, O ++ [id], true, v27, M27, _) (is := [0, 1, 5, 6, 7]) (I' := (fun (i : Nat) (O : List Int) (dn : Bool) (v : Value) (M : Bks) (w : World) => (i ≤ n) ∧ (O.length ≤ i + 1 ∧ (dn = false → O.length = i)) ∧ (putL id l = O ++ (if dn = true then l.drop i else putL id (l.drop i))) ∧ (Bl w0 3 1 v O.length (il O) M) ∧ (HS w0 w M)) (i + 1) (O ++ [id]) (true) (v27) (M27) (_)) rfl rfl rfl ?_ ?_
       ·
        refine ⟨by omega, ⟨by rw [List.length_append, List.length_singleton]; have := hol.2 rfl; omega, fun h => (by cases h)⟩, ?_, ?_, hs⟩
        ·
         rw [hO, hd]
         show O ++ putL id (x :: l.drop (i + 1)) = _
         unfold putL
         rw [if_pos hle, if_pos heq, if_pos rfl, List.append_assoc]; rfl
        ·
         rw [List.length_append, il_app]; exact hb27
       ·
        omega
      ·
       refine L_assign rfl rfl ?_
       refine RL_then ?_
       refine W_seq ?_
       refine W_region ?_
       refine L_assign rfl rfl ?_
       refine RL_then ?_
       refine W_seq ?_
       refine W_region ?_
       refine L_move rfl rfl ?_
       refine L_move rfl rfl ?_
       refine L_move rfl rfl ?_
       refine L_idx1 rfl Try.underlying38 Try.ti3 rfl rfl (by with_reducible first | exact natc_k _ | exact natc_a1 _ | exact natc_0 | exact natc_1 | exact natc_2 | exact natc_s1 _ (by omega) | exact natc_a2 _ | exact natc_add _ _ | exact natc_mul _ _ | exact natc (by omega)) (by omega) (hxc2.ao (by rw [il_length]; omega)) ?_
       refine L_load rfl Try.one3 rfl (by exact hxc2.get hxg) ?_
       first | refine L_eql rfl rfl rfl (dtrue (by omega)) ?_ | refine L_eql rfl rfl rfl (dfalse (by omega)) ?_ | refine L_eql rfl rfl rfl rfl ?_
       refine RL_then ?_
       refine W_if_false rfl ?_
       refine W_skip' ?_
       refine Nx_then ?_
       refine W_region ?_
       refine L_move rfl rfl ?_
       refine L_move rfl rfl ?_
       refine L_move rfl rfl ?_
       refine L_idx1 rfl Try.underlying38 Try.ti3 rfl rfl (by with_reducible first | exact natc_k _ | exact natc_a1 _ | exact natc_0 | exact natc_1 | exact natc_2 | exact natc_s1 _ (by omega) | exact natc_a2 _ | exact natc_add _ _ | exact natc_mul _ _ | exact natc (by omega)) (by omega) (hxc2.ao (by rw [il_length]; omega)) ?_
       refine L_load rfl Try.one3 rfl (by exact hxc2.get hxg) ?_
       refine L_buildSlice1 rfl hs Try.underlying38 Try.ti3 rfl (by decide) rfl rfl ?_
       intro b39 w hb39 hnb39 hs
       simp only [List.map_cons, List.map_nil] at hs
       try dsimp only [List.set_cons_succ, List.set_cons_zero, List.cons_append, List.nil_append] at hs
       have h0 : HS w0 w (([] ++ M27) ++ [(b39, Row 3 (il [x]))]) := hs
       clear hs
       refine L_appendT (L := []) (M := M27) rfl Try.underlying38 Try.ti3 rfl h0 hb39 hb27 rfl rfl rfl (by simp [il, Value.oneCell']) (by omega) (by omega) ?_
       intro v40 w M40 hs hb40
       replace hs : HS w0 w M40 := hs
       refine L_assign rfl rfl ?_
       refine RL_nil' ?_
       refine Nx_block ?_
       refine Nx_then ?_
       refine W_region ?_
       refine L_move rfl rfl ?_
       first | refine L_add rfl rfl rfl (wrp_i64 (by omega)) ?_ | refine L_add rfl rfl rfl rfl ?_
       refine L_assign rfl rfl ?_
       refine RL_nil' ?_
       refine Nx_loopP (i + 1, O ++ [id] ++ [x], true, v40, M40, _) (is := [0, 1, 5, 6, 7]) (I' := (fun (i : Nat) (O : List Int) (dn : Bool) (v : Value) (M : Bks) (w : World) => (i ≤ n) ∧ (O.length ≤ i + 1 ∧ (dn = false → O.length = i)) ∧ (putL id l = O ++ (if dn = true then l.drop i else putL id (l.drop i))) ∧ (Bl w0 3 1 v O.length (il O) M) ∧ (HS w0 w M)) (i + 1) (O ++ [id] ++ [x]) (true) (v40) (M40) (_)) rfl rfl rfl ?_ ?_
       ·
        refine ⟨by omega, ⟨by rw [List.length_append, List.length_append, List.length_singleton, List.length_singleton]; have := hol.2 rfl; omega, fun h => (by cases h)⟩, ?_, ?_, hs⟩
        ·
         rw [hO, hd]
         show O ++ putL id (x :: l.drop (i + 1)) = _
         unfold putL
         rw [if_pos hle, if_neg heq, if_pos rfl, List.append_assoc, List.append_assoc]; rfl
        ·
         rw [List.length_append, List.length_append, il_app, il_app]; exact hb40
       ·
        omega
     ·
      refine W_seq ?_
      refine W_seq ?_
      refine W_region ?_
      refine L_move rfl rfl ?_
      refine L_move rfl rfl ?_
      refine L_len rfl Try.underlying38 rfl ?_
      first | refine L_lss rfl rfl rfl (dtrue (by omega)) ?_ | refine L_lss rfl rfl rfl (dfalse (by omega)) ?_ | refine L_lss rfl rfl rfl rfl ?_
      refine RL_then ?_
      refine W_if_true rfl ?_
      refine W_skip' ?_
      refine Nx_then ?_
      refine W_seq ?_
      refine W_block ?_
      refine W_seq ?_
      refine W_seq ?_
      refine W_region ?_
      refine L_move rfl rfl ?_
      refine L_not rfl rfl ?_
      refine L_move rfl rfl ?_
      first | (refine RL_want rfl rfl ?_; refine L_move rfl rfl ?_) | refine RL_skip rfl rfl rfl rfl ?_ | refine RL_skipU rfl rfl rfl ?_
      first | (refine RL_want rfl rfl ?_; refine L_move rfl rfl ?_) | refine RL_skip rfl rfl rfl rfl ?_ | refine RL_skipU rfl rfl rfl ?_
      first | (refine RL_want rfl rfl ?_; refine L_move rfl rfl ?_) | refine RL_skip rfl rfl rfl rfl ?_ | refine RL_skipU rfl rfl rfl ?_
      first | (refine RL_want rfl rfl ?_; refine L_idx1 rfl Try.underlying38 Try.ti3 rfl rfl (by with_reducible first | exact natc_k _ | exact natc_a1 _ | exact natc_0 | exact natc_1 | exact natc_2 | exact natc_s1 _ (by omega) | exact natc_a2 _ | exact natc_add _ _ | exact natc_mul _ _ | exact natc (by omega)) (by omega) (hxc.ao (by rw [il_length]; omega)) ?_) | refine RL_skip rfl rfl rfl rfl ?_ | refine RL_skipU rfl rfl rfl ?_
      first | (refine RL_want rfl rfl ?_; refine L_load rfl Try.one3 rfl (by exact hxc.get hxg) ?_) | refine RL_skip rfl rfl rfl rfl ?_ | refine RL_skipU rfl rfl rfl ?_
      first | (refine RL_want rfl rfl ?_; (first | refine L_leq rfl rfl rfl (dtrue (by omega)) ?_ | refine L_leq rfl rfl rfl (dfalse (by omega)) ?_ | refine L_leq rfl rfl rfl rfl ?_)) | refine RL_skip rfl rfl rfl rfl ?_ | refine RL_skipU rfl rfl rfl ?_
      first | refine L_pick_t rfl rfl rfl ?_ | refine L_pick_f rfl rfl rfl ?_
      refine RL_then ?_
      refine W_if_false rfl ?_
      refine W_skip' ?_
      refine Nx_then ?_
      refine W_region ?_
      refine L_move rfl rfl ?_
      refine L_move rfl rfl ?_
      refine L_move rfl rfl ?_
      refine L_idx1 rfl Try.underlying38 Try.ti3 rfl rfl (by with_reducible first | exact natc_k _ | exact natc_a1 _ | exact natc_0 | exact natc_1 | exact natc_2 | exact natc_s1 _ (by omega) | exact natc_a2 _ | exact natc_add _ _ | exact natc_mul _ _ | exact natc (by omega)) (by omega) (hxc.ao (by rw [il_length]; omega)) ?_
      refine L_load rfl Try.one3 rfl (by exact hxc.get hxg) ?_
      refine L_buildSlice1 rfl hs Try.underlying38 Try.ti3 rfl (by decide) rfl rfl ?_
      intro b39 w hb39 hnb39 hs
      simp only [List.map_cons, List.map_nil] at hs
      try dsimp only [List.set_cons_succ, List.set_cons_zero, List.cons_append, List.nil_append] at hs
      have h0 : HS w0 w (([] ++ M) ++ [(b39, Row 3 (il [x]))]) := hs
      clear hs
      refine L_appendT (L := []) (M := M) rfl Try.underlying38 Try.ti3 rfl h0 hb39 hb rfl rfl rfl (by simp [il, Value.oneCell']) (by omega) (by omega) ?_
      intro v40 w M40 hs hb40
      replace hs : HS w0 w M40 := hs
      refine L_assign rfl rfl ?_
      refine RL_nil' ?_
      refine Nx_block ?_
      refine Nx_then ?_
      refine W_region ?_
      refine L_move rfl rfl ?_
      first | refine L_add rfl rfl rfl (wrp_i64 (by omega)) ?_ | refine L_add rfl rfl rfl rfl ?_
      refine L_assign rfl rfl ?_
      refine RL_nil' ?_
      refine Nx_loopP (i + 1, O ++ [x], false, v40, M40, _) (is := [0, 1, 5, 6, 7]) (I' := (fun (i : Nat) (O : List Int) (dn : Bool) (v : Value) (M : Bks) (w : World) => (i ≤ n) ∧ (O.length ≤ i + 1 ∧ (dn = false → O.length = i)) ∧ (putL id l = O ++ (if dn = true then l.drop i else putL id (l.drop i))) ∧ (Bl w0 3 1 v O.length (il O) M) ∧ (HS w0 w M)) (i + 1) (O ++ [x]) (false) (v40) (M40) (_)) rfl rfl rfl ?_ ?_
      ·
       refine ⟨by omega, ⟨by rw [List.length_append, List.length_singleton]; have := hol.2 rfl; omega, fun _ => by rw [List.length_append, List.length_singleton]; have := hol.2 rfl; omega⟩, ?_, ?_, hs⟩
       ·
        rw [hO, hd]
        show O ++ putL id (x :: l.drop (i + 1)) = (O ++ [x]) ++ putL id (l.drop (i + 1))
        rw [show putL id (x :: l.drop (i + 1)) = x :: putL id (l.drop (i + 1)) by rw [putL, if_neg hle], List.append_assoc]; rfl
       ·
        rw [List.length_append, il_app]; exact hb40
      ·
       omega
    ·
     skip
     refine W_seq ?_
     refine W_seq ?_
     refine W_region ?_
     refine L_move rfl rfl ?_
     refine L_move rfl rfl ?_
     refine L_len rfl Try.underlying38 rfl ?_
     first | refine L_lss rfl rfl rfl (dtrue (by omega)) ?_ | refine L_lss rfl rfl rfl (dfalse (by omega)) ?_ | refine L_lss rfl rfl rfl rfl ?_
     refine RL_then ?_
     refine W_if_true rfl ?_
     refine W_skip' ?_
     refine Nx_then ?_
     refine W_seq ?_
     refine W_block ?_
     refine W_seq ?_
     refine W_seq ?_
     refine W_region ?_
     refine L_move rfl rfl ?_
     refine L_not rfl rfl ?_
     refine L_move rfl rfl ?_
     first | (refine RL_want rfl rfl ?_; refine L_move rfl rfl ?_) | refine RL_skip rfl rfl rfl rfl ?_ | refine RL_skipU rfl rfl rfl ?_
     first | (refine RL_want rfl rfl ?_; refine L_move rfl rfl ?_) | refine RL_skip rfl rfl rfl rfl ?_ | refine RL_skipU rfl rfl rfl ?_
     first | (refine RL_want rfl rfl ?_; refine L_move rfl rfl ?_) | refine RL_skip rfl rfl rfl rfl ?_ | refine RL_skipU rfl rfl rfl ?_
     first | (refine RL_want rfl rfl ?_; refine L_idx1 rfl Try.underlying38 Try.ti3 rfl rfl (by with_reducible first | exact natc_k _ | exact natc_a1 _ | exact natc_0 | exact natc_1 | exact natc_2 | exact natc_s1 _ (by omega) | exact natc_a2 _ | exact natc_add _ _ | exact natc_mul _ _ | exact natc (by omega)) (by omega) (hxc.ao (by rw [il_length]; omega)) ?_) | refine RL_skip rfl rfl rfl rfl ?_ | refine RL_skipU rfl rfl rfl ?_
     first | (refine RL_want rfl rfl ?_; refine L_load rfl Try.one3 rfl (by exact hxc.get hxg) ?_) | refine RL_skip rfl rfl rfl rfl ?_ | refine RL_skipU rfl rfl rfl ?_
     first | (refine RL_want rfl rfl ?_; (first | refine L_leq rfl rfl rfl (dtrue (by omega)) ?_ | refine L_leq rfl rfl rfl (dfalse (by omega)) ?_ | refine L_leq rfl rfl rfl rfl ?_)) | refine RL_skip rfl rfl rfl rfl ?_ | refine RL_skipU rfl rfl rfl ?_
     first | refine L_pick_t rfl rfl rfl ?_ | refine L_pick_f rfl rfl rfl ?_
     refine RL_then ?_
     refine W_if_false rfl ?_
     refine W_skip' ?_
     refine Nx_then ?_
     refine W_region ?_
     refine L_move rfl rfl ?_
     refine L_move rfl rfl ?_
     refine L_move rfl rfl ?_
     refine L_idx1 rfl Try.underlying38 Try.ti3 rfl rfl (by with_reducible first | exact natc_k _ | exact natc_a1 _ | exact natc_0 | exact natc_1 | exact natc_2 | exact natc_s1 _ (by omega) | exact natc_a2 _ | exact natc_add _ _ | exact natc_mul _ _ | exact natc (by omega)) (by omega) (hxc.ao (by rw [il_length]; omega)) ?_
     refine L_load rfl Try.one3 rfl (by exact hxc.get hxg) ?_
     refine L_buildSlice1 rfl hs Try.underlying38 Try.ti3 rfl (by decide) rfl rfl ?_
     intro b39 w hb39 hnb39 hs
     simp only [List.map_cons, List.map_nil] at hs
     try dsimp only [List.set_cons_succ, List.set_cons_zero, List.cons_append, List.nil_append] at hs
     have h0 : HS w0 w (([] ++ M) ++ [(b39, Row 3 (il [x]))]) := hs
     clear hs
     refine L_appendT (L := []) (M := M) rfl Try.underlying38 Try.ti3 rfl h0 hb39 hb rfl rfl rfl (by simp [il, Value.oneCell']) (by omega) (by omega) ?_
     intro v40 w M40 hs hb40
     replace hs : HS w0 w M40 := hs
     refine L_assign rfl rfl ?_
     refine RL_nil' ?_
     refine Nx_block ?_
     refine Nx_then ?_
     refine W_region ?_
     refine L_move rfl rfl ?_
     first | refine L_add rfl rfl rfl (wrp_i64 (by omega)) ?_ | refine L_add rfl rfl rfl rfl ?_
     refine L_assign rfl rfl ?_
     refine RL_nil' ?_
     refine Nx_loopP (i + 1, O ++ [x], true, v40, M40, _) (is := [0, 1, 5, 6, 7]) (I' := (fun (i : Nat) (O : List Int) (dn : Bool) (v : Value) (M : Bks) (w : World) => (i ≤ n) ∧ (O.length ≤ i + 1 ∧ (dn = false → O.length = i)) ∧ (putL id l = O ++ (if dn = true then l.drop i else putL id (l.drop i))) ∧ (Bl w0 3 1 v O.length (il O) M) ∧ (HS w0 w M)) (i + 1) (O ++ [x]) (true) (v40) (M40) (_)) rfl rfl rfl ?_ ?_
     ·
      refine ⟨by omega, ⟨by rw [List.length_append, List.length_singleton]; omega, fun h => (by cases h)⟩, ?_, ?_, hs⟩
      ·
       rw [hO, if_pos rfl, if_pos rfl, hd, List.append_assoc]; rfl
      ·
       rw [List.length_append, il_app]; exact hb40
     ·
      omega
   ·
    obtain hin : i = n := by omega
    have hd : l.drop i = [] := List.drop_eq_nil_of_le (by omega)
    rw [hd] at hO
    refine W_seq ?_
    refine W_seq ?_
    refine W_region ?_
    refine L_move rfl rfl ?_
    refine L_move rfl rfl ?_
    refine L_len rfl Try.underlying38 rfl ?_
    first | refine L_lss rfl rfl rfl (dtrue (by omega)) ?_ | refine L_lss rfl rfl rfl (dfalse (by omega)) ?_ | refine L_lss rfl rfl rfl rfl ?_
    refine RL_then ?_
    refine W_if_false rfl ?_
    refine W_exit' ?_
    refine Ex_then_exit ?_
    refine Ex_loop_exit ?_
    refine Ex_block_hit ?_
    refine Nx_cutP (O, dn, v, M, w) (is := [1, 5, 6]) (I' := (fun (O : List Int) (dn : Bool) (v : Value) (M : Bks) (w : World) => (O.length ≤ n + 1) ∧ (putL id l = O ++ (if dn = true then [] else [id])) ∧ (Bl w0 3 1 v O.length (il O) M) ∧ (HS w0 w M)) (O) (dn) (v) (M) (w)) rfl rfl rfl ?_
    exact ⟨by omega, by rw [hO]; cases dn <;> rfl, hb, hs⟩
 ·
  clear hs
  intro O dn v M w hI
  show W _ _ _ _ [(1, .int .i64 id), (5, v), (6, .bool dn)] w
  obtain ⟨hol, hO, hb, hs⟩ := hI
  cases dn
  ·
   skip
   refine W_seq ?_
   refine W_seq ?_
   refine W_region ?_
   refine L_move rfl rfl ?_
   refine L_not rfl rfl ?_
   refine RL_then ?_
   refine W_if_true rfl ?_
   refine W_region ?_
   refine L_move rfl rfl ?_
   refine L_move rfl rfl ?_
   refine L_buildSlice1 rfl hs Try.underlying38 Try.ti3 rfl (by decide) rfl rfl ?_
   intro b45 w hb45 hnb45 hs
   simp only [List.map_cons, List.map_nil] at hs
   try dsimp only [List.set_cons_succ, List.set_cons_zero, List.cons_append, List.nil_append] at hs
   have h0 : HS w0 w (([] ++ M) ++ [(b45, Row 3 (il [id]))]) := hs
   clear hs
   refine L_appendT (L := []) (M := M) rfl Try.underlying38 Try.ti3 rfl h0 hb45 hb rfl rfl rfl (by simp [il, Value.oneCell']) (by omega) (by omega) ?_
   intro v46 w M46 hs hb46
   replace hs : HS w0 w M46 := hs
   refine L_assign rfl rfl ?_
   refine RL_then ?_
   refine W_seq ?_
   refine W_region ?_
   refine L_move rfl rfl ?_
   refine L_assign rfl rfl ?_
   refine RL_then ?_
   refine W_ret' ?_
   refine Ex_done1 rfl rfl ?_
   exact ⟨_, rfl, M46, hs, by rw [hO, List.length_append, il_app]; exact hb46⟩
  ·
   refine W_seq ?_
   refine W_seq ?_
   refine W_region ?_
   refine L_move rfl rfl ?_
   refine L_not rfl rfl ?_
   refine RL_then ?_
   refine W_if_false rfl ?_
   refine W_skip' ?_
   refine Nx_then ?_
   refine W_seq ?_
   refine W_region ?_
   refine L_move rfl rfl ?_
   refine L_assign rfl rfl ?_
   refine RL_then ?_
   refine W_ret' ?_
   refine Ex_done1 rfl rfl ?_
   exact ⟨_, rfl, M, hs, by rw [hO, if_pos rfl, List.append_nil]; exact hb⟩
end Go.Proofs.Ytoiobncojfeoiaa
