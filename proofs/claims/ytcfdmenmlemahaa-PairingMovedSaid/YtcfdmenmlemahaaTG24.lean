/-
  A part of the proof: what functions that the statement reaches do, or a plain law on what they do. Each theorem holds under its own premises alone.
-/
import Derived.Test.YtcfdmenmlemahaaTG23
namespace Go.Proofs.Ytcfdmenmlemahaa
open Go Go.Lk Go.Pr
theorem best_any (whole : Bool) (a : Option Addr) (k cp : Nat) (rows : List (List Int)) (rvs : List Value) (V0 : World) (hr : RowsI V0 a rows rvs) (hk : rows.length = k) (hF : FineB rows 5 5) :
    Ret Try.prog 11 [.slice a k cp, .bool whole] V0 fun v w' => ∃ B c0 c1 c2 la lc, v = .pointer (some ⟨B, 0, none⟩) ∧ HS V0 w' [] ∧
      w'.heap[B]? = some (Row 33 [c0, c1, c2, .bool (bestF rows (wid rows 0) whole).found, .int .i64 (bestF rows (wid rows 0) whole).P, .int .i64 (bestF rows (wid rows 0) whole).T, .slice la (bestF rows (wid rows 0) whole).L.length lc]) ∧ SlC w' la (il (bestF rows (wid rows 0) whole).L) := by
  have hk5 := hF.len
  by_cases hk0 : k = 0
  · subst hk0
    have hrows : rows = [] := List.eq_nil_of_length_eq_zero hk
    refine Calls.mono (best_none whole a cp V0) fun e w' hR => ?_
    obtain ⟨v, rfl, B, gM, lv, N, rfl, hs, hO, hb⟩ := hR
    obtain ⟨la, lc, rfl, _⟩ := hb.slice
    have e : bestF rows (wid rows 0) whole = { mate := [], found := true, P := 0, T := 0, L := [] } := by rw [hrows]; rfl
    rw [e]
    exact ⟨_, rfl, B, _, _, _, la, lc, rfl, hs.forget hO, hs.get (i := 1) rfl, hb.slc hs⟩
  · refine Calls.mono (best_pos whole a k cp (wid rows 0) rows rvs V0 hr hk (by omega) (by omega) (hF.wide 0 (by omega)) (fun i hi => hF.same i (by omega)) (fun i j hi hj => hF.cost i j (by omega) (by rw [hF.same i (by omega)]; exact hj))) fun e w' hR => ?_
    obtain ⟨v, rfl, B, gU, gM, lv, us, N, rfl, hs, hO, hb⟩ := hR
    obtain ⟨la, lc, rfl, _⟩ := hb.slice
    exact ⟨_, rfl, B, _, _, _, la, lc, rfl, hs.forget hO, hs.get (i := 2) rfl, hb.slc hs⟩
section
variable {rows : List (List Int)} {n : Nat}
theorem pre0 (whole : Bool) : Pre rows n whole rows.length 0 (List.replicate n false) (st0 rows.length) := by
  refine ⟨by simp [st0], ⟨fun q hq => absurd hq (Nat.not_lt_zero _), fun q _ hq => absurd hq (Nat.not_lt_zero _)⟩, by simp, fun j hj => ⟨fun h => ?_, fun ⟨q, hq, _⟩ => absurd hq (Nat.not_lt_zero _)⟩⟩
  rw [grep hj] at h; cases h
theorem best_top (whole : Bool) {A : List Int} (hT : Top rows n whole rows.length A) : Is rows rows.length A (bestF rows n whole) :=
  (try_inv (A := A) rows.length 0 (by omega) (pre0 whole) (.inl rfl)).2.2.2.1 hT (.inr fun q hq => absurd hq (Nat.not_lt_zero _))
theorem best_no (whole : Bool) (h : ∀ M, ¬Val rows n whole M rows.length) : (bestF rows n whole).found = false := by
  rcases (try_inv (A := []) rows.length 0 (by omega) (pre0 (rows := rows) (n := n) whole) (.inl rfl)).2.2.1 with h1 | h1
  · exact h1
  · exact absurd h1.2.1 (h _)
theorem least_top (hF : Fine rows) {ms : List Int} {t e : Int} (h : LeastAns rows ms t e) (he : e = 0) : Top rows (wid rows 0) true rows.length ms ∧ t = cos rows ms rows.length := by
  have hc := chk_fine hF
  rcases h with ⟨h1 | h1, rfl, rfl, _⟩ | ⟨_, _, _, _, _, h1⟩ | ⟨_, _, hk, g, hg, ⟨_, _, _, h1⟩ | ⟨hp, hms, ht, _⟩⟩
  · exact absurd hc h1
  · refine ⟨⟨by simp [h1], ⟨fun q hq => by omega, fun q _ hq => by omega⟩, fun M hM _ hne => absurd (List.eq_nil_of_length_eq_zero (by omega)) hne⟩, by rw [h1]; rfl⟩
  · omega
  · omega
  · obtain ⟨h1, _, h3⟩ := top_least hk hg hp hms
    exact ⟨h1, by rw [ht, h3]⟩
theorem least_170 (hF : Fine rows) {ms : List Int} {t e : Int} (h : LeastAns rows ms t e) (he : e = 170) : ms = [] ∧ t = 0 := by
  have hc := chk_fine hF
  rcases h with ⟨_, h1, h2, _⟩ | ⟨_, _, _, h1, h2, _⟩ | ⟨_, _, hk, g, hg, ⟨_, h1, h2, _⟩ | ⟨_, _, _, h1⟩⟩
  · exact ⟨h1, h2⟩
  · exact ⟨h1, h2⟩
  · exact ⟨h1, h2⟩
  · omega
end
set_option maxHeartbeats 1000000 in
theorem least_law (a : Option Addr) (k cp : Nat) (rows : List (List Int)) (rvs : List Value) (w0 : World) (hr : RowsI w0 a rows rvs) (hk : rows.length = k) (hk63 : k ≤ 17592186043904) :
    Ret Try.prog 3 [.slice a k cp] w0 fun v w' => v = .bool true ∧ HS w0 w' [] := by
  refine Ret.start fun w hs => ?_
  have hrl := hr.len
  refine calls_of_W Try.func3 rfl rfl rfl ?_
  refine W_seq ?_
  refine W_region ?_
  refine L_assign rfl rfl ?_
  refine RL_then ?_
  refine W_seq ?_
  refine W_seq ?_
  refine W_region ?_
  refine L_call rfl Try.fun8 rfl (works_ok w) ?_
  rintro _ w1 ⟨rfl, hs'⟩
  replace hs := hs.nil hs'
  clear hs'
  refine L_not rfl rfl ?_
  refine L_move rfl rfl ?_
  first | (refine RL_want rfl rfl ?_; refine L_move rfl rfl ?_) | refine RL_skip rfl rfl rfl rfl ?_ | refine RL_skipU rfl rfl rfl ?_
  refine RL_want rfl rfl ?_
  refine L_call rfl Try.fun9 rfl (fine_ok a k cp 5 5 rows rvs w1 (hr.old hs Own.nil) hk hk63) ?_
  rintro _ w2 ⟨b, rfl, hs', hfb⟩
  replace hs := hs.nil hs'
  clear hs'
  cases b
  · first | (refine RL_want rfl rfl ?_; refine L_not rfl rfl ?_) | refine RL_skip rfl rfl rfl rfl ?_ | refine RL_skipU rfl rfl rfl ?_
    first | refine L_pick_t rfl rfl rfl ?_ | refine L_pick_f rfl rfl rfl ?_
    refine RL_then ?_
    refine W_if_true rfl ?_
    refine W_seq ?_
    refine W_region ?_
    refine L_call rfl Try.fun8 rfl (works_ok w2) ?_
    rintro _ w3 ⟨rfl, hs'⟩
    replace hs := hs.nil hs'
    refine L_assign rfl rfl ?_
    refine RL_then ?_
    refine W_ret' ?_
    refine Ex_then_ret ?_
    refine Ex_done1 rfl rfl ?_
    exact ⟨_, rfl, rfl, hs⟩
  · have hFB := hfb.1 rfl
    have hF := hFB.fine (by omega) (by omega)
    clear hfb
    first | (refine RL_want rfl rfl ?_; refine L_not rfl rfl ?_) | refine RL_skip rfl rfl rfl rfl ?_ | refine RL_skipU rfl rfl rfl ?_
    first | refine L_pick_t rfl rfl rfl ?_ | refine L_pick_f rfl rfl rfl ?_
    refine RL_then ?_
    refine W_if_false rfl ?_
    refine W_skip' ?_
    refine Nx_then ?_
    refine W_seq ?_
    refine W_region ?_
    refine L_move rfl rfl ?_
    refine L_call rfl Try.fun10 rfl (least_ok a k cp rows rvs w2 (hr.old hs Own.nil) hk hk63) ?_
    rintro _ w3 ⟨v1, N1, ms, t, e, rfl, hs1, hbl1, hans1⟩
    obtain ⟨qm, cm, rfl, _⟩ := hbl1.slice
    have hslm : SlC w3 qm (il ms) := hbl1.slc (L := []) hs1
    replace hs := hs.nil (hs1.forget hbl1.own)
    clear hs1 hbl1
    refine L_move rfl rfl ?_
    refine L_extract rfl rfl rfl ?_
    refine L_extract rfl rfl rfl ?_
    refine L_extract rfl rfl rfl ?_
    refine L_assign rfl rfl ?_
    refine L_assign rfl rfl ?_
    refine L_assign rfl rfl ?_
    refine RL_then ?_
    refine W_seq ?_
    refine W_region ?_
    refine L_move rfl rfl ?_
    refine L_call rfl Try.fun11 rfl (best_any true a k cp rows rvs w3 (hr.old hs Own.nil) hk hFB) ?_
    rintro _ w4 ⟨B1, c0, c1, c2, la, lc, rfl, hs1, hbox1, hsll1⟩
    replace hslm := hslm.old hs1 Own.nil
    replace hs := hs.nil hs1
    clear hs1
    obtain ⟨F1, hF1⟩ : ∃ F1, F1 = bestF rows (wid rows 0) true := ⟨_, rfl⟩
    rw [← hF1] at hbox1 hsll1
    have hml : ms.length ≤ k := by
      rcases hans1 with ⟨_, h1, _⟩ | ⟨_, _, _, h1, _⟩ | ⟨_, _, _, g, _, ⟨_, h1, _⟩ | ⟨_, h1, _⟩⟩ <;> rw [h1] <;> simp [hk]
    have hbase := hs
    clear hs
    have hs := HS.refl w4
    have hbc : ∀ {w : World}, HS w4 w [] → ∀ {j : Nat} {v : Value}, [c0, c1, c2, .bool F1.found, .int .i64 F1.P, .int .i64 F1.T, .slice la F1.L.length lc][j]? = some v → w.cell? ((Addr.mk B1 0 none).add j) = some v := by
      intro w hs j v hv
      rw [add_lit0]
      exact hs.oldcell (Lk.cell_of_row hbox1 hv) (by simp)
    refine L_assign rfl rfl ?_
    refine RL_then ?_
    refine W_seq ?_
    refine W_seq ?_
    refine W_region ?_
    refine L_move rfl rfl ?_
    refine L_nilCheck rfl rfl ?_
    refine L_fieldAddr rfl (off := 3) Try.underlying33 rfl rfl Try.ti4 rfl ?_
    refine L_load rfl Try.one4 rfl (by exact hbc hs rfl) ?_
    refine L_not rfl rfl ?_
    refine RL_then ?_
    refine W_cut1 (fun (w : World) => [(0, .slice a k cp)]) (fun (w : World) => w) (fun (w : World) => (HS w4 w [])) ?_ ?_
    · have her : e = 0 ∨ e = 170 := by
        have hc := chk_fine hF
        rcases hans1 with ⟨_, _, _, h5⟩ | ⟨_, _, _, _, _, h5⟩ | ⟨_, _, _, g, _, ⟨_, _, _, h5⟩ | ⟨_, _, _, h5⟩⟩
        · exact .inl (by rw [h5, hc])
        · exact .inr h5
        · exact .inr h5
        · exact .inl h5
      rcases her with he | he
      · obtain ⟨hTop, ht⟩ := least_top hF hans1 he
        obtain ⟨i1, i2, i3, i4⟩ := best_top true hTop
        have i1' : F1.found = true := by rw [hF1]; exact i1
        have i2' : F1.L = ms := by rw [hF1]; exact i2
        have i4' : F1.T = t := by rw [hF1, ht]; exact i4
        refine W_set 31 (v' := .bool false) rfl (by rw [i1']; rfl) ?_
        refine W_if_false rfl ?_
        rw [he]
        refine W_seq ?_
        refine W_region ?_
        refine L_move rfl rfl ?_
        first | refine L_neq rfl rfl rfl (dtrue (by omega)) ?_ | refine L_neq rfl rfl rfl (dfalse (by omega)) ?_ | refine L_neq rfl rfl rfl rfl ?_
        refine L_move rfl rfl ?_
        first | (refine RL_want rfl rfl ?_; refine L_move rfl rfl ?_) | refine RL_skip rfl rfl rfl rfl ?_ | refine RL_skipU rfl rfl rfl ?_
        first | (refine RL_want rfl rfl ?_; refine L_move rfl rfl ?_) | refine RL_skip rfl rfl rfl rfl ?_ | refine RL_skipU rfl rfl rfl ?_
        first | (refine RL_want rfl rfl ?_; refine L_nilCheck rfl rfl ?_) | refine RL_skip rfl rfl rfl rfl ?_ | refine RL_skipU rfl rfl rfl ?_
        first | (refine RL_want rfl rfl ?_; refine L_fieldAddr rfl (off := 5) Try.underlying33 rfl rfl Try.ti2 rfl ?_) | refine RL_skip rfl rfl rfl rfl ?_ | refine RL_skipU rfl rfl rfl ?_
        first | (refine RL_want rfl rfl ?_; refine L_load rfl Try.one2 rfl (by exact hbc hs rfl) ?_) | refine RL_skip rfl rfl rfl rfl ?_ | refine RL_skipU rfl rfl rfl ?_
        first | (refine RL_want rfl rfl ?_; (first | refine L_neq rfl rfl rfl (dtrue (by omega)) ?_ | refine L_neq rfl rfl rfl (dfalse (by omega)) ?_ | refine L_neq rfl rfl rfl rfl ?_)) | refine RL_skip rfl rfl rfl rfl ?_ | refine RL_skipU rfl rfl rfl ?_
        first | refine L_pick_t rfl rfl rfl ?_ | refine L_pick_f rfl rfl rfl ?_
        refine L_move rfl rfl ?_
        first | (refine RL_want rfl rfl ?_; refine L_move rfl rfl ?_) | refine RL_skip rfl rfl rfl rfl ?_ | refine RL_skipU rfl rfl rfl ?_
        first | (refine RL_want rfl rfl ?_; refine L_move rfl rfl ?_) | refine RL_skip rfl rfl rfl rfl ?_ | refine RL_skipU rfl rfl rfl ?_
        first | (refine RL_want rfl rfl ?_; refine L_nilCheck rfl rfl ?_) | refine RL_skip rfl rfl rfl rfl ?_ | refine RL_skipU rfl rfl rfl ?_
        first | (refine RL_want rfl rfl ?_; refine L_fieldAddr rfl (off := 6) Try.underlying33 rfl rfl Try.ti25 rfl ?_) | refine RL_skip rfl rfl rfl rfl ?_ | refine RL_skipU rfl rfl rfl ?_
        first | (refine RL_want rfl rfl ?_; refine L_load rfl Try.one25 rfl (by exact hbc hs rfl) ?_) | refine RL_skip rfl rfl rfl rfl ?_ | refine RL_skipU rfl rfl rfl ?_
        refine RL_want rfl rfl ?_
        refine L_call rfl Try.fun12 rfl (same_ok qm la ms.length F1.L.length cm lc ms F1.L _ (hslm.old hs Own.nil) (hsll1.old hs Own.nil) rfl rfl (by omega)) ?_
        rintro _ w' ⟨rfl, hs'⟩
        replace hs := hs.nil hs'
        rw [decide_eq_true i2'.symm]
        first | (refine RL_want rfl rfl ?_; refine L_not rfl rfl ?_) | refine RL_skip rfl rfl rfl rfl ?_ | refine RL_skipU rfl rfl rfl ?_
        first | refine L_pick_t rfl rfl rfl ?_ | refine L_pick_f rfl rfl rfl ?_
        refine RL_then ?_
        refine W_if_false rfl ?_
        refine W_skip' ?_
        refine Nx_cutP (_) (is := [0]) (I' := (fun (w : World) => (HS w4 w [])) (_)) rfl rfl rfl ?_
        exact hs
      · have hno := best_no (rows := rows) (n := wid rows 0) true (none_least hF rfl hans1 he)
        have i1' : F1.found = false := by rw [hF1]; exact hno
        obtain ⟨hm0, ht0⟩ := least_170 hF hans1 he
        have hm1 : ms.length = 0 := by rw [hm0]; rfl
        refine W_set 31 (v' := .bool true) rfl (by rw [i1']; rfl) ?_
        refine W_if_true rfl ?_
        rw [he, ht0]
        refine W_seq ?_
        refine W_region ?_
        refine L_move rfl rfl ?_
        first | refine L_neq rfl rfl rfl (dtrue (by omega)) ?_ | refine L_neq rfl rfl rfl (dfalse (by omega)) ?_ | refine L_neq rfl rfl rfl rfl ?_
        refine L_move rfl rfl ?_
        first | (refine RL_want rfl rfl ?_; refine L_move rfl rfl ?_) | refine RL_skip rfl rfl rfl rfl ?_ | refine RL_skipU rfl rfl rfl ?_
        first | (refine RL_want rfl rfl ?_; refine L_len rfl Try.underlying25 rfl ?_) | refine RL_skip rfl rfl rfl rfl ?_ | refine RL_skipU rfl rfl rfl ?_
        first | (refine RL_want rfl rfl ?_; (first | refine L_neq rfl rfl rfl (dtrue (by omega)) ?_ | refine L_neq rfl rfl rfl (dfalse (by omega)) ?_ | refine L_neq rfl rfl rfl rfl ?_)) | refine RL_skip rfl rfl rfl rfl ?_ | refine RL_skipU rfl rfl rfl ?_
        first | refine L_pick_t rfl rfl rfl ?_ | refine L_pick_f rfl rfl rfl ?_
        refine L_move rfl rfl ?_
        first | (refine RL_want rfl rfl ?_; refine L_move rfl rfl ?_) | refine RL_skip rfl rfl rfl rfl ?_ | refine RL_skipU rfl rfl rfl ?_
        first | (refine RL_want rfl rfl ?_; (first | refine L_neq rfl rfl rfl (dtrue (by omega)) ?_ | refine L_neq rfl rfl rfl (dfalse (by omega)) ?_ | refine L_neq rfl rfl rfl rfl ?_)) | refine RL_skip rfl rfl rfl rfl ?_ | refine RL_skipU rfl rfl rfl ?_
        first | refine L_pick_t rfl rfl rfl ?_ | refine L_pick_f rfl rfl rfl ?_
        refine RL_then ?_
        refine W_if_false rfl ?_
        refine W_skip' ?_
        refine Nx_cutP (_) (is := [0]) (I' := (fun (w : World) => (HS w4 w [])) (_)) rfl rfl rfl ?_
        exact hs
    · clear hs hbox1 hsll1 hslm hbc hF1
      intro w hI
      show W _ _ _ _ [(0, .slice a k cp)] w
      have hs : HS w0 w [] := hbase.nil hI
      clear hI hbase
      refine W_seq ?_
      refine W_region ?_
      refine L_move rfl rfl ?_
      refine L_call rfl Try.fun13 rfl (most_ok a k cp rows rvs w (hr.old hs Own.nil) hk hk63) ?_
      rintro _ w5 ⟨v2, N2, A, cnt, u, f0, rfl, hs2, hbl2, hans2⟩
      obtain ⟨hTold, rfl⟩ := told_of hF hans1 hans2
      obtain ⟨hTop, hp, hc⟩ := top_most hF rfl hans1 hans2
      obtain ⟨qa, ca, rfl, _⟩ := hbl2.slice
      have hsla : SlC w5 qa (il A) := hbl2.slc (L := []) hs2
      replace hs := hs.nil (hs2.forget hbl2.own)
      clear hs2 hbl2
      refine L_move rfl rfl ?_
      refine L_extract rfl rfl rfl ?_
      refine L_extract rfl rfl rfl ?_
      refine L_extract rfl rfl rfl ?_
      refine L_extract rfl rfl rfl ?_
      refine L_assign rfl rfl ?_
      refine L_assign rfl rfl ?_
      refine L_assign rfl rfl ?_
      refine L_assign rfl rfl ?_
      refine RL_then ?_
      refine W_seq ?_
      refine W_region ?_
      refine L_move rfl rfl ?_
      refine L_call rfl Try.fun11 rfl (best_any false a k cp rows rvs w5 (hr.old hs Own.nil) hk hFB) ?_
      rintro _ w6 ⟨B2, d0, d1, d2, lb, ld, rfl, hs1, hbox2, hsll2⟩
      replace hsla := hsla.old hs1 Own.nil
      replace hs := hs.nil hs1
      clear hs1
      obtain ⟨F2, hF2⟩ : ∃ F2, F2 = bestF rows (wid rows 0) false := ⟨_, rfl⟩
      rw [← hF2] at hbox2 hsll2
      obtain ⟨i1, i2, i3, i4⟩ := best_top false hTop
      have i2' : F2.L = A := by rw [hF2]; exact i2
      have i3' : F2.P = cnt := by rw [hF2, ← hp]; exact i3
      have i4' : F2.T = u := by rw [hF2, ← hc]; exact i4
      have hAl : A.length ≤ k := by rw [hTold.len]; omega
      have hbase := hs
      clear hs
      have hs := HS.refl w6
      have hbc : ∀ {w : World}, HS w6 w [] → ∀ {j : Nat} {v : Value}, [d0, d1, d2, .bool F2.found, .int .i64 F2.P, .int .i64 F2.T, .slice lb F2.L.length ld][j]? = some v → w.cell? ((Addr.mk B2 0 none).add j) = some v := by
        intro w hs j v hv
        rw [add_lit0]
        exact hs.oldcell (Lk.cell_of_row hbox2 hv) (by simp)
      refine L_assign rfl rfl ?_
      refine RL_then ?_
      refine W_seq ?_
      refine W_region ?_
      refine L_move rfl rfl ?_
      first | refine L_eql rfl rfl rfl (dtrue (by omega)) ?_ | refine L_eql rfl rfl rfl (dfalse (by omega)) ?_ | refine L_eql rfl rfl rfl rfl ?_
      refine L_move rfl rfl ?_
      first | (refine RL_want rfl rfl ?_; refine L_move rfl rfl ?_) | refine RL_skip rfl rfl rfl rfl ?_ | refine RL_skipU rfl rfl rfl ?_
      first | (refine RL_want rfl rfl ?_; refine L_move rfl rfl ?_) | refine RL_skip rfl rfl rfl rfl ?_ | refine RL_skipU rfl rfl rfl ?_
      first | (refine RL_want rfl rfl ?_; refine L_nilCheck rfl rfl ?_) | refine RL_skip rfl rfl rfl rfl ?_ | refine RL_skipU rfl rfl rfl ?_
      first | (refine RL_want rfl rfl ?_; refine L_fieldAddr rfl (off := 4) Try.underlying33 rfl rfl Try.ti3 rfl ?_) | refine RL_skip rfl rfl rfl rfl ?_ | refine RL_skipU rfl rfl rfl ?_
      first | (refine RL_want rfl rfl ?_; refine L_load rfl Try.one3 rfl (by exact hbc hs rfl) ?_) | refine RL_skip rfl rfl rfl rfl ?_ | refine RL_skipU rfl rfl rfl ?_
      first | (refine RL_want rfl rfl ?_; (first | refine L_eql rfl rfl rfl (dtrue (by omega)) ?_ | refine L_eql rfl rfl rfl (dfalse (by omega)) ?_ | refine L_eql rfl rfl rfl rfl ?_)) | refine RL_skip rfl rfl rfl rfl ?_ | refine RL_skipU rfl rfl rfl ?_
      first | refine L_pick_t rfl rfl rfl ?_ | refine L_pick_f rfl rfl rfl ?_
      refine L_move rfl rfl ?_
      first | (refine RL_want rfl rfl ?_; refine L_move rfl rfl ?_) | refine RL_skip rfl rfl rfl rfl ?_ | refine RL_skipU rfl rfl rfl ?_
      first | (refine RL_want rfl rfl ?_; refine L_move rfl rfl ?_) | refine RL_skip rfl rfl rfl rfl ?_ | refine RL_skipU rfl rfl rfl ?_
      first | (refine RL_want rfl rfl ?_; refine L_nilCheck rfl rfl ?_) | refine RL_skip rfl rfl rfl rfl ?_ | refine RL_skipU rfl rfl rfl ?_
      first | (refine RL_want rfl rfl ?_; refine L_fieldAddr rfl (off := 5) Try.underlying33 rfl rfl Try.ti2 rfl ?_) | refine RL_skip rfl rfl rfl rfl ?_ | refine RL_skipU rfl rfl rfl ?_
      first | (refine RL_want rfl rfl ?_; refine L_load rfl Try.one2 rfl (by exact hbc hs rfl) ?_) | refine RL_skip rfl rfl rfl rfl ?_ | refine RL_skipU rfl rfl rfl ?_
      first | (refine RL_want rfl rfl ?_; (first | refine L_eql rfl rfl rfl (dtrue (by omega)) ?_ | refine L_eql rfl rfl rfl (dfalse (by omega)) ?_ | refine L_eql rfl rfl rfl rfl ?_)) | refine RL_skip rfl rfl rfl rfl ?_ | refine RL_skipU rfl rfl rfl ?_
      first | refine L_pick_t rfl rfl rfl ?_ | refine L_pick_f rfl rfl rfl ?_
      refine L_move rfl rfl ?_
      first | (refine RL_want rfl rfl ?_; refine L_move rfl rfl ?_) | refine RL_skip rfl rfl rfl rfl ?_ | refine RL_skipU rfl rfl rfl ?_
      first | (refine RL_want rfl rfl ?_; refine L_move rfl rfl ?_) | refine RL_skip rfl rfl rfl rfl ?_ | refine RL_skipU rfl rfl rfl ?_
      first | (refine RL_want rfl rfl ?_; refine L_nilCheck rfl rfl ?_) | refine RL_skip rfl rfl rfl rfl ?_ | refine RL_skipU rfl rfl rfl ?_
      first | (refine RL_want rfl rfl ?_; refine L_fieldAddr rfl (off := 6) Try.underlying33 rfl rfl Try.ti25 rfl ?_) | refine RL_skip rfl rfl rfl rfl ?_ | refine RL_skipU rfl rfl rfl ?_
      first | (refine RL_want rfl rfl ?_; refine L_load rfl Try.one25 rfl (by exact hbc hs rfl) ?_) | refine RL_skip rfl rfl rfl rfl ?_ | refine RL_skipU rfl rfl rfl ?_
      refine RL_want rfl rfl ?_
      refine L_call rfl Try.fun12 rfl (same_ok qa lb A.length F2.L.length ca ld A F2.L _ (hsla.old hs Own.nil) (hsll2.old hs Own.nil) rfl rfl (by omega)) ?_
      rintro _ w' ⟨rfl, hs'⟩
      replace hs := hs.nil hs'
      rw [decide_eq_true i2'.symm]
      first | refine L_pick_t rfl rfl rfl ?_ | refine L_pick_f rfl rfl rfl ?_
      refine L_assign rfl rfl ?_
      refine RL_then ?_
      refine W_ret' ?_
      refine Ex_done1 rfl rfl ?_
      exact ⟨_, rfl, rfl, hbase.nil hs⟩
end Go.Proofs.Ytcfdmenmlemahaa
