/-
  A part of the proof: what functions that the statement reaches do, or a plain law on what they do. Each theorem holds under its own premises alone.
-/
import Derived.Test.YtcfdmenmlemahaaTG16
namespace Go.Proofs.Ytcfdmenmlemahaa
open Go Go.Lk Go.Pr
set_option maxHeartbeats 2000000 in
theorem tells_law (a : Option Addr) (k cp : Nat) (rows : List (List Int)) (rvs : List Value) (w0 : World) (hr : RowsI w0 a rows rvs) (hk : rows.length = k) (hk63 : k ≤ 17592186043904) :
    Ret Try.prog 6 [.slice a k cp] w0 fun v w' => v = .bool true ∧ HS w0 w' [] := by
  refine Ret.start fun w hs => ?_
  have hrl := hr.len
  refine calls_of_W Try.func6 rfl rfl rfl ?_
  refine W_seq ?_
  refine W_region ?_
  refine L_assign rfl rfl ?_
  refine RL_then ?_
  refine W_seq ?_
  refine W_seq ?_
  refine W_region ?_
  refine L_call rfl Try.fun8 rfl (works_ok w) ?_
  rintro _ w1 ⟨rfl, hs'⟩
  replace hs := hs.nil hs'
  clear hs'
  refine L_not rfl rfl ?_
  refine L_move rfl rfl ?_
  first | (refine RL_want rfl rfl ?_; refine L_move rfl rfl ?_) | refine RL_skip rfl rfl rfl rfl ?_ | refine RL_skipU rfl rfl rfl ?_
  refine RL_want rfl rfl ?_
  refine L_call rfl Try.fun9 rfl (fine_ok a k cp 256 256 rows rvs w1 (hr.old hs Own.nil) hk hk63) ?_
  rintro _ w2 ⟨b, rfl, hs', hfb⟩
  replace hs := hs.nil hs'
  clear hs'
  cases b
  · first | (refine RL_want rfl rfl ?_; refine L_not rfl rfl ?_) | refine RL_skip rfl rfl rfl rfl ?_ | refine RL_skipU rfl rfl rfl ?_
    first | refine L_pick_t rfl rfl rfl ?_ | refine L_pick_f rfl rfl rfl ?_
    refine RL_then ?_
    refine W_if_true rfl ?_
    refine W_seq ?_
    refine W_region ?_
    refine L_call rfl Try.fun8 rfl (works_ok w2) ?_
    rintro _ w3 ⟨rfl, hs'⟩
    replace hs := hs.nil hs'
    refine L_assign rfl rfl ?_
    refine RL_then ?_
    refine W_ret' ?_
    refine Ex_then_ret ?_
    refine Ex_done1 rfl rfl ?_
    exact ⟨_, rfl, rfl, hs⟩
  · have hF := (hfb.1 rfl).fine (Nat.le_refl _) (Nat.le_refl _)
    have hk256 := hF.len
    clear hfb
    first | (refine RL_want rfl rfl ?_; refine L_not rfl rfl ?_) | refine RL_skip rfl rfl rfl rfl ?_ | refine RL_skipU rfl rfl rfl ?_
    first | refine L_pick_t rfl rfl rfl ?_ | refine L_pick_f rfl rfl rfl ?_
    refine RL_then ?_
    refine W_if_false rfl ?_
    refine W_skip' ?_
    refine Nx_then ?_
    refine W_seq ?_
    refine W_region ?_
    refine L_move rfl rfl ?_
    refine L_call rfl Try.fun10 rfl (least_ok a k cp rows rvs w2 (hr.old hs Own.nil) hk hk63) ?_
    rintro _ w3 ⟨v1, N1, ms, t, e, rfl, hs1, hbl1, hans1⟩
    obtain ⟨qm, cm, rfl, _⟩ := hbl1.slice
    have hslm : SlC w3 qm (il ms) := hbl1.slc (L := []) hs1
    have h23 : HS w2 w3 [] := hs1.forget hbl1.own
    replace hs := hs.nil h23
    clear hs1 hbl1 h23
    refine L_move rfl rfl ?_
    refine L_extract rfl rfl rfl ?_
    refine L_extract rfl rfl rfl ?_
    refine L_extract rfl rfl rfl ?_
    refine L_assign rfl rfl ?_
    refine L_assign rfl rfl ?_
    refine L_assign rfl rfl ?_
    refine RL_then ?_
    refine W_seq ?_
    refine W_region ?_
    refine L_move rfl rfl ?_
    refine L_call rfl Try.fun13 rfl (most_ok a k cp rows rvs w3 (hr.old hs Own.nil) hk hk63) ?_
    rintro _ w4 ⟨v2, N2, A, cnt, u, f0, rfl, hs2, hbl2, hans2⟩
    obtain ⟨hT, rfl⟩ := told_of hF hans1 hans2
    obtain ⟨qa, ca, rfl, _⟩ := hbl2.slice
    have hsla : SlC w4 qa (il A) := hbl2.slc (L := []) hs2
    have h34 : HS w3 w4 [] := hs2.forget hbl2.own
    replace hslm := hslm.old h34 Own.nil
    replace hs := hs.nil h34
    clear hs2 hbl2 h34 hans1 hans2
    have hAl := hT.len
    refine L_move rfl rfl ?_
    refine L_extract rfl rfl rfl ?_
    refine L_extract rfl rfl rfl ?_
    refine L_extract rfl rfl rfl ?_
    refine L_extract rfl rfl rfl ?_
    refine L_assign rfl rfl ?_
    refine L_assign rfl rfl ?_
    refine L_assign rfl rfl ?_
    refine L_assign rfl rfl ?_
    refine RL_then ?_
    refine W_seq ?_
    refine W_region ?_
    refine L_move rfl rfl ?_
    refine L_move rfl rfl ?_
    refine L_call rfl Try.fun19 rfl (total_ok a k cp rows rvs qa A.length ca A w4 (hr.old hs Own.nil) hk hk63 hsla rfl) ?_
    rintro _ w5 ⟨tt, ee, rfl, hs3, hans3⟩
    obtain ⟨rfl, rfl⟩ := total_of_told hF hT hans3
    replace hslm := hslm.old hs3 Own.nil
    replace hsla := hsla.old hs3 Own.nil
    replace hs := hs.nil hs3
    have h05 := hs
    have hr5 := hr.old hs Own.nil
    clear hs hs3 hans3 hr
    have hs := HS.refl w5
    rw [show A.length = k by omega]
    refine L_move rfl rfl ?_
    refine L_extract rfl rfl rfl ?_
    refine L_extract rfl rfl rfl ?_
    refine L_assign rfl rfl ?_
    refine L_assign rfl rfl ?_
    refine RL_then ?_
    refine W_seq ?_
    refine W_seq ?_
    refine W_cut1 (fun (w : World) => [(0, .slice a k cp), (3, .slice qm ms.length cm), (4, .int .i64 t), (5, .int .i64 e), (6, .slice qa k ca), (7, .int .i64 cnt), (8, .int .i64 tt), (74, .bool false)]) (fun (w : World) => w) (fun (w : World) => (HS w5 w [])) ?_ ?_
    · rcases hT.er with rfl | rfl
      · refine W_region ?_
        refine L_move rfl rfl ?_
        first | refine L_neq rfl rfl rfl (dtrue (by omega)) ?_ | refine L_neq rfl rfl rfl (dfalse (by omega)) ?_ | refine L_neq rfl rfl rfl rfl ?_
        refine L_move rfl rfl ?_
        first | (refine RL_want rfl rfl ?_; refine L_move rfl rfl ?_) | refine RL_skip rfl rfl rfl rfl ?_ | refine RL_skipU rfl rfl rfl ?_
        first | (refine RL_want rfl rfl ?_; (first | refine L_neq rfl rfl rfl (dtrue (by omega)) ?_ | refine L_neq rfl rfl rfl (dfalse (by omega)) ?_ | refine L_neq rfl rfl rfl rfl ?_)) | refine RL_skip rfl rfl rfl rfl ?_ | refine RL_skipU rfl rfl rfl ?_
        first | refine L_pick_t rfl rfl rfl ?_ | refine L_pick_f rfl rfl rfl ?_
        refine L_move rfl rfl ?_
        first | (refine RL_want rfl rfl ?_; refine L_move rfl rfl ?_) | refine RL_skip rfl rfl rfl rfl ?_ | refine RL_skipU rfl rfl rfl ?_
        first | (refine RL_want rfl rfl ?_; refine L_move rfl rfl ?_) | refine RL_skip rfl rfl rfl rfl ?_ | refine RL_skipU rfl rfl rfl ?_
        first | (refine RL_want rfl rfl ?_; (first | refine L_neq rfl rfl rfl (dtrue (by omega)) ?_ | refine L_neq rfl rfl rfl (dfalse (by omega)) ?_ | refine L_neq rfl rfl rfl rfl ?_)) | refine RL_skip rfl rfl rfl rfl ?_ | refine RL_skipU rfl rfl rfl ?_
        first | refine L_pick_t rfl rfl rfl ?_ | refine L_pick_f rfl rfl rfl ?_
        refine L_move rfl rfl ?_
        first | (refine RL_want rfl rfl ?_; refine L_move rfl rfl ?_) | refine RL_skip rfl rfl rfl rfl ?_ | refine RL_skipU rfl rfl rfl ?_
        first | (refine RL_want rfl rfl ?_; refine L_len rfl Try.underlying25 rfl ?_) | refine RL_skip rfl rfl rfl rfl ?_ | refine RL_skipU rfl rfl rfl ?_
        first | (refine RL_want rfl rfl ?_; refine L_move rfl rfl ?_) | refine RL_skip rfl rfl rfl rfl ?_ | refine RL_skipU rfl rfl rfl ?_
        first | (refine RL_want rfl rfl ?_; refine L_len rfl Try.underlying22 rfl ?_) | refine RL_skip rfl rfl rfl rfl ?_ | refine RL_skipU rfl rfl rfl ?_
        first | (refine RL_want rfl rfl ?_; (first | refine L_neq rfl rfl rfl (dtrue (by omega)) ?_ | refine L_neq rfl rfl rfl (dfalse (by omega)) ?_ | refine L_neq rfl rfl rfl rfl ?_)) | refine RL_skip rfl rfl rfl rfl ?_ | refine RL_skipU rfl rfl rfl ?_
        first | refine L_pick_t rfl rfl rfl ?_ | refine L_pick_f rfl rfl rfl ?_
        refine L_move rfl rfl ?_
        first | (refine RL_want rfl rfl ?_; refine L_move rfl rfl ?_) | refine RL_skip rfl rfl rfl rfl ?_ | refine RL_skipU rfl rfl rfl ?_
        first | (refine RL_want rfl rfl ?_; (first | refine L_neq rfl rfl rfl (dtrue (by omega)) ?_ | refine L_neq rfl rfl rfl (dfalse (by omega)) ?_ | refine L_neq rfl rfl rfl rfl ?_)) | refine RL_skip rfl rfl rfl rfl ?_ | refine RL_skipU rfl rfl rfl ?_
        first | (refine RL_want rfl rfl ?_; refine L_move rfl rfl ?_) | refine RL_skip rfl rfl rfl rfl ?_ | refine RL_skipU rfl rfl rfl ?_
        first | (refine RL_want rfl rfl ?_; refine L_move rfl rfl ?_) | refine RL_skip rfl rfl rfl rfl ?_ | refine RL_skipU rfl rfl rfl ?_
        first | (refine RL_want rfl rfl ?_; (first | refine L_neq rfl rfl rfl (dtrue (by omega)) ?_ | refine L_neq rfl rfl rfl (dfalse (by omega)) ?_ | refine L_neq rfl rfl rfl rfl ?_)) | refine RL_skip rfl rfl rfl rfl ?_ | refine RL_skipU rfl rfl rfl ?_
        first | (refine RL_want rfl rfl ?_; (first | refine L_pick_t rfl rfl rfl ?_ | refine L_pick_f rfl rfl rfl ?_)) | refine RL_skip rfl rfl rfl rfl ?_ | refine RL_skipU rfl rfl rfl ?_
        first | refine L_pick_t rfl rfl rfl ?_ | refine L_pick_f rfl rfl rfl ?_
        refine RL_nil' ?_
        refine Nx_cutP (_) (is := [0, 3, 4, 5, 6, 7, 8, 74]) (I' := (fun (w : World) => (HS w5 w [])) (_)) rfl rfl rfl ?_
        exact hs
      · refine W_region ?_
        refine L_move rfl rfl ?_
        first | refine L_neq rfl rfl rfl (dtrue (by omega)) ?_ | refine L_neq rfl rfl rfl (dfalse (by omega)) ?_ | refine L_neq rfl rfl rfl rfl ?_
        refine L_move rfl rfl ?_
        first | (refine RL_want rfl rfl ?_; refine L_move rfl rfl ?_) | refine RL_skip rfl rfl rfl rfl ?_ | refine RL_skipU rfl rfl rfl ?_
        first | (refine RL_want rfl rfl ?_; (first | refine L_neq rfl rfl rfl (dtrue (by omega)) ?_ | refine L_neq rfl rfl rfl (dfalse (by omega)) ?_ | refine L_neq rfl rfl rfl rfl ?_)) | refine RL_skip rfl rfl rfl rfl ?_ | refine RL_skipU rfl rfl rfl ?_
        first | refine L_pick_t rfl rfl rfl ?_ | refine L_pick_f rfl rfl rfl ?_
        refine L_move rfl rfl ?_
        first | (refine RL_want rfl rfl ?_; refine L_move rfl rfl ?_) | refine RL_skip rfl rfl rfl rfl ?_ | refine RL_skipU rfl rfl rfl ?_
        first | (refine RL_want rfl rfl ?_; refine L_move rfl rfl ?_) | refine RL_skip rfl rfl rfl rfl ?_ | refine RL_skipU rfl rfl rfl ?_
        first | (refine RL_want rfl rfl ?_; (first | refine L_neq rfl rfl rfl (dtrue (by omega)) ?_ | refine L_neq rfl rfl rfl (dfalse (by omega)) ?_ | refine L_neq rfl rfl rfl rfl ?_)) | refine RL_skip rfl rfl rfl rfl ?_ | refine RL_skipU rfl rfl rfl ?_
        first | refine L_pick_t rfl rfl rfl ?_ | refine L_pick_f rfl rfl rfl ?_
        refine L_move rfl rfl ?_
        first | (refine RL_want rfl rfl ?_; refine L_move rfl rfl ?_) | refine RL_skip rfl rfl rfl rfl ?_ | refine RL_skipU rfl rfl rfl ?_
        first | (refine RL_want rfl rfl ?_; refine L_len rfl Try.underlying25 rfl ?_) | refine RL_skip rfl rfl rfl rfl ?_ | refine RL_skipU rfl rfl rfl ?_
        first | (refine RL_want rfl rfl ?_; refine L_move rfl rfl ?_) | refine RL_skip rfl rfl rfl rfl ?_ | refine RL_skipU rfl rfl rfl ?_
        first | (refine RL_want rfl rfl ?_; refine L_len rfl Try.underlying22 rfl ?_) | refine RL_skip rfl rfl rfl rfl ?_ | refine RL_skipU rfl rfl rfl ?_
        first | (refine RL_want rfl rfl ?_; (first | refine L_neq rfl rfl rfl (dtrue (by omega)) ?_ | refine L_neq rfl rfl rfl (dfalse (by omega)) ?_ | refine L_neq rfl rfl rfl rfl ?_)) | refine RL_skip rfl rfl rfl rfl ?_ | refine RL_skipU rfl rfl rfl ?_
        first | refine L_pick_t rfl rfl rfl ?_ | refine L_pick_f rfl rfl rfl ?_
        refine L_move rfl rfl ?_
        first | (refine RL_want rfl rfl ?_; refine L_move rfl rfl ?_) | refine RL_skip rfl rfl rfl rfl ?_ | refine RL_skipU rfl rfl rfl ?_
        first | (refine RL_want rfl rfl ?_; (first | refine L_neq rfl rfl rfl (dtrue (by omega)) ?_ | refine L_neq rfl rfl rfl (dfalse (by omega)) ?_ | refine L_neq rfl rfl rfl rfl ?_)) | refine RL_skip rfl rfl rfl rfl ?_ | refine RL_skipU rfl rfl rfl ?_
        first | (refine RL_want rfl rfl ?_; refine L_move rfl rfl ?_) | refine RL_skip rfl rfl rfl rfl ?_ | refine RL_skipU rfl rfl rfl ?_
        first | (refine RL_want rfl rfl ?_; refine L_move rfl rfl ?_) | refine RL_skip rfl rfl rfl rfl ?_ | refine RL_skipU rfl rfl rfl ?_
        first | (refine RL_want rfl rfl ?_; (first | refine L_neq rfl rfl rfl (dtrue (by omega)) ?_ | refine L_neq rfl rfl rfl (dfalse (by omega)) ?_ | refine L_neq rfl rfl rfl rfl ?_)) | refine RL_skip rfl rfl rfl rfl ?_ | refine RL_skipU rfl rfl rfl ?_
        first | (refine RL_want rfl rfl ?_; (first | refine L_pick_t rfl rfl rfl ?_ | refine L_pick_f rfl rfl rfl ?_)) | refine RL_skip rfl rfl rfl rfl ?_ | refine RL_skipU rfl rfl rfl ?_
        first | refine L_pick_t rfl rfl rfl ?_ | refine L_pick_f rfl rfl rfl ?_
        refine RL_nil' ?_
        refine Nx_cutP (_) (is := [0, 3, 4, 5, 6, 7, 8, 74]) (I' := (fun (w : World) => (HS w5 w [])) (_)) rfl rfl rfl ?_
        exact hs
    · clear hs
      intro w hI
      show W _ _ _ _ [(0, .slice a k cp), (3, .slice qm ms.length cm), (4, .int .i64 t), (5, .int .i64 e), (6, .slice qa k ca), (7, .int .i64 cnt), (8, .int .i64 tt), (74, .bool false)] w
      have hs : HS w5 w [] := hI
      clear hI
      refine W_if_false rfl ?_
      refine W_skip' ?_
      refine Nx_then ?_
      refine W_seq ?_
      refine W_region ?_
      refine L_make1 rfl hs Try.underlying31 Try.ti4 rfl rfl (by with_reducible first | exact natc_k _ | exact natc_a1 _ | exact natc_0 | exact natc_1 | exact natc_2 | exact natc_s1 _ (by omega) | exact natc_a2 _ | exact natc_add _ _ | exact natc_mul _ _ | exact natc (by omega)) (by with_reducible first | exact natc_k _ | exact natc_a1 _ | exact natc_0 | exact natc_1 | exact natc_2 | exact natc_s1 _ (by omega) | exact natc_a2 _ | exact natc_add _ _ | exact natc_mul _ _ | exact natc (by omega)) (by omega) (by omega) (by omega) rfl ?_
      intro b75 w hb75 hnb75 hs
      try dsimp only [List.set_cons_succ, List.set_cons_zero, List.cons_append, List.nil_append] at hs
      refine L_assign rfl rfl ?_
      refine RL_then ?_
      refine W_seq ?_
      refine W_region ?_
      refine L_assign rfl rfl ?_
      refine RL_then ?_
      refine W_seq ?_
      refine W_seq ?_
      refine W_region ?_
      refine L_move rfl rfl ?_
      refine L_len rfl Try.underlying25 rfl ?_
      refine L_move rfl rfl ?_
      refine RL_then ?_
      refine W_block ?_
      rw [bls_rep] at hs
      obtain ⟨gu, hgu, hguo⟩ : ∃ gu, gu = b75 ∧ w5.heap.size ≤ gu := ⟨_, rfl, hb75⟩
      rw [← hgu] at hs ⊢
      clear hgu hb75 hnb75
      have hO : ∀ {us : List Bool}, Own w5 [(gu, Row 4 (bls us))] := Own.cons hguo Own.nil
      have haA : 0 < k → qa = some (aD qa) := fun h => hsla.ao (by rw [il_length]; omega)
      have hra : 0 < k → a = some (aD a) := fun h => hr5.sl.ao (by omega)
      refine W_loop4 (fun (i : Nat) (us : List Bool) (pr : Int) (w : World) => [(0, .slice a k cp), (3, .slice qm ms.length cm), (4, .int .i64 t), (5, .int .i64 e), (6, .slice qa k ca), (7, .int .i64 cnt), (8, .int .i64 tt), (12, .slice (some ⟨gu, 0, none⟩) 256 256), (13, .int .i64 pr), (76, .slice qa k ca), (77, .int .i64 k), (78, .int .i64 i)]) (fun (i : Nat) (us : List Bool) (pr : Int) (w : World) => w) (fun (i : Nat) (us : List Bool) (pr : Int) (w : World) => (i ≤ k) ∧ (us.length = 256) ∧ (∀ j : Nat, j < 256 → (us.getD j false = true ↔ ∃ q, q < i ∧ A.getD q 0 = (j : Int))) ∧ (pr = tot i (fun q => if A.getD q 0 < 0 then 0 else 1)) ∧ (0 ≤ pr ∧ pr ≤ i) ∧ (HS w5 w [(gu, Row 4 (bls us))])) (fun (i : Nat) (us : List Bool) (pr : Int) (w : World) => k - i) (0) (List.replicate 256 false) (0) (_) (is := [0, 3, 4, 5, 6, 7, 8, 12, 13, 76, 77, 78]) rfl rfl ?_ ?_
      · refine ⟨Nat.zero_le _, List.length_replicate, fun j hj => ⟨fun h => ?_, fun ⟨q, hq, _⟩ => absurd hq (Nat.not_lt_zero _)⟩, rfl, ⟨by omega, by omega⟩, hs⟩
        rw [grep hj] at h; cases h
      · clear hs
        intro i us pr w hI
        show W _ _ _ _ [(0, .slice a k cp), (3, .slice qm ms.length cm), (4, .int .i64 t), (5, .int .i64 e), (6, .slice qa k ca), (7, .int .i64 cnt), (8, .int .i64 tt), (12, .slice (some ⟨gu, 0, none⟩) 256 256), (13, .int .i64 pr), (76, .slice qa k ca), (77, .int .i64 k), (78, .int .i64 i)] w
        obtain ⟨hi, hul, hus, hpr, hprb, hs⟩ := hI
        by_cases hlt : i < k
        · have hqa := haA (by omega)
          rcases hT.ent i (by omega) with hAi | ⟨j, hAi, hj256, hjw, hjp⟩
          · have hcell : ∀ {w : World}, HS w5 w [(gu, Row 4 (bls us))] → w.cell? ((aD qa).add i) = some (.int .i64 (-1)) := by
              intro w hs
              have := (hsla.old hs hO).get (il_get (j := i) (by omega))
              rw [hAi] at this; exact this
            refine W_seq ?_
            refine W_region ?_
            first | refine L_lss rfl rfl rfl (dtrue (by omega)) ?_ | refine L_lss rfl rfl rfl (dfalse (by omega)) ?_ | refine L_lss rfl rfl rfl rfl ?_
            refine RL_then ?_
            refine W_seq ?_
            refine W_if_true rfl ?_
            refine W_skip' ?_
            refine Nx_then ?_
            refine W_seq ?_
            refine W_block ?_
            refine W_seq ?_
            refine W_region ?_
            refine L_idx1 rfl Try.underlying25 Try.ti3 rfl rfl (by with_reducible first | exact natc_k _ | exact natc_a1 _ | exact natc_0 | exact natc_1 | exact natc_2 | exact natc_s1 _ (by omega) | exact natc_a2 _ | exact natc_add _ _ | exact natc_mul _ _ | exact natc (by omega)) (by omega) (by first | rfl | exact hqa) ?_
            refine L_load rfl Try.one3 rfl (by exact hcell hs) ?_
            refine L_assign rfl rfl ?_
            refine RL_then ?_
            refine W_seq ?_
            refine W_seq ?_
            refine W_region ?_
            refine L_move rfl rfl ?_
            first | refine L_geq rfl rfl rfl (dtrue (by omega)) ?_ | refine L_geq rfl rfl rfl (dfalse (by omega)) ?_ | refine L_geq rfl rfl rfl rfl ?_
            refine RL_then ?_
            refine W_if_false rfl ?_
            refine W_skip' ?_
            refine Nx_then ?_
            refine W_seq ?_
            refine W_region ?_
            refine L_move rfl rfl ?_
            first | refine L_geq rfl rfl rfl (dtrue (by omega)) ?_ | refine L_geq rfl rfl rfl (dfalse (by omega)) ?_ | refine L_geq rfl rfl rfl rfl ?_
            refine RL_then ?_
            refine W_if_false rfl ?_
            refine W_skip' ?_
            refine Nx_block ?_
            refine Nx_then ?_
            refine W_region ?_
            first | refine L_add rfl rfl rfl (wrp_i64 (by omega)) ?_ | refine L_add rfl rfl rfl rfl ?_
            refine L_move rfl rfl ?_
            refine RL_nil' ?_
            refine Nx_loopP (i + 1, us, pr, _) (is := [0, 3, 4, 5, 6, 7, 8, 12, 13, 76, 77, 78]) (I' := (fun (i : Nat) (us : List Bool) (pr : Int) (w : World) => (i ≤ k) ∧ (us.length = 256) ∧ (∀ j : Nat, j < 256 → (us.getD j false = true ↔ ∃ q, q < i ∧ A.getD q 0 = (j : Int))) ∧ (pr = tot i (fun q => if A.getD q 0 < 0 then 0 else 1)) ∧ (0 ≤ pr ∧ pr ≤ i) ∧ (HS w5 w [(gu, Row 4 (bls us))])) (i + 1) (us) (pr) (_)) rfl rfl rfl ?_ ?_
            · refine ⟨by omega, hul, fun j hj => ?_, ?_, ⟨by omega, by omega⟩, hs⟩
              · rw [hus j hj]
                constructor
                · rintro ⟨q, hq, he⟩; exact ⟨q, by omega, he⟩
                · rintro ⟨q, hq, he⟩
                  refine ⟨q, ?_, he⟩
                  by_cases hqi : q = i
                  · rw [hqi, hAi] at he; omega
                  · omega
              · simp only [tot]; rw [hAi, ← hpr]; simp
            · omega
          · have hcell : ∀ {w : World}, HS w5 w [(gu, Row 4 (bls us))] → w.cell? ((aD qa).add i) = some (.int .i64 (j : Int)) := by
              intro w hs
              have := (hsla.old hs hO).get (il_get (j := i) (by omega))
              rw [hAi] at this; exact this
            refine W_seq ?_
            refine W_region ?_
            first | refine L_lss rfl rfl rfl (dtrue (by omega)) ?_ | refine L_lss rfl rfl rfl (dfalse (by omega)) ?_ | refine L_lss rfl rfl rfl rfl ?_
            refine RL_then ?_
            refine W_seq ?_
            refine W_if_true rfl ?_
            refine W_skip' ?_
            refine Nx_then ?_
            refine W_seq ?_
            refine W_block ?_
            refine W_seq ?_
            refine W_region ?_
            refine L_idx1 rfl Try.underlying25 Try.ti3 rfl rfl (by with_reducible first | exact natc_k _ | exact natc_a1 _ | exact natc_0 | exact natc_1 | exact natc_2 | exact natc_s1 _ (by omega) | exact natc_a2 _ | exact natc_add _ _ | exact natc_mul _ _ | exact natc (by omega)) (by omega) (by first | rfl | exact hqa) ?_
            refine L_load rfl Try.one3 rfl (by exact hcell hs) ?_
            refine L_assign rfl rfl ?_
            refine RL_then ?_
            refine W_seq ?_
            refine W_seq ?_
            refine W_region ?_
            refine L_move rfl rfl ?_
            first | refine L_geq rfl rfl rfl (dtrue (by omega)) ?_ | refine L_geq rfl rfl rfl (dfalse (by omega)) ?_ | refine L_geq rfl rfl rfl rfl ?_
            refine RL_then ?_
            refine W_if_false rfl ?_
            refine W_skip' ?_
            refine Nx_then ?_
            refine W_seq ?_
            refine W_region ?_
            refine L_move rfl rfl ?_
            first | refine L_geq rfl rfl rfl (dtrue (by omega)) ?_ | refine L_geq rfl rfl rfl (dfalse (by omega)) ?_ | refine L_geq rfl rfl rfl rfl ?_
            refine RL_then ?_
            refine W_if_true rfl ?_
            refine W_seq ?_
            refine W_region ?_
            refine L_move rfl rfl ?_
            first | refine L_add rfl rfl rfl (wrp_i64 (by omega)) ?_ | refine L_add rfl rfl rfl rfl ?_
            refine L_assign rfl rfl ?_
            refine RL_then ?_
            refine W_region ?_
            refine L_move rfl rfl ?_
            refine L_move rfl rfl ?_
            refine L_idx1 rfl Try.underlying31 Try.ti4 rfl rfl (by with_reducible first | exact natc_k _ | exact natc_a1 _ | exact natc_0 | exact natc_1 | exact natc_2 | exact natc_s1 _ (by omega) | exact natc_a2 _ | exact natc_add _ _ | exact natc_mul _ _ | exact natc (by omega)) (by omega) (by first | rfl | exact hqa) ?_
            refine L_store hs (i := 0) rfl Try.ti4 rfl rfl (by first | rfl | exact add_lit0 _ _ | exact Addr.add_lit ..) (by rw [bls_length]; omega) rfl ?_
            intro w hs
            try dsimp only [List.set_cons_succ, List.set_cons_zero, List.cons_append, List.nil_append] at hs
            refine RL_nil' ?_
            refine Nx_block ?_
            refine Nx_then ?_
            refine W_region ?_
            first | refine L_add rfl rfl rfl (wrp_i64 (by omega)) ?_ | refine L_add rfl rfl rfl rfl ?_
            refine L_move rfl rfl ?_
            refine RL_nil' ?_
            rw [bls_set] at hs
            refine Nx_loopP (i + 1, us.set j true, pr + 1, _) (is := [0, 3, 4, 5, 6, 7, 8, 12, 13, 76, 77, 78]) (I' := (fun (i : Nat) (us : List Bool) (pr : Int) (w : World) => (i ≤ k) ∧ (us.length = 256) ∧ (∀ j : Nat, j < 256 → (us.getD j false = true ↔ ∃ q, q < i ∧ A.getD q 0 = (j : Int))) ∧ (pr = tot i (fun q => if A.getD q 0 < 0 then 0 else 1)) ∧ (0 ≤ pr ∧ pr ≤ i) ∧ (HS w5 w [(gu, Row 4 (bls us))])) (i + 1) (us.set j true) (pr + 1) (_)) rfl rfl rfl ?_ ?_
            · refine ⟨by omega, by simp [hul], fun j2 hj2 => ?_, ?_, ⟨by omega, by omega⟩, hs⟩
              · rw [gset (by omega)]
                by_cases hjj : j2 = j
                · rw [if_pos hjj]
                  exact ⟨fun _ => ⟨i, by omega, by rw [hAi, hjj]⟩, fun _ => rfl⟩
                · rw [if_neg hjj, hus j2 hj2]
                  constructor
                  · rintro ⟨q, hq, he⟩; exact ⟨q, by omega, he⟩
                  · rintro ⟨q, hq, he⟩
                    refine ⟨q, ?_, he⟩
                    by_cases hqi : q = i
                    · rw [hqi, hAi] at he; omega
                    · omega
              · simp only [tot]; rw [hAi, ← hpr, if_neg (by omega)]
            · omega
        · have hik : i = k := by omega
          rw [hik] at hus hpr hprb
          have hpc : pr = cnt := by rw [hpr, hT.cnt', hk]
          have hus' : ∀ j : Nat, j < 256 → us.getD j false = false → ∀ q, q < k → A.getD q 0 ≠ (j : Int) := fun j hj h q hq he => by
            rw [(hus j hj).2 ⟨q, hq, he⟩] at h; cases h
          clear hus hpr
          rw [hpc] at hprb
          refine W_seq ?_
          refine W_region ?_
          first | refine L_lss rfl rfl rfl (dtrue (by omega)) ?_ | refine L_lss rfl rfl rfl (dfalse (by omega)) ?_ | refine L_lss rfl rfl rfl rfl ?_
          refine RL_then ?_
          refine W_seq ?_
          refine W_if_false rfl ?_
          rw [hpc]
          refine W_exit' ?_
          refine Ex_then_exit ?_
          refine Ex_loop_exit ?_
          refine Ex_block_hit ?_
          refine Nx_then ?_
          refine W_seq ?_
          refine W_seq ?_
          refine W_region ?_
          refine L_move rfl rfl ?_
          refine L_move rfl rfl ?_
          first | refine L_neq rfl rfl rfl (dtrue (by omega)) ?_ | refine L_neq rfl rfl rfl (dfalse (by omega)) ?_ | refine L_neq rfl rfl rfl rfl ?_
          refine L_move rfl rfl ?_
          first | (refine RL_want rfl rfl ?_; refine L_move rfl rfl ?_) | refine RL_skip rfl rfl rfl rfl ?_ | refine RL_skipU rfl rfl rfl ?_
          first | (refine RL_want rfl rfl ?_; refine L_move rfl rfl ?_) | refine RL_skip rfl rfl rfl rfl ?_ | refine RL_skipU rfl rfl rfl ?_
          first | (refine RL_want rfl rfl ?_; refine L_len rfl Try.underlying22 rfl ?_) | refine RL_skip rfl rfl rfl rfl ?_ | refine RL_skipU rfl rfl rfl ?_
          first | (refine RL_want rfl rfl ?_; (first | refine L_gtr rfl rfl rfl (dtrue (by omega)) ?_ | refine L_gtr rfl rfl rfl (dfalse (by omega)) ?_ | refine L_gtr rfl rfl rfl rfl ?_)) | refine RL_skip rfl rfl rfl rfl ?_ | refine RL_skipU rfl rfl rfl ?_
          first | refine L_pick_t rfl rfl rfl ?_ | refine L_pick_f rfl rfl rfl ?_
          refine RL_then ?_
          refine W_if_false rfl ?_
          refine W_skip' ?_
          refine Nx_then ?_
          refine W_seq ?_
          refine W_seq ?_
          refine W_cut1 (fun (w : World) => [(0, .slice a k cp), (6, .slice qa k ca), (12, .slice (some ⟨gu, 0, none⟩) 256 256), (129, .bool false)]) (fun (w : World) => w) (fun (w : World) => (HS w5 w [(gu, Row 4 (bls us))])) ?_ ?_
          · rcases hT.er with he | he
            · obtain ⟨o1, o2, o3⟩ := hT.ok he
              rw [he, o1]
              refine W_region ?_
              refine L_move rfl rfl ?_
              first | refine L_eql rfl rfl rfl (dtrue (by omega)) ?_ | refine L_eql rfl rfl rfl (dfalse (by omega)) ?_ | refine L_eql rfl rfl rfl rfl ?_
              refine L_move rfl rfl ?_
              first | (refine RL_want rfl rfl ?_; refine L_move rfl rfl ?_) | refine RL_skip rfl rfl rfl rfl ?_ | refine RL_skipU rfl rfl rfl ?_
              first | (refine RL_want rfl rfl ?_; refine L_move rfl rfl ?_) | refine RL_skip rfl rfl rfl rfl ?_ | refine RL_skipU rfl rfl rfl ?_
              first | (refine RL_want rfl rfl ?_; (first | refine L_neq rfl rfl rfl (dtrue (by omega)) ?_ | refine L_neq rfl rfl rfl (dfalse (by omega)) ?_ | refine L_neq rfl rfl rfl rfl ?_)) | refine RL_skip rfl rfl rfl rfl ?_ | refine RL_skipU rfl rfl rfl ?_
              first | (refine RL_want rfl rfl ?_; refine L_move rfl rfl ?_) | refine RL_skip rfl rfl rfl rfl ?_ | refine RL_skipU rfl rfl rfl ?_
              first | (refine RL_want rfl rfl ?_; refine L_move rfl rfl ?_) | refine RL_skip rfl rfl rfl rfl ?_ | refine RL_skipU rfl rfl rfl ?_
              first | (refine RL_want rfl rfl ?_; refine L_move rfl rfl ?_) | refine RL_skip rfl rfl rfl rfl ?_ | refine RL_skipU rfl rfl rfl ?_
              first | (refine RL_want rfl rfl ?_; refine L_len rfl Try.underlying22 rfl ?_) | refine RL_skip rfl rfl rfl rfl ?_ | refine RL_skipU rfl rfl rfl ?_
              first | (refine RL_want rfl rfl ?_; (first | refine L_neq rfl rfl rfl (dtrue (by omega)) ?_ | refine L_neq rfl rfl rfl (dfalse (by omega)) ?_ | refine L_neq rfl rfl rfl rfl ?_)) | refine RL_skip rfl rfl rfl rfl ?_ | refine RL_skipU rfl rfl rfl ?_
              first | (refine RL_want rfl rfl ?_; (first | refine L_pick_t rfl rfl rfl ?_ | refine L_pick_f rfl rfl rfl ?_)) | refine RL_skip rfl rfl rfl rfl ?_ | refine RL_skipU rfl rfl rfl ?_
              first | (refine RL_want rfl rfl ?_; refine L_move rfl rfl ?_) | refine RL_skip rfl rfl rfl rfl ?_ | refine RL_skipU rfl rfl rfl ?_
              first | (refine RL_want rfl rfl ?_; refine L_move rfl rfl ?_) | refine RL_skip rfl rfl rfl rfl ?_ | refine RL_skipU rfl rfl rfl ?_
              first | (refine RL_want rfl rfl ?_; refine L_move rfl rfl ?_) | refine RL_skip rfl rfl rfl rfl ?_ | refine RL_skipU rfl rfl rfl ?_
              have hml : ms.length = k := by rw [o3]; omega
              refine RL_want rfl rfl ?_
              refine L_call rfl Try.fun12 rfl (same_ok qm qa ms.length k cm ca ms A w (hslm.old hs hO) (hsla.old hs hO) rfl (by omega) (by omega)) ?_
              rintro _ w' ⟨rfl, hs'⟩
              replace hs := hs.nil hs'
              rw [decide_eq_true o3]
              first | (refine RL_want rfl rfl ?_; refine L_not rfl rfl ?_) | refine RL_skip rfl rfl rfl rfl ?_ | refine RL_skipU rfl rfl rfl ?_
              first | (refine RL_want rfl rfl ?_; (first | refine L_pick_t rfl rfl rfl ?_ | refine L_pick_f rfl rfl rfl ?_)) | refine RL_skip rfl rfl rfl rfl ?_ | refine RL_skipU rfl rfl rfl ?_
              first | refine L_pick_t rfl rfl rfl ?_ | refine L_pick_f rfl rfl rfl ?_
              refine L_move rfl rfl ?_
              first | (refine RL_want rfl rfl ?_; refine L_move rfl rfl ?_) | refine RL_skip rfl rfl rfl rfl ?_ | refine RL_skipU rfl rfl rfl ?_
              first | (refine RL_want rfl rfl ?_; (first | refine L_eql rfl rfl rfl (dtrue (by omega)) ?_ | refine L_eql rfl rfl rfl (dfalse (by omega)) ?_ | refine L_eql rfl rfl rfl rfl ?_)) | refine RL_skip rfl rfl rfl rfl ?_ | refine RL_skipU rfl rfl rfl ?_
              first | (refine RL_want rfl rfl ?_; refine L_move rfl rfl ?_) | refine RL_skip rfl rfl rfl rfl ?_ | refine RL_skipU rfl rfl rfl ?_
              first | (refine RL_want rfl rfl ?_; refine L_move rfl rfl ?_) | refine RL_skip rfl rfl rfl rfl ?_ | refine RL_skipU rfl rfl rfl ?_
              first | (refine RL_want rfl rfl ?_; refine L_move rfl rfl ?_) | refine RL_skip rfl rfl rfl rfl ?_ | refine RL_skipU rfl rfl rfl ?_
              first | (refine RL_want rfl rfl ?_; refine L_len rfl Try.underlying22 rfl ?_) | refine RL_skip rfl rfl rfl rfl ?_ | refine RL_skipU rfl rfl rfl ?_
              first | (refine RL_want rfl rfl ?_; (first | refine L_eql rfl rfl rfl (dtrue (by omega)) ?_ | refine L_eql rfl rfl rfl (dfalse (by omega)) ?_ | refine L_eql rfl rfl rfl rfl ?_)) | refine RL_skip rfl rfl rfl rfl ?_ | refine RL_skipU rfl rfl rfl ?_
              first | (refine RL_want rfl rfl ?_; (first | refine L_pick_t rfl rfl rfl ?_ | refine L_pick_f rfl rfl rfl ?_)) | refine RL_skip rfl rfl rfl rfl ?_ | refine RL_skipU rfl rfl rfl ?_
              first | refine L_pick_t rfl rfl rfl ?_ | refine L_pick_f rfl rfl rfl ?_
              refine RL_nil' ?_
              refine Nx_cutP (_) (is := [0, 6, 12, 129]) (I' := (fun (w : World) => (HS w5 w [(gu, Row 4 (bls us))])) (_)) rfl rfl rfl ?_
              exact hs
            · have o1 := hT.no he
              rw [he]
              refine W_region ?_
              refine L_move rfl rfl ?_
              first | refine L_eql rfl rfl rfl (dtrue (by omega)) ?_ | refine L_eql rfl rfl rfl (dfalse (by omega)) ?_ | refine L_eql rfl rfl rfl rfl ?_
              refine L_move rfl rfl ?_
              first | (refine RL_want rfl rfl ?_; refine L_move rfl rfl ?_) | refine RL_skip rfl rfl rfl rfl ?_ | refine RL_skipU rfl rfl rfl ?_
              first | (refine RL_want rfl rfl ?_; refine L_move rfl rfl ?_) | refine RL_skip rfl rfl rfl rfl ?_ | refine RL_skipU rfl rfl rfl ?_
              first | (refine RL_want rfl rfl ?_; (first | refine L_neq rfl rfl rfl (dtrue (by omega)) ?_ | refine L_neq rfl rfl rfl (dfalse (by omega)) ?_ | refine L_neq rfl rfl rfl rfl ?_)) | refine RL_skip rfl rfl rfl rfl ?_ | refine RL_skipU rfl rfl rfl ?_
              first | (refine RL_want rfl rfl ?_; refine L_move rfl rfl ?_) | refine RL_skip rfl rfl rfl rfl ?_ | refine RL_skipU rfl rfl rfl ?_
              first | (refine RL_want rfl rfl ?_; refine L_move rfl rfl ?_) | refine RL_skip rfl rfl rfl rfl ?_ | refine RL_skipU rfl rfl rfl ?_
              first | (refine RL_want rfl rfl ?_; refine L_move rfl rfl ?_) | refine RL_skip rfl rfl rfl rfl ?_ | refine RL_skipU rfl rfl rfl ?_
              first | (refine RL_want rfl rfl ?_; refine L_len rfl Try.underlying22 rfl ?_) | refine RL_skip rfl rfl rfl rfl ?_ | refine RL_skipU rfl rfl rfl ?_
              first | (refine RL_want rfl rfl ?_; (first | refine L_neq rfl rfl rfl (dtrue (by omega)) ?_ | refine L_neq rfl rfl rfl (dfalse (by omega)) ?_ | refine L_neq rfl rfl rfl rfl ?_)) | refine RL_skip rfl rfl rfl rfl ?_ | refine RL_skipU rfl rfl rfl ?_
              first | (refine RL_want rfl rfl ?_; (first | refine L_pick_t rfl rfl rfl ?_ | refine L_pick_f rfl rfl rfl ?_)) | refine RL_skip rfl rfl rfl rfl ?_ | refine RL_skipU rfl rfl rfl ?_
              first | (refine RL_want rfl rfl ?_; refine L_move rfl rfl ?_) | refine RL_skip rfl rfl rfl rfl ?_ | refine RL_skipU rfl rfl rfl ?_
              first | (refine RL_want rfl rfl ?_; refine L_move rfl rfl ?_) | refine RL_skip rfl rfl rfl rfl ?_ | refine RL_skipU rfl rfl rfl ?_
              first | (refine RL_want rfl rfl ?_; refine L_move rfl rfl ?_) | refine RL_skip rfl rfl rfl rfl ?_ | refine RL_skipU rfl rfl rfl ?_
              first | refine RL_skip rfl rfl rfl rfl ?_ | refine RL_skipU rfl rfl rfl ?_
              first | (refine RL_want rfl rfl ?_; refine L_not rfl rfl ?_) | refine RL_skip rfl rfl rfl rfl ?_ | refine RL_skipU rfl rfl rfl ?_
              first | (refine RL_want rfl rfl ?_; (first | refine L_pick_t rfl rfl rfl ?_ | refine L_pick_f rfl rfl rfl ?_)) | refine RL_skip rfl rfl rfl rfl ?_ | refine RL_skipU rfl rfl rfl ?_
              first | refine L_pick_t rfl rfl rfl ?_ | refine L_pick_f rfl rfl rfl ?_
              refine L_move rfl rfl ?_
              first | (refine RL_want rfl rfl ?_; refine L_move rfl rfl ?_) | refine RL_skip rfl rfl rfl rfl ?_ | refine RL_skipU rfl rfl rfl ?_
              first | (refine RL_want rfl rfl ?_; (first | refine L_eql rfl rfl rfl (dtrue (by omega)) ?_ | refine L_eql rfl rfl rfl (dfalse (by omega)) ?_ | refine L_eql rfl rfl rfl rfl ?_)) | refine RL_skip rfl rfl rfl rfl ?_ | refine RL_skipU rfl rfl rfl ?_
              first | (refine RL_want rfl rfl ?_; refine L_move rfl rfl ?_) | refine RL_skip rfl rfl rfl rfl ?_ | refine RL_skipU rfl rfl rfl ?_
              first | (refine RL_want rfl rfl ?_; refine L_move rfl rfl ?_) | refine RL_skip rfl rfl rfl rfl ?_ | refine RL_skipU rfl rfl rfl ?_
              first | (refine RL_want rfl rfl ?_; refine L_move rfl rfl ?_) | refine RL_skip rfl rfl rfl rfl ?_ | refine RL_skipU rfl rfl rfl ?_
              first | (refine RL_want rfl rfl ?_; refine L_len rfl Try.underlying22 rfl ?_) | refine RL_skip rfl rfl rfl rfl ?_ | refine RL_skipU rfl rfl rfl ?_
              first | (refine RL_want rfl rfl ?_; (first | refine L_eql rfl rfl rfl (dtrue (by omega)) ?_ | refine L_eql rfl rfl rfl (dfalse (by omega)) ?_ | refine L_eql rfl rfl rfl rfl ?_)) | refine RL_skip rfl rfl rfl rfl ?_ | refine RL_skipU rfl rfl rfl ?_
              first | (refine RL_want rfl rfl ?_; (first | refine L_pick_t rfl rfl rfl ?_ | refine L_pick_f rfl rfl rfl ?_)) | refine RL_skip rfl rfl rfl rfl ?_ | refine RL_skipU rfl rfl rfl ?_
              first | refine L_pick_t rfl rfl rfl ?_ | refine L_pick_f rfl rfl rfl ?_
              refine RL_nil' ?_
              refine Nx_cutP (_) (is := [0, 6, 12, 129]) (I' := (fun (w : World) => (HS w5 w [(gu, Row 4 (bls us))])) (_)) rfl rfl rfl ?_
              exact hs
          · clear hs
            intro w hI
            show W _ _ _ _ [(0, .slice a k cp), (6, .slice qa k ca), (12, .slice (some ⟨gu, 0, none⟩) 256 256), (129, .bool false)] w
            have hs : HS w5 w [(gu, Row 4 (bls us))] := hI
            clear hI
            refine W_if_false rfl ?_
            refine W_skip' ?_
            refine Nx_then ?_
            refine W_seq ?_
            refine W_seq ?_
            refine W_region ?_
            refine L_move rfl rfl ?_
            refine L_len rfl Try.underlying25 rfl ?_
            refine L_move rfl rfl ?_
            refine RL_then ?_
            refine W_block ?_
            refine W_loop2 (fun (i : Nat) (w : World) => [(0, .slice a k cp), (6, .slice qa k ca), (12, .slice (some ⟨gu, 0, none⟩) 256 256), (131, .int .i64 k), (132, .int .i64 i)]) (fun (i : Nat) (w : World) => w) (fun (i : Nat) (w : World) => (i ≤ k) ∧ (HS w5 w [(gu, Row 4 (bls us))])) (fun (i : Nat) (w : World) => k - i) (0) (_) (is := [0, 6, 12, 131, 132]) rfl rfl ?_ ?_
            · exact ⟨Nat.zero_le _, hs⟩
            · clear hs hi hik hlt
              intro i w hI
              show W _ _ _ _ [(0, .slice a k cp), (6, .slice qa k ca), (12, .slice (some ⟨gu, 0, none⟩) 256 256), (131, .int .i64 k), (132, .int .i64 i)] w
              obtain ⟨hi, hs⟩ := hI
              by_cases hlt : i < k
              · obtain ⟨ai, ci, g1, g2, g3, g4⟩ := hr5.row i (by omega)
                obtain ⟨m, hm⟩ : ∃ m, m = (rows.getD i []).length := ⟨_, rfl⟩
                have hm256 : m ≤ 256 := by rw [hm]; exact hF.wid i (by omega)
                rw [← hm] at g1 g2 g3
                have hqa := haA (by omega)
                have hqr := hra (by omega)
                have hrow : ∀ {w : World}, HS w5 w [(gu, Row 4 (bls us))] → w.cell? ((aD a).add i) = some (.slice ai m ci) := by intro w hs; exact (hr5.sl.old hs hO).get g1
                have hcel : ∀ {w : World}, HS w5 w [(gu, Row 4 (bls us))] → ∀ j, j < m → w.cell? ((aD ai).add j) = some (.int .i64 ((rows.getD i []).getD j 0)) := by intro w hs j hj; exact (g4.old hs hO).get (il_get (by omega))
                have haA2 : 0 < m → ai = some (aD ai) := fun h => g4.ao (by rw [il_length]; omega)
                have hub : ∀ j, j < m → el rows i j ≤ 1099511627776 := fun j hj => hF.cost i j (by omega) (by simp only [wid]; omega)
                refine W_seq ?_
                refine W_region ?_
                first | refine L_lss rfl rfl rfl (dtrue (by omega)) ?_ | refine L_lss rfl rfl rfl (dfalse (by omega)) ?_ | refine L_lss rfl rfl rfl rfl ?_
                refine RL_then ?_
                refine W_seq ?_
                refine W_if_true rfl ?_
                refine W_skip' ?_
                refine Nx_then ?_
                refine W_seq ?_
                refine W_block ?_
                refine W_seq ?_
                refine W_region ?_
                refine L_move rfl rfl ?_
                refine L_assign rfl rfl ?_
                refine RL_then ?_
                refine W_seq ?_
                refine W_seq ?_
                refine W_region ?_
                refine L_move rfl rfl ?_
                refine L_move rfl rfl ?_
                refine L_idx1 rfl Try.underlying22 Try.ti38 rfl rfl (by with_reducible first | exact natc_k _ | exact natc_a1 _ | exact natc_0 | exact natc_1 | exact natc_2 | exact natc_s1 _ (by omega) | exact natc_a2 _ | exact natc_add _ _ | exact natc_mul _ _ | exact natc (by omega)) (by omega) (by first | rfl | exact hqa | exact hqr | exact haA2 (by omega)) ?_
                refine L_load rfl Try.one38 rfl (by exact hrow hs) ?_
                refine L_len rfl Try.underlying38 rfl ?_
                refine L_move rfl rfl ?_
                refine RL_then ?_
                refine W_cut1 (fun (w : World) => [(0, .slice a k cp), (6, .slice qa k ca), (12, .slice (some ⟨gu, 0, none⟩) 256 256), (16, .int .i64 i), (131, .int .i64 k), (132, .int .i64 i)]) (fun (w : World) => w) (fun (w : World) => (HS w5 w [(gu, Row 4 (bls us))])) ?_ ?_
                · refine W_block ?_
                  refine W_loop2 (fun (j : Nat) (w : World) => [(0, .slice a k cp), (6, .slice qa k ca), (12, .slice (some ⟨gu, 0, none⟩) 256 256), (16, .int .i64 i), (131, .int .i64 k), (132, .int .i64 i), (139, .int .i64 m), (140, .int .i64 j)]) (fun (j : Nat) (w : World) => w) (fun (j : Nat) (w : World) => (j ≤ m) ∧ (HS w5 w [(gu, Row 4 (bls us))])) (fun (j : Nat) (w : World) => m - j) (0) (_) (is := [0, 6, 12, 16, 131, 132, 139, 140]) rfl rfl ?_ ?_
                  · exact ⟨Nat.zero_le _, hs⟩
                  · clear hs
                    intro j w hI
                    show W _ _ _ _ [(0, .slice a k cp), (6, .slice qa k ca), (12, .slice (some ⟨gu, 0, none⟩) 256 256), (16, .int .i64 i), (131, .int .i64 k), (132, .int .i64 i), (139, .int .i64 m), (140, .int .i64 j)] w
                    obtain ⟨hj, hs⟩ := hI
                    by_cases hltj : j < m
                    · skip
                      by_cases hneg : (rows.getD i []).getD j 0 < 0
                      · refine W_seq ?_
                        refine W_region ?_
                        first | refine L_lss rfl rfl rfl (dtrue (by omega)) ?_ | refine L_lss rfl rfl rfl (dfalse (by omega)) ?_ | refine L_lss rfl rfl rfl rfl ?_
                        refine RL_then ?_
                        refine W_seq ?_
                        refine W_if_true rfl ?_
                        refine W_skip' ?_
                        refine Nx_then ?_
                        refine W_seq ?_
                        refine W_block ?_
                        refine W_seq ?_
                        refine W_region ?_
                        refine L_move rfl rfl ?_
                        refine L_assign rfl rfl ?_
                        refine RL_then ?_
                        refine W_seq ?_
                        refine W_region ?_
                        refine L_move rfl rfl ?_
                        refine L_move rfl rfl ?_
                        refine L_idx1 rfl Try.underlying22 Try.ti38 rfl rfl (by with_reducible first | exact natc_k _ | exact natc_a1 _ | exact natc_0 | exact natc_1 | exact natc_2 | exact natc_s1 _ (by omega) | exact natc_a2 _ | exact natc_add _ _ | exact natc_mul _ _ | exact natc (by omega)) (by omega) (by first | rfl | exact hqa | exact hqr | exact haA2 (by omega)) ?_
                        refine L_load rfl Try.one38 rfl (by first | exact hrow hs | exact hcel hs _ (by omega) | exact hs.cellA (i := 0) rfl (bls_get (by omega))) ?_
                        refine L_move rfl rfl ?_
                        refine L_idx1 rfl Try.underlying38 Try.ti2 rfl rfl (by with_reducible first | exact natc_k _ | exact natc_a1 _ | exact natc_0 | exact natc_1 | exact natc_2 | exact natc_s1 _ (by omega) | exact natc_a2 _ | exact natc_add _ _ | exact natc_mul _ _ | exact natc (by omega)) (by omega) (by first | rfl | exact hqa | exact hqr | exact haA2 (by omega)) ?_
                        refine L_load rfl Try.one2 rfl (by first | exact hrow hs | exact hcel hs _ (by omega) | exact hs.cellA (i := 0) rfl (bls_get (by omega))) ?_
                        refine L_assign rfl rfl ?_
                        refine RL_then ?_
                        refine W_seq ?_
                        refine W_seq ?_
                        refine W_region ?_
                        refine L_move rfl rfl ?_
                        first | refine L_lss rfl rfl rfl (dtrue (by omega)) ?_ | refine L_lss rfl rfl rfl (dfalse (by omega)) ?_ | refine L_lss rfl rfl rfl rfl ?_
                        refine L_move rfl rfl ?_
                        first | (refine RL_want rfl rfl ?_; refine L_move rfl rfl ?_) | refine RL_skip rfl rfl rfl rfl ?_ | refine RL_skipU rfl rfl rfl ?_
                        first | (refine RL_want rfl rfl ?_; refine L_move rfl rfl ?_) | refine RL_skip rfl rfl rfl rfl ?_ | refine RL_skipU rfl rfl rfl ?_
                        first | (refine RL_want rfl rfl ?_; refine L_idx1 rfl Try.underlying31 Try.ti4 rfl rfl (by with_reducible first | exact natc_k _ | exact natc_a1 _ | exact natc_0 | exact natc_1 | exact natc_2 | exact natc_s1 _ (by omega) | exact natc_a2 _ | exact natc_add _ _ | exact natc_mul _ _ | exact natc (by omega)) (by omega) (by first | rfl | exact hqa | exact hqr | exact haA2 (by omega)) ?_) | refine RL_skip rfl rfl rfl rfl ?_ | refine RL_skipU rfl rfl rfl ?_
                        first | (refine RL_want rfl rfl ?_; refine L_load rfl Try.one4 rfl (by first | exact hrow hs | exact hcel hs _ (by omega) | exact hs.cellA (i := 0) rfl (bls_get (by omega))) ?_) | refine RL_skip rfl rfl rfl rfl ?_ | refine RL_skipU rfl rfl rfl ?_
                        first | refine L_pick_t rfl rfl rfl ?_ | refine L_pick_f rfl rfl rfl ?_
                        refine RL_then ?_
                        refine W_if_true rfl ?_
                        refine W_exit' ?_
                        refine Ex_then_exit ?_
                        refine Ex_block_hit ?_
                        refine Nx_then ?_
                        refine W_region ?_
                        first | refine L_add rfl rfl rfl (wrp_i64 (by omega)) ?_ | refine L_add rfl rfl rfl rfl ?_
                        refine L_move rfl rfl ?_
                        refine RL_nil' ?_
                        refine Nx_loopP (j + 1, _) (is := [0, 6, 12, 16, 131, 132, 139, 140]) (I' := (fun (j : Nat) (w : World) => (j ≤ m) ∧ (HS w5 w [(gu, Row 4 (bls us))])) (j + 1) (_)) rfl rfl rfl ?_ ?_
                        · exact ⟨by omega, hs⟩
                        · omega
                      · refine W_seq ?_
                        refine W_region ?_
                        first | refine L_lss rfl rfl rfl (dtrue (by omega)) ?_ | refine L_lss rfl rfl rfl (dfalse (by omega)) ?_ | refine L_lss rfl rfl rfl rfl ?_
                        refine RL_then ?_
                        refine W_seq ?_
                        refine W_if_true rfl ?_
                        refine W_skip' ?_
                        refine Nx_then ?_
                        refine W_seq ?_
                        refine W_block ?_
                        refine W_seq ?_
                        refine W_region ?_
                        refine L_move rfl rfl ?_
                        refine L_assign rfl rfl ?_
                        refine RL_then ?_
                        refine W_seq ?_
                        refine W_region ?_
                        refine L_move rfl rfl ?_
                        refine L_move rfl rfl ?_
                        refine L_idx1 rfl Try.underlying22 Try.ti38 rfl rfl (by with_reducible first | exact natc_k _ | exact natc_a1 _ | exact natc_0 | exact natc_1 | exact natc_2 | exact natc_s1 _ (by omega) | exact natc_a2 _ | exact natc_add _ _ | exact natc_mul _ _ | exact natc (by omega)) (by omega) (by first | rfl | exact hqa | exact hqr | exact haA2 (by omega)) ?_
                        refine L_load rfl Try.one38 rfl (by first | exact hrow hs | exact hcel hs _ (by omega) | exact hs.cellA (i := 0) rfl (bls_get (by omega))) ?_
                        refine L_move rfl rfl ?_
                        refine L_idx1 rfl Try.underlying38 Try.ti2 rfl rfl (by with_reducible first | exact natc_k _ | exact natc_a1 _ | exact natc_0 | exact natc_1 | exact natc_2 | exact natc_s1 _ (by omega) | exact natc_a2 _ | exact natc_add _ _ | exact natc_mul _ _ | exact natc (by omega)) (by omega) (by first | rfl | exact hqa | exact hqr | exact haA2 (by omega)) ?_
                        refine L_load rfl Try.one2 rfl (by first | exact hrow hs | exact hcel hs _ (by omega) | exact hs.cellA (i := 0) rfl (bls_get (by omega))) ?_
                        refine L_assign rfl rfl ?_
                        refine RL_then ?_
                        refine W_seq ?_
                        refine W_seq ?_
                        refine W_region ?_
                        refine L_move rfl rfl ?_
                        first | refine L_lss rfl rfl rfl (dtrue (by omega)) ?_ | refine L_lss rfl rfl rfl (dfalse (by omega)) ?_ | refine L_lss rfl rfl rfl rfl ?_
                        refine L_move rfl rfl ?_
                        first | (refine RL_want rfl rfl ?_; refine L_move rfl rfl ?_) | refine RL_skip rfl rfl rfl rfl ?_ | refine RL_skipU rfl rfl rfl ?_
                        first | (refine RL_want rfl rfl ?_; refine L_move rfl rfl ?_) | refine RL_skip rfl rfl rfl rfl ?_ | refine RL_skipU rfl rfl rfl ?_
                        first | (refine RL_want rfl rfl ?_; refine L_idx1 rfl Try.underlying31 Try.ti4 rfl rfl (by with_reducible first | exact natc_k _ | exact natc_a1 _ | exact natc_0 | exact natc_1 | exact natc_2 | exact natc_s1 _ (by omega) | exact natc_a2 _ | exact natc_add _ _ | exact natc_mul _ _ | exact natc (by omega)) (by omega) (by first | rfl | exact hqa | exact hqr | exact haA2 (by omega)) ?_) | refine RL_skip rfl rfl rfl rfl ?_ | refine RL_skipU rfl rfl rfl ?_
                        first | (refine RL_want rfl rfl ?_; refine L_load rfl Try.one4 rfl (by first | exact hrow hs | exact hcel hs _ (by omega) | exact hs.cellA (i := 0) rfl (bls_get (by omega))) ?_) | refine RL_skip rfl rfl rfl rfl ?_ | refine RL_skipU rfl rfl rfl ?_
                        cases hu : us.getD j false
                        · obtain ⟨c2, hc2, hcw, hcle, hceq⟩ := hT.free i j (by omega) (by simp only [wid]; omega) (by simp only [el]; omega) (by rw [hk]; exact hus' j (by omega) hu)
                          have hcw' : c2 < m := by simp only [wid] at hcw; omega
                          have hcle' : (rows.getD i []).getD c2 0 ≤ (rows.getD i []).getD j 0 := hcle
                          have hcA : ∀ {w : World}, HS w5 w [(gu, Row 4 (bls us))] → w.cell? ((aD qa).add i) = some (.int .i64 (c2 : Int)) := by
                            intro w hs
                            have := (hsla.old hs hO).get (il_get (j := i) (by omega))
                            rw [hc2] at this; exact this
                          by_cases heq : (rows.getD i []).getD j 0 = (rows.getD i []).getD c2 0
                          · have hlt3 := hceq heq
                            first | refine L_pick_t rfl rfl rfl ?_ | refine L_pick_f rfl rfl rfl ?_
                            refine RL_then ?_
                            refine W_if_false rfl ?_
                            refine W_skip' ?_
                            refine Nx_then ?_
                            refine W_seq ?_
                            refine W_pht [0, 1, 2] [3, 4, 5, 6, 7, 8, 9, 10, 11, 12, 13, 14, 15, 16, 17, 18, 19, 20, 21, 22, 23, 24, 25, 26, 27, 28, 29, 30, 31, 32, 33, 34, 35, 36, 37, 38, 39, 40] [] (fun _ _ _ => False) Try.mixed (by kernel_rfl) (fun _ _ _ _ _ h => h) hs ?_
                            refine PL_val rfl (fun w => R_move rfl) ?_
                            refine PL_val rfl (fun w => R_move rfl) ?_
                            refine PL_val rfl (fun w => R_idx1 Try.underlying25 Try.ti3 rfl rfl (by with_reducible first | exact natc_k _ | exact natc_a1 _ | exact natc_0 | exact natc_1 | exact natc_2 | exact natc_s1 _ (by omega) | exact natc_a2 _ | exact natc_add _ _ | exact natc_mul _ _ | exact natc (by omega)) (by omega) (by first | rfl | exact hqa | exact hqr | exact haA2 (by omega))) ?_
                            refine PL_end ?_
                            refine HL_val rfl (fun w hs => R_load Try.one3 rfl (by first | exact hcA hs | exact hrow hs | exact hcel hs _ (by omega))) ?_
                            first | refine HL_val rfl (fun w hs => R_lss rfl rfl (dtrue (by omega))) ?_ | refine HL_val rfl (fun w hs => R_lss rfl rfl (dfalse (by omega))) ?_ | refine HL_val rfl (fun w hs => R_lss rfl rfl rfl) ?_
                            refine HL_val rfl (fun w hs => R_move rfl) ?_
                            first | (refine HL_want rfl rfl ?_; refine HL_val rfl (fun w hs => R_move rfl) ?_) | refine HL_skip rfl rfl rfl rfl ?_ | refine HL_skipU rfl rfl rfl ?_
                            first | (refine HL_want rfl rfl ?_; refine HL_val rfl (fun w hs => R_move rfl) ?_) | refine HL_skip rfl rfl rfl rfl ?_ | refine HL_skipU rfl rfl rfl ?_
                            first | (refine HL_want rfl rfl ?_; refine HL_val rfl (fun w hs => R_move rfl) ?_) | refine HL_skip rfl rfl rfl rfl ?_ | refine HL_skipU rfl rfl rfl ?_
                            first | (refine HL_want rfl rfl ?_; refine HL_val rfl (fun w hs => R_idx1 Try.underlying22 Try.ti38 rfl rfl (by with_reducible first | exact natc_k _ | exact natc_a1 _ | exact natc_0 | exact natc_1 | exact natc_2 | exact natc_s1 _ (by omega) | exact natc_a2 _ | exact natc_add _ _ | exact natc_mul _ _ | exact natc (by omega)) (by omega) (by first | rfl | exact hqa | exact hqr | exact haA2 (by omega))) ?_) | refine HL_skip rfl rfl rfl rfl ?_ | refine HL_skipU rfl rfl rfl ?_
                            first | (refine HL_want rfl rfl ?_; refine HL_val rfl (fun w hs => R_load Try.one38 rfl (by first | exact hcA hs | exact hrow hs | exact hcel hs _ (by omega))) ?_) | refine HL_skip rfl rfl rfl rfl ?_ | refine HL_skipU rfl rfl rfl ?_
                            first | (refine HL_want rfl rfl ?_; refine HL_val rfl (fun w hs => R_move rfl) ?_) | refine HL_skip rfl rfl rfl rfl ?_ | refine HL_skipU rfl rfl rfl ?_
                            first | (refine HL_want rfl rfl ?_; refine HL_val rfl (fun w hs => R_move rfl) ?_) | refine HL_skip rfl rfl rfl rfl ?_ | refine HL_skipU rfl rfl rfl ?_
                            first | (refine HL_want rfl rfl ?_; refine HL_val rfl (fun w hs => R_idx1 Try.underlying25 Try.ti3 rfl rfl (by with_reducible first | exact natc_k _ | exact natc_a1 _ | exact natc_0 | exact natc_1 | exact natc_2 | exact natc_s1 _ (by omega) | exact natc_a2 _ | exact natc_add _ _ | exact natc_mul _ _ | exact natc (by omega)) (by omega) (by first | rfl | exact hqa | exact hqr | exact haA2 (by omega))) ?_) | refine HL_skip rfl rfl rfl rfl ?_ | refine HL_skipU rfl rfl rfl ?_
                            first | (refine HL_want rfl rfl ?_; refine HL_val rfl (fun w hs => R_load Try.one3 rfl (by first | exact hcA hs | exact hrow hs | exact hcel hs _ (by omega))) ?_) | refine HL_skip rfl rfl rfl rfl ?_ | refine HL_skipU rfl rfl rfl ?_
                            first | (refine HL_want rfl rfl ?_; refine HL_val rfl (fun w hs => R_idx1 Try.underlying38 Try.ti2 rfl rfl (by with_reducible first | exact natc_k _ | exact natc_a1 _ | exact natc_0 | exact natc_1 | exact natc_2 | exact natc_s1 _ (by omega) | exact natc_a2 _ | exact natc_add _ _ | exact natc_mul _ _ | exact natc (by omega)) (by omega) (by first | rfl | exact hqa | exact hqr | exact haA2 (by omega))) ?_) | refine HL_skip rfl rfl rfl rfl ?_ | refine HL_skipU rfl rfl rfl ?_
                            first | (refine HL_want rfl rfl ?_; refine HL_val rfl (fun w hs => R_load Try.one2 rfl (by first | exact hcA hs | exact hrow hs | exact hcel hs _ (by omega))) ?_) | refine HL_skip rfl rfl rfl rfl ?_ | refine HL_skipU rfl rfl rfl ?_
                            first | (refine HL_want rfl rfl ?_; (first | refine HL_val rfl (fun w hs => R_lss rfl rfl (dtrue (by omega))) ?_ | refine HL_val rfl (fun w hs => R_lss rfl rfl (dfalse (by omega))) ?_ | refine HL_val rfl (fun w hs => R_lss rfl rfl rfl) ?_)) | refine HL_skip rfl rfl rfl rfl ?_ | refine HL_skipU rfl rfl rfl ?_
                            first | refine HL_val rfl (fun w hs => R_pick_t rfl rfl) ?_ | refine HL_val rfl (fun w hs => R_pick_f rfl rfl) ?_
                            refine HL_val rfl (fun w hs => R_move rfl) ?_
                            first | (refine HL_want rfl rfl ?_; refine HL_val rfl (fun w hs => R_move rfl) ?_) | refine HL_skip rfl rfl rfl rfl ?_ | refine HL_skipU rfl rfl rfl ?_
                            first | (refine HL_want rfl rfl ?_; refine HL_val rfl (fun w hs => R_move rfl) ?_) | refine HL_skip rfl rfl rfl rfl ?_ | refine HL_skipU rfl rfl rfl ?_
                            first | (refine HL_want rfl rfl ?_; refine HL_val rfl (fun w hs => R_move rfl) ?_) | refine HL_skip rfl rfl rfl rfl ?_ | refine HL_skipU rfl rfl rfl ?_
                            first | (refine HL_want rfl rfl ?_; refine HL_val rfl (fun w hs => R_idx1 Try.underlying22 Try.ti38 rfl rfl (by with_reducible first | exact natc_k _ | exact natc_a1 _ | exact natc_0 | exact natc_1 | exact natc_2 | exact natc_s1 _ (by omega) | exact natc_a2 _ | exact natc_add _ _ | exact natc_mul _ _ | exact natc (by omega)) (by omega) (by first | rfl | exact hqa | exact hqr | exact haA2 (by omega))) ?_) | refine HL_skip rfl rfl rfl rfl ?_ | refine HL_skipU rfl rfl rfl ?_
                            first | (refine HL_want rfl rfl ?_; refine HL_val rfl (fun w hs => R_load Try.one38 rfl (by first | exact hcA hs | exact hrow hs | exact hcel hs _ (by omega))) ?_) | refine HL_skip rfl rfl rfl rfl ?_ | refine HL_skipU rfl rfl rfl ?_
                            first | (refine HL_want rfl rfl ?_; refine HL_val rfl (fun w hs => R_move rfl) ?_) | refine HL_skip rfl rfl rfl rfl ?_ | refine HL_skipU rfl rfl rfl ?_
                            first | (refine HL_want rfl rfl ?_; refine HL_val rfl (fun w hs => R_move rfl) ?_) | refine HL_skip rfl rfl rfl rfl ?_ | refine HL_skipU rfl rfl rfl ?_
                            first | (refine HL_want rfl rfl ?_; refine HL_val rfl (fun w hs => R_idx1 Try.underlying25 Try.ti3 rfl rfl (by with_reducible first | exact natc_k _ | exact natc_a1 _ | exact natc_0 | exact natc_1 | exact natc_2 | exact natc_s1 _ (by omega) | exact natc_a2 _ | exact natc_add _ _ | exact natc_mul _ _ | exact natc (by omega)) (by omega) (by first | rfl | exact hqa | exact hqr | exact haA2 (by omega))) ?_) | refine HL_skip rfl rfl rfl rfl ?_ | refine HL_skipU rfl rfl rfl ?_
                            first | (refine HL_want rfl rfl ?_; refine HL_val rfl (fun w hs => R_load Try.one3 rfl (by first | exact hcA hs | exact hrow hs | exact hcel hs _ (by omega))) ?_) | refine HL_skip rfl rfl rfl rfl ?_ | refine HL_skipU rfl rfl rfl ?_
                            first | (refine HL_want rfl rfl ?_; refine HL_val rfl (fun w hs => R_idx1 Try.underlying38 Try.ti2 rfl rfl (by with_reducible first | exact natc_k _ | exact natc_a1 _ | exact natc_0 | exact natc_1 | exact natc_2 | exact natc_s1 _ (by omega) | exact natc_a2 _ | exact natc_add _ _ | exact natc_mul _ _ | exact natc (by omega)) (by omega) (by first | rfl | exact hqa | exact hqr | exact haA2 (by omega))) ?_) | refine HL_skip rfl rfl rfl rfl ?_ | refine HL_skipU rfl rfl rfl ?_
                            first | (refine HL_want rfl rfl ?_; refine HL_val rfl (fun w hs => R_load Try.one2 rfl (by first | exact hcA hs | exact hrow hs | exact hcel hs _ (by omega))) ?_) | refine HL_skip rfl rfl rfl rfl ?_ | refine HL_skipU rfl rfl rfl ?_
                            first | (refine HL_want rfl rfl ?_; (first | refine HL_val rfl (fun w hs => R_eql rfl rfl (dtrue (by omega))) ?_ | refine HL_val rfl (fun w hs => R_eql rfl rfl (dfalse (by omega))) ?_ | refine HL_val rfl (fun w hs => R_eql rfl rfl rfl) ?_)) | refine HL_skip rfl rfl rfl rfl ?_ | refine HL_skipU rfl rfl rfl ?_
                            first | (refine HL_want rfl rfl ?_; refine HL_val rfl (fun w hs => R_move rfl) ?_) | refine HL_skip rfl rfl rfl rfl ?_ | refine HL_skipU rfl rfl rfl ?_
                            first | (refine HL_want rfl rfl ?_; refine HL_val rfl (fun w hs => R_move rfl) ?_) | refine HL_skip rfl rfl rfl rfl ?_ | refine HL_skipU rfl rfl rfl ?_
                            first | (refine HL_want rfl rfl ?_; refine HL_val rfl (fun w hs => R_move rfl) ?_) | refine HL_skip rfl rfl rfl rfl ?_ | refine HL_skipU rfl rfl rfl ?_
                            first | (refine HL_want rfl rfl ?_; refine HL_val rfl (fun w hs => R_move rfl) ?_) | refine HL_skip rfl rfl rfl rfl ?_ | refine HL_skipU rfl rfl rfl ?_
                            first | (refine HL_want rfl rfl ?_; refine HL_val rfl (fun w hs => R_idx1 Try.underlying25 Try.ti3 rfl rfl (by with_reducible first | exact natc_k _ | exact natc_a1 _ | exact natc_0 | exact natc_1 | exact natc_2 | exact natc_s1 _ (by omega) | exact natc_a2 _ | exact natc_add _ _ | exact natc_mul _ _ | exact natc (by omega)) (by omega) (by first | rfl | exact hqa | exact hqr | exact haA2 (by omega))) ?_) | refine HL_skip rfl rfl rfl rfl ?_ | refine HL_skipU rfl rfl rfl ?_
                            first | (refine HL_want rfl rfl ?_; refine HL_val rfl (fun w hs => R_load Try.one3 rfl (by first | exact hcA hs | exact hrow hs | exact hcel hs _ (by omega))) ?_) | refine HL_skip rfl rfl rfl rfl ?_ | refine HL_skipU rfl rfl rfl ?_
                            first | (refine HL_want rfl rfl ?_; (first | refine HL_val rfl (fun w hs => R_lss rfl rfl (dtrue (by omega))) ?_ | refine HL_val rfl (fun w hs => R_lss rfl rfl (dfalse (by omega))) ?_ | refine HL_val rfl (fun w hs => R_lss rfl rfl rfl) ?_)) | refine HL_skip rfl rfl rfl rfl ?_ | refine HL_skipU rfl rfl rfl ?_
                            first | (refine HL_want rfl rfl ?_; (first | refine HL_val rfl (fun w hs => R_pick_t rfl rfl) ?_ | refine HL_val rfl (fun w hs => R_pick_f rfl rfl) ?_)) | refine HL_skip rfl rfl rfl rfl ?_ | refine HL_skipU rfl rfl rfl ?_
                            first | refine HL_val rfl (fun w hs => R_pick_t rfl rfl) ?_ | refine HL_val rfl (fun w hs => R_pick_f rfl rfl) ?_
                            refine HL_tail ?_
                            intro w hs
                            refine RL_then ?_
                            refine W_if_false rfl ?_
                            refine W_skip' ?_
                            refine Nx_block ?_
                            refine Nx_then ?_
                            refine W_region ?_
                            first | refine L_add rfl rfl rfl (wrp_i64 (by omega)) ?_ | refine L_add rfl rfl rfl rfl ?_
                            refine L_move rfl rfl ?_
                            refine RL_nil' ?_
                            refine Nx_loopP (j + 1, _) (is := [0, 6, 12, 16, 131, 132, 139, 140]) (I' := (fun (j : Nat) (w : World) => (j ≤ m) ∧ (HS w5 w [(gu, Row 4 (bls us))])) (j + 1) (_)) rfl rfl rfl ?_ ?_
                            · exact ⟨by omega, hs⟩
                            · omega
                          · first | refine L_pick_t rfl rfl rfl ?_ | refine L_pick_f rfl rfl rfl ?_
                            refine RL_then ?_
                            refine W_if_false rfl ?_
                            refine W_skip' ?_
                            refine Nx_then ?_
                            refine W_seq ?_
                            refine W_pht [0, 1, 2] [3, 4, 5, 6, 7, 8, 9, 10, 11, 12, 13, 14, 15, 16, 17, 18, 19, 20, 21, 22, 23, 24, 25, 26, 27, 28, 29, 30, 31, 32, 33, 34, 35, 36, 37, 38, 39, 40] [] (fun _ _ _ => False) Try.mixed (by kernel_rfl) (fun _ _ _ _ _ h => h) hs ?_
                            refine PL_val rfl (fun w => R_move rfl) ?_
                            refine PL_val rfl (fun w => R_move rfl) ?_
                            refine PL_val rfl (fun w => R_idx1 Try.underlying25 Try.ti3 rfl rfl (by with_reducible first | exact natc_k _ | exact natc_a1 _ | exact natc_0 | exact natc_1 | exact natc_2 | exact natc_s1 _ (by omega) | exact natc_a2 _ | exact natc_add _ _ | exact natc_mul _ _ | exact natc (by omega)) (by omega) (by first | rfl | exact hqa | exact hqr | exact haA2 (by omega))) ?_
                            refine PL_end ?_
                            refine HL_val rfl (fun w hs => R_load Try.one3 rfl (by first | exact hcA hs | exact hrow hs | exact hcel hs _ (by omega))) ?_
                            first | refine HL_val rfl (fun w hs => R_lss rfl rfl (dtrue (by omega))) ?_ | refine HL_val rfl (fun w hs => R_lss rfl rfl (dfalse (by omega))) ?_ | refine HL_val rfl (fun w hs => R_lss rfl rfl rfl) ?_
                            refine HL_val rfl (fun w hs => R_move rfl) ?_
                            first | (refine HL_want rfl rfl ?_; refine HL_val rfl (fun w hs => R_move rfl) ?_) | refine HL_skip rfl rfl rfl rfl ?_ | refine HL_skipU rfl rfl rfl ?_
                            first | (refine HL_want rfl rfl ?_; refine HL_val rfl (fun w hs => R_move rfl) ?_) | refine HL_skip rfl rfl rfl rfl ?_ | refine HL_skipU rfl rfl rfl ?_
                            first | (refine HL_want rfl rfl ?_; refine HL_val rfl (fun w hs => R_move rfl) ?_) | refine HL_skip rfl rfl rfl rfl ?_ | refine HL_skipU rfl rfl rfl ?_
                            first | (refine HL_want rfl rfl ?_; refine HL_val rfl (fun w hs => R_idx1 Try.underlying22 Try.ti38 rfl rfl (by with_reducible first | exact natc_k _ | exact natc_a1 _ | exact natc_0 | exact natc_1 | exact natc_2 | exact natc_s1 _ (by omega) | exact natc_a2 _ | exact natc_add _ _ | exact natc_mul _ _ | exact natc (by omega)) (by omega) (by first | rfl | exact hqa | exact hqr | exact haA2 (by omega))) ?_) | refine HL_skip rfl rfl rfl rfl ?_ | refine HL_skipU rfl rfl rfl ?_
                            first | (refine HL_want rfl rfl ?_; refine HL_val rfl (fun w hs => R_load Try.one38 rfl (by first | exact hcA hs | exact hrow hs | exact hcel hs _ (by omega))) ?_) | refine HL_skip rfl rfl rfl rfl ?_ | refine HL_skipU rfl rfl rfl ?_
                            first | (refine HL_want rfl rfl ?_; refine HL_val rfl (fun w hs => R_move rfl) ?_) | refine HL_skip rfl rfl rfl rfl ?_ | refine HL_skipU rfl rfl rfl ?_
                            first | (refine HL_want rfl rfl ?_; refine HL_val rfl (fun w hs => R_move rfl) ?_) | refine HL_skip rfl rfl rfl rfl ?_ | refine HL_skipU rfl rfl rfl ?_
                            first | (refine HL_want rfl rfl ?_; refine HL_val rfl (fun w hs => R_idx1 Try.underlying25 Try.ti3 rfl rfl (by with_reducible first | exact natc_k _ | exact natc_a1 _ | exact natc_0 | exact natc_1 | exact natc_2 | exact natc_s1 _ (by omega) | exact natc_a2 _ | exact natc_add _ _ | exact natc_mul _ _ | exact natc (by omega)) (by omega) (by first | rfl | exact hqa | exact hqr | exact haA2 (by omega))) ?_) | refine HL_skip rfl rfl rfl rfl ?_ | refine HL_skipU rfl rfl rfl ?_
                            first | (refine HL_want rfl rfl ?_; refine HL_val rfl (fun w hs => R_load Try.one3 rfl (by first | exact hcA hs | exact hrow hs | exact hcel hs _ (by omega))) ?_) | refine HL_skip rfl rfl rfl rfl ?_ | refine HL_skipU rfl rfl rfl ?_
                            first | (refine HL_want rfl rfl ?_; refine HL_val rfl (fun w hs => R_idx1 Try.underlying38 Try.ti2 rfl rfl (by with_reducible first | exact natc_k _ | exact natc_a1 _ | exact natc_0 | exact natc_1 | exact natc_2 | exact natc_s1 _ (by omega) | exact natc_a2 _ | exact natc_add _ _ | exact natc_mul _ _ | exact natc (by omega)) (by omega) (by first | rfl | exact hqa | exact hqr | exact haA2 (by omega))) ?_) | refine HL_skip rfl rfl rfl rfl ?_ | refine HL_skipU rfl rfl rfl ?_
                            first | (refine HL_want rfl rfl ?_; refine HL_val rfl (fun w hs => R_load Try.one2 rfl (by first | exact hcA hs | exact hrow hs | exact hcel hs _ (by omega))) ?_) | refine HL_skip rfl rfl rfl rfl ?_ | refine HL_skipU rfl rfl rfl ?_
                            first | (refine HL_want rfl rfl ?_; (first | refine HL_val rfl (fun w hs => R_lss rfl rfl (dtrue (by omega))) ?_ | refine HL_val rfl (fun w hs => R_lss rfl rfl (dfalse (by omega))) ?_ | refine HL_val rfl (fun w hs => R_lss rfl rfl rfl) ?_)) | refine HL_skip rfl rfl rfl rfl ?_ | refine HL_skipU rfl rfl rfl ?_
                            first | refine HL_val rfl (fun w hs => R_pick_t rfl rfl) ?_ | refine HL_val rfl (fun w hs => R_pick_f rfl rfl) ?_
                            refine HL_val rfl (fun w hs => R_move rfl) ?_
                            first | (refine HL_want rfl rfl ?_; refine HL_val rfl (fun w hs => R_move rfl) ?_) | refine HL_skip rfl rfl rfl rfl ?_ | refine HL_skipU rfl rfl rfl ?_
                            first | (refine HL_want rfl rfl ?_; refine HL_val rfl (fun w hs => R_move rfl) ?_) | refine HL_skip rfl rfl rfl rfl ?_ | refine HL_skipU rfl rfl rfl ?_
                            first | (refine HL_want rfl rfl ?_; refine HL_val rfl (fun w hs => R_move rfl) ?_) | refine HL_skip rfl rfl rfl rfl ?_ | refine HL_skipU rfl rfl rfl ?_
                            first | (refine HL_want rfl rfl ?_; refine HL_val rfl (fun w hs => R_idx1 Try.underlying22 Try.ti38 rfl rfl (by with_reducible first | exact natc_k _ | exact natc_a1 _ | exact natc_0 | exact natc_1 | exact natc_2 | exact natc_s1 _ (by omega) | exact natc_a2 _ | exact natc_add _ _ | exact natc_mul _ _ | exact natc (by omega)) (by omega) (by first | rfl | exact hqa | exact hqr | exact haA2 (by omega))) ?_) | refine HL_skip rfl rfl rfl rfl ?_ | refine HL_skipU rfl rfl rfl ?_
                            first | (refine HL_want rfl rfl ?_; refine HL_val rfl (fun w hs => R_load Try.one38 rfl (by first | exact hcA hs | exact hrow hs | exact hcel hs _ (by omega))) ?_) | refine HL_skip rfl rfl rfl rfl ?_ | refine HL_skipU rfl rfl rfl ?_
                            first | (refine HL_want rfl rfl ?_; refine HL_val rfl (fun w hs => R_move rfl) ?_) | refine HL_skip rfl rfl rfl rfl ?_ | refine HL_skipU rfl rfl rfl ?_
                            first | (refine HL_want rfl rfl ?_; refine HL_val rfl (fun w hs => R_move rfl) ?_) | refine HL_skip rfl rfl rfl rfl ?_ | refine HL_skipU rfl rfl rfl ?_
                            first | (refine HL_want rfl rfl ?_; refine HL_val rfl (fun w hs => R_idx1 Try.underlying25 Try.ti3 rfl rfl (by with_reducible first | exact natc_k _ | exact natc_a1 _ | exact natc_0 | exact natc_1 | exact natc_2 | exact natc_s1 _ (by omega) | exact natc_a2 _ | exact natc_add _ _ | exact natc_mul _ _ | exact natc (by omega)) (by omega) (by first | rfl | exact hqa | exact hqr | exact haA2 (by omega))) ?_) | refine HL_skip rfl rfl rfl rfl ?_ | refine HL_skipU rfl rfl rfl ?_
                            first | (refine HL_want rfl rfl ?_; refine HL_val rfl (fun w hs => R_load Try.one3 rfl (by first | exact hcA hs | exact hrow hs | exact hcel hs _ (by omega))) ?_) | refine HL_skip rfl rfl rfl rfl ?_ | refine HL_skipU rfl rfl rfl ?_
                            first | (refine HL_want rfl rfl ?_; refine HL_val rfl (fun w hs => R_idx1 Try.underlying38 Try.ti2 rfl rfl (by with_reducible first | exact natc_k _ | exact natc_a1 _ | exact natc_0 | exact natc_1 | exact natc_2 | exact natc_s1 _ (by omega) | exact natc_a2 _ | exact natc_add _ _ | exact natc_mul _ _ | exact natc (by omega)) (by omega) (by first | rfl | exact hqa | exact hqr | exact haA2 (by omega))) ?_) | refine HL_skip rfl rfl rfl rfl ?_ | refine HL_skipU rfl rfl rfl ?_
                            first | (refine HL_want rfl rfl ?_; refine HL_val rfl (fun w hs => R_load Try.one2 rfl (by first | exact hcA hs | exact hrow hs | exact hcel hs _ (by omega))) ?_) | refine HL_skip rfl rfl rfl rfl ?_ | refine HL_skipU rfl rfl rfl ?_
                            first | (refine HL_want rfl rfl ?_; (first | refine HL_val rfl (fun w hs => R_eql rfl rfl (dtrue (by omega))) ?_ | refine HL_val rfl (fun w hs => R_eql rfl rfl (dfalse (by omega))) ?_ | refine HL_val rfl (fun w hs => R_eql rfl rfl rfl) ?_)) | refine HL_skip rfl rfl rfl rfl ?_ | refine HL_skipU rfl rfl rfl ?_
                            first | (refine HL_want rfl rfl ?_; refine HL_val rfl (fun w hs => R_move rfl) ?_) | refine HL_skip rfl rfl rfl rfl ?_ | refine HL_skipU rfl rfl rfl ?_
                            first | (refine HL_want rfl rfl ?_; refine HL_val rfl (fun w hs => R_move rfl) ?_) | refine HL_skip rfl rfl rfl rfl ?_ | refine HL_skipU rfl rfl rfl ?_
                            first | (refine HL_want rfl rfl ?_; refine HL_val rfl (fun w hs => R_move rfl) ?_) | refine HL_skip rfl rfl rfl rfl ?_ | refine HL_skipU rfl rfl rfl ?_
                            first | (refine HL_want rfl rfl ?_; refine HL_val rfl (fun w hs => R_move rfl) ?_) | refine HL_skip rfl rfl rfl rfl ?_ | refine HL_skipU rfl rfl rfl ?_
                            first | (refine HL_want rfl rfl ?_; refine HL_val rfl (fun w hs => R_idx1 Try.underlying25 Try.ti3 rfl rfl (by with_reducible first | exact natc_k _ | exact natc_a1 _ | exact natc_0 | exact natc_1 | exact natc_2 | exact natc_s1 _ (by omega) | exact natc_a2 _ | exact natc_add _ _ | exact natc_mul _ _ | exact natc (by omega)) (by omega) (by first | rfl | exact hqa | exact hqr | exact haA2 (by omega))) ?_) | refine HL_skip rfl rfl rfl rfl ?_ | refine HL_skipU rfl rfl rfl ?_
                            first | (refine HL_want rfl rfl ?_; refine HL_val rfl (fun w hs => R_load Try.one3 rfl (by first | exact hcA hs | exact hrow hs | exact hcel hs _ (by omega))) ?_) | refine HL_skip rfl rfl rfl rfl ?_ | refine HL_skipU rfl rfl rfl ?_
                            first | (refine HL_want rfl rfl ?_; (first | refine HL_val rfl (fun w hs => R_lss rfl rfl (dtrue (by omega))) ?_ | refine HL_val rfl (fun w hs => R_lss rfl rfl (dfalse (by omega))) ?_ | refine HL_val rfl (fun w hs => R_lss rfl rfl rfl) ?_)) | refine HL_skip rfl rfl rfl rfl ?_ | refine HL_skipU rfl rfl rfl ?_
                            first | (refine HL_want rfl rfl ?_; (first | refine HL_val rfl (fun w hs => R_pick_t rfl rfl) ?_ | refine HL_val rfl (fun w hs => R_pick_f rfl rfl) ?_)) | refine HL_skip rfl rfl rfl rfl ?_ | refine HL_skipU rfl rfl rfl ?_
                            first | refine HL_val rfl (fun w hs => R_pick_t rfl rfl) ?_ | refine HL_val rfl (fun w hs => R_pick_f rfl rfl) ?_
                            refine HL_tail ?_
                            intro w hs
                            refine RL_then ?_
                            refine W_if_false rfl ?_
                            refine W_skip' ?_
                            refine Nx_block ?_
                            refine Nx_then ?_
                            refine W_region ?_
                            first | refine L_add rfl rfl rfl (wrp_i64 (by omega)) ?_ | refine L_add rfl rfl rfl rfl ?_
                            refine L_move rfl rfl ?_
                            refine RL_nil' ?_
                            refine Nx_loopP (j + 1, _) (is := [0, 6, 12, 16, 131, 132, 139, 140]) (I' := (fun (j : Nat) (w : World) => (j ≤ m) ∧ (HS w5 w [(gu, Row 4 (bls us))])) (j + 1) (_)) rfl rfl rfl ?_ ?_
                            · exact ⟨by omega, hs⟩
                            · omega
                        · first | refine L_pick_t rfl rfl rfl ?_ | refine L_pick_f rfl rfl rfl ?_
                          refine RL_then ?_
                          refine W_if_true rfl ?_
                          refine W_exit' ?_
                          refine Ex_then_exit ?_
                          refine Ex_block_hit ?_
                          refine Nx_then ?_
                          refine W_region ?_
                          first | refine L_add rfl rfl rfl (wrp_i64 (by omega)) ?_ | refine L_add rfl rfl rfl rfl ?_
                          refine L_move rfl rfl ?_
                          refine RL_nil' ?_
                          refine Nx_loopP (j + 1, _) (is := [0, 6, 12, 16, 131, 132, 139, 140]) (I' := (fun (j : Nat) (w : World) => (j ≤ m) ∧ (HS w5 w [(gu, Row 4 (bls us))])) (j + 1) (_)) rfl rfl rfl ?_ ?_
                          · exact ⟨by omega, hs⟩
                          · omega
                    · refine W_seq ?_
                      refine W_region ?_
                      first | refine L_lss rfl rfl rfl (dtrue (by omega)) ?_ | refine L_lss rfl rfl rfl (dfalse (by omega)) ?_ | refine L_lss rfl rfl rfl rfl ?_
                      refine RL_then ?_
                      refine W_seq ?_
                      refine W_if_false rfl ?_
                      refine W_exit' ?_
                      refine Ex_then_exit ?_
                      refine Ex_loop_exit ?_
                      refine Ex_block_hit ?_
                      refine Nx_cutP (_) (is := [0, 6, 12, 16, 131, 132]) (I' := (fun (w : World) => (HS w5 w [(gu, Row 4 (bls us))])) (_)) rfl rfl rfl ?_
                      exact hs
                · clear hs
                  intro w hI
                  show W _ _ _ _ [(0, .slice a k cp), (6, .slice qa k ca), (12, .slice (some ⟨gu, 0, none⟩) 256 256), (16, .int .i64 i), (131, .int .i64 k), (132, .int .i64 i)] w
                  have hs : HS w5 w [(gu, Row 4 (bls us))] := hI
                  clear hI
                  refine W_seq ?_
                  refine W_region ?_
                  refine L_move rfl rfl ?_
                  refine L_move rfl rfl ?_
                  refine RL_then ?_
                  refine W_block ?_
                  refine W_loop2 (fun (q : Nat) (w : World) => [(0, .slice a k cp), (6, .slice qa k ca), (12, .slice (some ⟨gu, 0, none⟩) 256 256), (16, .int .i64 i), (131, .int .i64 k), (132, .int .i64 i), (200, .int .i64 i), (201, .int .i64 q)]) (fun (q : Nat) (w : World) => w) (fun (q : Nat) (w : World) => (q ≤ i) ∧ (HS w5 w [(gu, Row 4 (bls us))])) (fun (q : Nat) (w : World) => i - q) (0) (_) (is := [0, 6, 12, 16, 131, 132, 200, 201]) rfl rfl ?_ ?_
                  · exact ⟨Nat.zero_le _, hs⟩
                  · clear hs
                    intro q w hI
                    show W _ _ _ _ [(0, .slice a k cp), (6, .slice qa k ca), (12, .slice (some ⟨gu, 0, none⟩) 256 256), (16, .int .i64 i), (131, .int .i64 k), (132, .int .i64 i), (200, .int .i64 i), (201, .int .i64 q)] w
                    obtain ⟨hq, hs⟩ := hI
                    by_cases hltq : q < i
                    · obtain ⟨aq, cq, r1, r2, r3, r4⟩ := hr5.row q (by omega)
                      have hmq : (rows.getD q []).length = m := by
                        have e1 : wid rows q = wid rows 0 := hF.same q (by omega)
                        have e2 : wid rows i = wid rows 0 := hF.same i (by omega)
                        simp only [wid] at e1 e2; omega
                      rw [hmq] at r1 r2 r3
                      have hrowq : ∀ {w : World}, HS w5 w [(gu, Row 4 (bls us))] → w.cell? ((aD a).add q) = some (.slice aq m cq) := by intro w hs; exact (hr5.sl.old hs hO).get r1
                      have hcelq : ∀ {w : World}, HS w5 w [(gu, Row 4 (bls us))] → ∀ j, j < m → w.cell? ((aD aq).add j) = some (.int .i64 ((rows.getD q []).getD j 0)) := by intro w hs j hj; exact (r4.old hs hO).get (il_get (by omega))
                      have haQ : 0 < m → aq = some (aD aq) := fun h => r4.ao (by rw [il_length]; omega)
                      have hubq : ∀ j, j < m → el rows q j ≤ 1099511627776 := fun j hj => hF.cost q j (by omega) (by simp only [wid]; omega)
                      have hcAi : ∀ x : Int, A.getD i 0 = x → ∀ {w : World}, HS w5 w [(gu, Row 4 (bls us))] → w.cell? ((aD qa).add i) = some (.int .i64 x) := by
                        intro x hx w hs
                        have := (hsla.old hs hO).get (il_get (j := i) (by omega))
                        rw [hx] at this; exact this
                      have hcAq : ∀ x : Int, A.getD q 0 = x → ∀ {w : World}, HS w5 w [(gu, Row 4 (bls us))] → w.cell? ((aD qa).add q) = some (.int .i64 x) := by
                        intro x hx w hs
                        have := (hsla.old hs hO).get (il_get (j := q) (by omega))
                        rw [hx] at this; exact this
                      rcases hT.ent i (by omega) with hAi | ⟨ci2, hAi, hi256, hiw, hip⟩
                      · obtain ⟨x, hAq⟩ : ∃ x, A.getD q 0 = x := ⟨_, rfl⟩
                        refine W_seq ?_
                        refine W_region ?_
                        first | refine L_lss rfl rfl rfl (dtrue (by omega)) ?_ | refine L_lss rfl rfl rfl (dfalse (by omega)) ?_ | refine L_lss rfl rfl rfl rfl ?_
                        refine RL_then ?_
                        refine W_seq ?_
                        refine W_if_true rfl ?_
                        refine W_skip' ?_
                        refine Nx_then ?_
                        refine W_seq ?_
                        refine W_block ?_
                        refine W_seq ?_
                        refine W_region ?_
                        refine L_move rfl rfl ?_
                        refine L_assign rfl rfl ?_
                        refine RL_then ?_
                        refine W_seq ?_
                        refine W_seq ?_
                        refine W_pht [0, 1, 2] [3, 4, 5, 6, 7, 8, 9, 10, 11, 12, 13, 14, 15, 16, 17, 18, 19, 20, 21, 22, 23, 24, 25, 26, 27, 28, 29, 30, 31, 32, 33, 34, 35, 36, 37] [] (fun _ _ _ => False) Try.mixed (by kernel_rfl) (fun _ _ _ _ _ h => h) hs ?_
                        refine PL_val rfl (fun w => R_move rfl) ?_
                        refine PL_val rfl (fun w => R_move rfl) ?_
                        refine PL_val rfl (fun w => R_idx1 Try.underlying25 Try.ti3 rfl rfl (by with_reducible first | exact natc_k _ | exact natc_a1 _ | exact natc_0 | exact natc_1 | exact natc_2 | exact natc_s1 _ (by omega) | exact natc_a2 _ | exact natc_add _ _ | exact natc_mul _ _ | exact natc (by omega)) (by omega) (by first | rfl | exact hqa | exact hqr | exact haA2 (by omega) | exact haQ (by omega))) ?_
                        refine PL_end ?_
                        refine HL_val rfl (fun w hs => R_load Try.one3 rfl (by first | exact hcAi _ hAi hs | exact hcAq _ hAq hs | exact hrow hs | exact hrowq hs | exact hcel hs _ (by omega) | exact hcelq hs _ (by omega))) ?_
                        first | refine HL_val rfl (fun w hs => R_lss rfl rfl (dtrue (by omega))) ?_ | refine HL_val rfl (fun w hs => R_lss rfl rfl (dfalse (by omega))) ?_ | refine HL_val rfl (fun w hs => R_lss rfl rfl rfl) ?_
                        refine HL_val rfl (fun w hs => R_move rfl) ?_
                        first | (refine HL_want rfl rfl ?_; refine HL_val rfl (fun w hs => R_move rfl) ?_) | refine HL_skip rfl rfl rfl rfl ?_ | refine HL_skipU rfl rfl rfl ?_
                        first | (refine HL_want rfl rfl ?_; refine HL_val rfl (fun w hs => R_move rfl) ?_) | refine HL_skip rfl rfl rfl rfl ?_ | refine HL_skipU rfl rfl rfl ?_
                        first | (refine HL_want rfl rfl ?_; refine HL_val rfl (fun w hs => R_idx1 Try.underlying25 Try.ti3 rfl rfl (by with_reducible first | exact natc_k _ | exact natc_a1 _ | exact natc_0 | exact natc_1 | exact natc_2 | exact natc_s1 _ (by omega) | exact natc_a2 _ | exact natc_add _ _ | exact natc_mul _ _ | exact natc (by omega)) (by omega) (by first | rfl | exact hqa | exact hqr | exact haA2 (by omega) | exact haQ (by omega))) ?_) | refine HL_skip rfl rfl rfl rfl ?_ | refine HL_skipU rfl rfl rfl ?_
                        first | (refine HL_want rfl rfl ?_; refine HL_val rfl (fun w hs => R_load Try.one3 rfl (by first | exact hcAi _ hAi hs | exact hcAq _ hAq hs | exact hrow hs | exact hrowq hs | exact hcel hs _ (by omega) | exact hcelq hs _ (by omega))) ?_) | refine HL_skip rfl rfl rfl rfl ?_ | refine HL_skipU rfl rfl rfl ?_
                        first | (refine HL_want rfl rfl ?_; (first | refine HL_val rfl (fun w hs => R_lss rfl rfl (dtrue (by omega))) ?_ | refine HL_val rfl (fun w hs => R_lss rfl rfl (dfalse (by omega))) ?_ | refine HL_val rfl (fun w hs => R_lss rfl rfl rfl) ?_)) | refine HL_skip rfl rfl rfl rfl ?_ | refine HL_skipU rfl rfl rfl ?_
                        first | refine HL_val rfl (fun w hs => R_pick_t rfl rfl) ?_ | refine HL_val rfl (fun w hs => R_pick_f rfl rfl) ?_
                        refine HL_val rfl (fun w hs => R_move rfl) ?_
                        first | (refine HL_want rfl rfl ?_; refine HL_val rfl (fun w hs => R_move rfl) ?_) | refine HL_skip rfl rfl rfl rfl ?_ | refine HL_skipU rfl rfl rfl ?_
                        first | (refine HL_want rfl rfl ?_; refine HL_val rfl (fun w hs => R_move rfl) ?_) | refine HL_skip rfl rfl rfl rfl ?_ | refine HL_skipU rfl rfl rfl ?_
                        first | (refine HL_want rfl rfl ?_; refine HL_val rfl (fun w hs => R_idx1 Try.underlying22 Try.ti38 rfl rfl (by with_reducible first | exact natc_k _ | exact natc_a1 _ | exact natc_0 | exact natc_1 | exact natc_2 | exact natc_s1 _ (by omega) | exact natc_a2 _ | exact natc_add _ _ | exact natc_mul _ _ | exact natc (by omega)) (by omega) (by first | rfl | exact hqa | exact hqr | exact haA2 (by omega) | exact haQ (by omega))) ?_) | refine HL_skip rfl rfl rfl rfl ?_ | refine HL_skipU rfl rfl rfl ?_
                        first | (refine HL_want rfl rfl ?_; refine HL_val rfl (fun w hs => R_load Try.one38 rfl (by first | exact hcAi _ hAi hs | exact hcAq _ hAq hs | exact hrow hs | exact hrowq hs | exact hcel hs _ (by omega) | exact hcelq hs _ (by omega))) ?_) | refine HL_skip rfl rfl rfl rfl ?_ | refine HL_skipU rfl rfl rfl ?_
                        first | (refine HL_want rfl rfl ?_; refine HL_val rfl (fun w hs => R_move rfl) ?_) | refine HL_skip rfl rfl rfl rfl ?_ | refine HL_skipU rfl rfl rfl ?_
                        first | (refine HL_want rfl rfl ?_; refine HL_val rfl (fun w hs => R_move rfl) ?_) | refine HL_skip rfl rfl rfl rfl ?_ | refine HL_skipU rfl rfl rfl ?_
                        first | (refine HL_want rfl rfl ?_; refine HL_val rfl (fun w hs => R_idx1 Try.underlying25 Try.ti3 rfl rfl (by with_reducible first | exact natc_k _ | exact natc_a1 _ | exact natc_0 | exact natc_1 | exact natc_2 | exact natc_s1 _ (by omega) | exact natc_a2 _ | exact natc_add _ _ | exact natc_mul _ _ | exact natc (by omega)) (by omega) (by first | rfl | exact hqa | exact hqr | exact haA2 (by omega) | exact haQ (by omega))) ?_) | refine HL_skip rfl rfl rfl rfl ?_ | refine HL_skipU rfl rfl rfl ?_
                        first | (refine HL_want rfl rfl ?_; refine HL_val rfl (fun w hs => R_load Try.one3 rfl (by first | exact hcAi _ hAi hs | exact hcAq _ hAq hs | exact hrow hs | exact hrowq hs | exact hcel hs _ (by omega) | exact hcelq hs _ (by omega))) ?_) | refine HL_skip rfl rfl rfl rfl ?_ | refine HL_skipU rfl rfl rfl ?_
                        first | (refine HL_want rfl rfl ?_; refine HL_val rfl (fun w hs => R_idx1 Try.underlying38 Try.ti2 rfl rfl (by with_reducible first | exact natc_k _ | exact natc_a1 _ | exact natc_0 | exact natc_1 | exact natc_2 | exact natc_s1 _ (by omega) | exact natc_a2 _ | exact natc_add _ _ | exact natc_mul _ _ | exact natc (by omega)) (by omega) (by first | rfl | exact hqa | exact hqr | exact haA2 (by omega) | exact haQ (by omega))) ?_) | refine HL_skip rfl rfl rfl rfl ?_ | refine HL_skipU rfl rfl rfl ?_
                        first | (refine HL_want rfl rfl ?_; refine HL_val rfl (fun w hs => R_load Try.one2 rfl (by first | exact hcAi _ hAi hs | exact hcAq _ hAq hs | exact hrow hs | exact hrowq hs | exact hcel hs _ (by omega) | exact hcelq hs _ (by omega))) ?_) | refine HL_skip rfl rfl rfl rfl ?_ | refine HL_skipU rfl rfl rfl ?_
                        first | (refine HL_want rfl rfl ?_; (first | refine HL_val rfl (fun w hs => R_lss rfl rfl (dtrue (by omega))) ?_ | refine HL_val rfl (fun w hs => R_lss rfl rfl (dfalse (by omega))) ?_ | refine HL_val rfl (fun w hs => R_lss rfl rfl rfl) ?_)) | refine HL_skip rfl rfl rfl rfl ?_ | refine HL_skipU rfl rfl rfl ?_
                        first | refine HL_val rfl (fun w hs => R_pick_t rfl rfl) ?_ | refine HL_val rfl (fun w hs => R_pick_f rfl rfl) ?_
                        refine HL_val rfl (fun w hs => R_move rfl) ?_
                        first | (refine HL_want rfl rfl ?_; refine HL_val rfl (fun w hs => R_move rfl) ?_) | refine HL_skip rfl rfl rfl rfl ?_ | refine HL_skipU rfl rfl rfl ?_
                        first | (refine HL_want rfl rfl ?_; refine HL_val rfl (fun w hs => R_move rfl) ?_) | refine HL_skip rfl rfl rfl rfl ?_ | refine HL_skipU rfl rfl rfl ?_
                        first | (refine HL_want rfl rfl ?_; refine HL_val rfl (fun w hs => R_idx1 Try.underlying22 Try.ti38 rfl rfl (by with_reducible first | exact natc_k _ | exact natc_a1 _ | exact natc_0 | exact natc_1 | exact natc_2 | exact natc_s1 _ (by omega) | exact natc_a2 _ | exact natc_add _ _ | exact natc_mul _ _ | exact natc (by omega)) (by omega) (by first | rfl | exact hqa | exact hqr | exact haA2 (by omega) | exact haQ (by omega))) ?_) | refine HL_skip rfl rfl rfl rfl ?_ | refine HL_skipU rfl rfl rfl ?_
                        first | (refine HL_want rfl rfl ?_; refine HL_val rfl (fun w hs => R_load Try.one38 rfl (by first | exact hcAi _ hAi hs | exact hcAq _ hAq hs | exact hrow hs | exact hrowq hs | exact hcel hs _ (by omega) | exact hcelq hs _ (by omega))) ?_) | refine HL_skip rfl rfl rfl rfl ?_ | refine HL_skipU rfl rfl rfl ?_
                        first | (refine HL_want rfl rfl ?_; refine HL_val rfl (fun w hs => R_move rfl) ?_) | refine HL_skip rfl rfl rfl rfl ?_ | refine HL_skipU rfl rfl rfl ?_
                        first | (refine HL_want rfl rfl ?_; refine HL_val rfl (fun w hs => R_move rfl) ?_) | refine HL_skip rfl rfl rfl rfl ?_ | refine HL_skipU rfl rfl rfl ?_
                        first | (refine HL_want rfl rfl ?_; refine HL_val rfl (fun w hs => R_idx1 Try.underlying25 Try.ti3 rfl rfl (by with_reducible first | exact natc_k _ | exact natc_a1 _ | exact natc_0 | exact natc_1 | exact natc_2 | exact natc_s1 _ (by omega) | exact natc_a2 _ | exact natc_add _ _ | exact natc_mul _ _ | exact natc (by omega)) (by omega) (by first | rfl | exact hqa | exact hqr | exact haA2 (by omega) | exact haQ (by omega))) ?_) | refine HL_skip rfl rfl rfl rfl ?_ | refine HL_skipU rfl rfl rfl ?_
                        first | (refine HL_want rfl rfl ?_; refine HL_val rfl (fun w hs => R_load Try.one3 rfl (by first | exact hcAi _ hAi hs | exact hcAq _ hAq hs | exact hrow hs | exact hrowq hs | exact hcel hs _ (by omega) | exact hcelq hs _ (by omega))) ?_) | refine HL_skip rfl rfl rfl rfl ?_ | refine HL_skipU rfl rfl rfl ?_
                        first | (refine HL_want rfl rfl ?_; refine HL_val rfl (fun w hs => R_idx1 Try.underlying38 Try.ti2 rfl rfl (by with_reducible first | exact natc_k _ | exact natc_a1 _ | exact natc_0 | exact natc_1 | exact natc_2 | exact natc_s1 _ (by omega) | exact natc_a2 _ | exact natc_add _ _ | exact natc_mul _ _ | exact natc (by omega)) (by omega) (by first | rfl | exact hqa | exact hqr | exact haA2 (by omega) | exact haQ (by omega))) ?_) | refine HL_skip rfl rfl rfl rfl ?_ | refine HL_skipU rfl rfl rfl ?_
                        first | (refine HL_want rfl rfl ?_; refine HL_val rfl (fun w hs => R_load Try.one2 rfl (by first | exact hcAi _ hAi hs | exact hcAq _ hAq hs | exact hrow hs | exact hrowq hs | exact hcel hs _ (by omega) | exact hcelq hs _ (by omega))) ?_) | refine HL_skip rfl rfl rfl rfl ?_ | refine HL_skipU rfl rfl rfl ?_
                        first | (refine HL_want rfl rfl ?_; (first | refine HL_val rfl (fun w hs => R_lss rfl rfl (dtrue (by omega))) ?_ | refine HL_val rfl (fun w hs => R_lss rfl rfl (dfalse (by omega))) ?_ | refine HL_val rfl (fun w hs => R_lss rfl rfl rfl) ?_)) | refine HL_skip rfl rfl rfl rfl ?_ | refine HL_skipU rfl rfl rfl ?_
                        first | refine HL_val rfl (fun w hs => R_pick_t rfl rfl) ?_ | refine HL_val rfl (fun w hs => R_pick_f rfl rfl) ?_
                        refine HL_tail ?_
                        intro w hs
                        refine RL_then ?_
                        refine W_if_true rfl ?_
                        refine W_exit' ?_
                        refine Ex_then_exit ?_
                        refine Ex_block_hit ?_
                        refine Nx_then ?_
                        refine W_region ?_
                        first | refine L_add rfl rfl rfl (wrp_i64 (by omega)) ?_ | refine L_add rfl rfl rfl rfl ?_
                        refine L_move rfl rfl ?_
                        refine RL_nil' ?_
                        refine Nx_loopP (q + 1, _) (is := [0, 6, 12, 16, 131, 132, 200, 201]) (I' := (fun (q : Nat) (w : World) => (q ≤ i) ∧ (HS w5 w [(gu, Row 4 (bls us))])) (q + 1) (_)) rfl rfl rfl ?_ ?_
                        · exact ⟨by omega, hs⟩
                        · omega
                      · rcases hT.ent q (by omega) with hAq | ⟨cq2, hAq, hq256, hqw, hqp⟩
                        · refine W_seq ?_
                          refine W_region ?_
                          first | refine L_lss rfl rfl rfl (dtrue (by omega)) ?_ | refine L_lss rfl rfl rfl (dfalse (by omega)) ?_ | refine L_lss rfl rfl rfl rfl ?_
                          refine RL_then ?_
                          refine W_seq ?_
                          refine W_if_true rfl ?_
                          refine W_skip' ?_
                          refine Nx_then ?_
                          refine W_seq ?_
                          refine W_block ?_
                          refine W_seq ?_
                          refine W_region ?_
                          refine L_move rfl rfl ?_
                          refine L_assign rfl rfl ?_
                          refine RL_then ?_
                          refine W_seq ?_
                          refine W_seq ?_
                          refine W_pht [0, 1, 2] [3, 4, 5, 6, 7, 8, 9, 10, 11, 12, 13, 14, 15, 16, 17, 18, 19, 20, 21, 22, 23, 24, 25, 26, 27, 28, 29, 30, 31, 32, 33, 34, 35, 36, 37] [] (fun _ _ _ => False) Try.mixed (by kernel_rfl) (fun _ _ _ _ _ h => h) hs ?_
                          refine PL_val rfl (fun w => R_move rfl) ?_
                          refine PL_val rfl (fun w => R_move rfl) ?_
                          refine PL_val rfl (fun w => R_idx1 Try.underlying25 Try.ti3 rfl rfl (by with_reducible first | exact natc_k _ | exact natc_a1 _ | exact natc_0 | exact natc_1 | exact natc_2 | exact natc_s1 _ (by omega) | exact natc_a2 _ | exact natc_add _ _ | exact natc_mul _ _ | exact natc (by omega)) (by omega) (by first | rfl | exact hqa | exact hqr | exact haA2 (by omega) | exact haQ (by omega))) ?_
                          refine PL_end ?_
                          refine HL_val rfl (fun w hs => R_load Try.one3 rfl (by first | exact hcAi _ hAi hs | exact hcAq _ hAq hs | exact hrow hs | exact hrowq hs | exact hcel hs _ (by omega) | exact hcelq hs _ (by omega))) ?_
                          first | refine HL_val rfl (fun w hs => R_lss rfl rfl (dtrue (by omega))) ?_ | refine HL_val rfl (fun w hs => R_lss rfl rfl (dfalse (by omega))) ?_ | refine HL_val rfl (fun w hs => R_lss rfl rfl rfl) ?_
                          refine HL_val rfl (fun w hs => R_move rfl) ?_
                          first | (refine HL_want rfl rfl ?_; refine HL_val rfl (fun w hs => R_move rfl) ?_) | refine HL_skip rfl rfl rfl rfl ?_ | refine HL_skipU rfl rfl rfl ?_
                          first | (refine HL_want rfl rfl ?_; refine HL_val rfl (fun w hs => R_move rfl) ?_) | refine HL_skip rfl rfl rfl rfl ?_ | refine HL_skipU rfl rfl rfl ?_
                          first | (refine HL_want rfl rfl ?_; refine HL_val rfl (fun w hs => R_idx1 Try.underlying25 Try.ti3 rfl rfl (by with_reducible first | exact natc_k _ | exact natc_a1 _ | exact natc_0 | exact natc_1 | exact natc_2 | exact natc_s1 _ (by omega) | exact natc_a2 _ | exact natc_add _ _ | exact natc_mul _ _ | exact natc (by omega)) (by omega) (by first | rfl | exact hqa | exact hqr | exact haA2 (by omega) | exact haQ (by omega))) ?_) | refine HL_skip rfl rfl rfl rfl ?_ | refine HL_skipU rfl rfl rfl ?_
                          first | (refine HL_want rfl rfl ?_; refine HL_val rfl (fun w hs => R_load Try.one3 rfl (by first | exact hcAi _ hAi hs | exact hcAq _ hAq hs | exact hrow hs | exact hrowq hs | exact hcel hs _ (by omega) | exact hcelq hs _ (by omega))) ?_) | refine HL_skip rfl rfl rfl rfl ?_ | refine HL_skipU rfl rfl rfl ?_
                          first | (refine HL_want rfl rfl ?_; (first | refine HL_val rfl (fun w hs => R_lss rfl rfl (dtrue (by omega))) ?_ | refine HL_val rfl (fun w hs => R_lss rfl rfl (dfalse (by omega))) ?_ | refine HL_val rfl (fun w hs => R_lss rfl rfl rfl) ?_)) | refine HL_skip rfl rfl rfl rfl ?_ | refine HL_skipU rfl rfl rfl ?_
                          first | refine HL_val rfl (fun w hs => R_pick_t rfl rfl) ?_ | refine HL_val rfl (fun w hs => R_pick_f rfl rfl) ?_
                          refine HL_val rfl (fun w hs => R_move rfl) ?_
                          first | (refine HL_want rfl rfl ?_; refine HL_val rfl (fun w hs => R_move rfl) ?_) | refine HL_skip rfl rfl rfl rfl ?_ | refine HL_skipU rfl rfl rfl ?_
                          first | (refine HL_want rfl rfl ?_; refine HL_val rfl (fun w hs => R_move rfl) ?_) | refine HL_skip rfl rfl rfl rfl ?_ | refine HL_skipU rfl rfl rfl ?_
                          first | (refine HL_want rfl rfl ?_; refine HL_val rfl (fun w hs => R_idx1 Try.underlying22 Try.ti38 rfl rfl (by with_reducible first | exact natc_k _ | exact natc_a1 _ | exact natc_0 | exact natc_1 | exact natc_2 | exact natc_s1 _ (by omega) | exact natc_a2 _ | exact natc_add _ _ | exact natc_mul _ _ | exact natc (by omega)) (by omega) (by first | rfl | exact hqa | exact hqr | exact haA2 (by omega) | exact haQ (by omega))) ?_) | refine HL_skip rfl rfl rfl rfl ?_ | refine HL_skipU rfl rfl rfl ?_
                          first | (refine HL_want rfl rfl ?_; refine HL_val rfl (fun w hs => R_load Try.one38 rfl (by first | exact hcAi _ hAi hs | exact hcAq _ hAq hs | exact hrow hs | exact hrowq hs | exact hcel hs _ (by omega) | exact hcelq hs _ (by omega))) ?_) | refine HL_skip rfl rfl rfl rfl ?_ | refine HL_skipU rfl rfl rfl ?_
                          first | (refine HL_want rfl rfl ?_; refine HL_val rfl (fun w hs => R_move rfl) ?_) | refine HL_skip rfl rfl rfl rfl ?_ | refine HL_skipU rfl rfl rfl ?_
                          first | (refine HL_want rfl rfl ?_; refine HL_val rfl (fun w hs => R_move rfl) ?_) | refine HL_skip rfl rfl rfl rfl ?_ | refine HL_skipU rfl rfl rfl ?_
                          first | (refine HL_want rfl rfl ?_; refine HL_val rfl (fun w hs => R_idx1 Try.underlying25 Try.ti3 rfl rfl (by with_reducible first | exact natc_k _ | exact natc_a1 _ | exact natc_0 | exact natc_1 | exact natc_2 | exact natc_s1 _ (by omega) | exact natc_a2 _ | exact natc_add _ _ | exact natc_mul _ _ | exact natc (by omega)) (by omega) (by first | rfl | exact hqa | exact hqr | exact haA2 (by omega) | exact haQ (by omega))) ?_) | refine HL_skip rfl rfl rfl rfl ?_ | refine HL_skipU rfl rfl rfl ?_
                          first | (refine HL_want rfl rfl ?_; refine HL_val rfl (fun w hs => R_load Try.one3 rfl (by first | exact hcAi _ hAi hs | exact hcAq _ hAq hs | exact hrow hs | exact hrowq hs | exact hcel hs _ (by omega) | exact hcelq hs _ (by omega))) ?_) | refine HL_skip rfl rfl rfl rfl ?_ | refine HL_skipU rfl rfl rfl ?_
                          first | (refine HL_want rfl rfl ?_; refine HL_val rfl (fun w hs => R_idx1 Try.underlying38 Try.ti2 rfl rfl (by with_reducible first | exact natc_k _ | exact natc_a1 _ | exact natc_0 | exact natc_1 | exact natc_2 | exact natc_s1 _ (by omega) | exact natc_a2 _ | exact natc_add _ _ | exact natc_mul _ _ | exact natc (by omega)) (by omega) (by first | rfl | exact hqa | exact hqr | exact haA2 (by omega) | exact haQ (by omega))) ?_) | refine HL_skip rfl rfl rfl rfl ?_ | refine HL_skipU rfl rfl rfl ?_
                          first | (refine HL_want rfl rfl ?_; refine HL_val rfl (fun w hs => R_load Try.one2 rfl (by first | exact hcAi _ hAi hs | exact hcAq _ hAq hs | exact hrow hs | exact hrowq hs | exact hcel hs _ (by omega) | exact hcelq hs _ (by omega))) ?_) | refine HL_skip rfl rfl rfl rfl ?_ | refine HL_skipU rfl rfl rfl ?_
                          first | (refine HL_want rfl rfl ?_; (first | refine HL_val rfl (fun w hs => R_lss rfl rfl (dtrue (by omega))) ?_ | refine HL_val rfl (fun w hs => R_lss rfl rfl (dfalse (by omega))) ?_ | refine HL_val rfl (fun w hs => R_lss rfl rfl rfl) ?_)) | refine HL_skip rfl rfl rfl rfl ?_ | refine HL_skipU rfl rfl rfl ?_
                          first | refine HL_val rfl (fun w hs => R_pick_t rfl rfl) ?_ | refine HL_val rfl (fun w hs => R_pick_f rfl rfl) ?_
                          refine HL_val rfl (fun w hs => R_move rfl) ?_
                          first | (refine HL_want rfl rfl ?_; refine HL_val rfl (fun w hs => R_move rfl) ?_) | refine HL_skip rfl rfl rfl rfl ?_ | refine HL_skipU rfl rfl rfl ?_
                          first | (refine HL_want rfl rfl ?_; refine HL_val rfl (fun w hs => R_move rfl) ?_) | refine HL_skip rfl rfl rfl rfl ?_ | refine HL_skipU rfl rfl rfl ?_
                          first | (refine HL_want rfl rfl ?_; refine HL_val rfl (fun w hs => R_idx1 Try.underlying22 Try.ti38 rfl rfl (by with_reducible first | exact natc_k _ | exact natc_a1 _ | exact natc_0 | exact natc_1 | exact natc_2 | exact natc_s1 _ (by omega) | exact natc_a2 _ | exact natc_add _ _ | exact natc_mul _ _ | exact natc (by omega)) (by omega) (by first | rfl | exact hqa | exact hqr | exact haA2 (by omega) | exact haQ (by omega))) ?_) | refine HL_skip rfl rfl rfl rfl ?_ | refine HL_skipU rfl rfl rfl ?_
                          first | (refine HL_want rfl rfl ?_; refine HL_val rfl (fun w hs => R_load Try.one38 rfl (by first | exact hcAi _ hAi hs | exact hcAq _ hAq hs | exact hrow hs | exact hrowq hs | exact hcel hs _ (by omega) | exact hcelq hs _ (by omega))) ?_) | refine HL_skip rfl rfl rfl rfl ?_ | refine HL_skipU rfl rfl rfl ?_
                          first | (refine HL_want rfl rfl ?_; refine HL_val rfl (fun w hs => R_move rfl) ?_) | refine HL_skip rfl rfl rfl rfl ?_ | refine HL_skipU rfl rfl rfl ?_
                          first | (refine HL_want rfl rfl ?_; refine HL_val rfl (fun w hs => R_move rfl) ?_) | refine HL_skip rfl rfl rfl rfl ?_ | refine HL_skipU rfl rfl rfl ?_
                          first | (refine HL_want rfl rfl ?_; refine HL_val rfl (fun w hs => R_idx1 Try.underlying25 Try.ti3 rfl rfl (by with_reducible first | exact natc_k _ | exact natc_a1 _ | exact natc_0 | exact natc_1 | exact natc_2 | exact natc_s1 _ (by omega) | exact natc_a2 _ | exact natc_add _ _ | exact natc_mul _ _ | exact natc (by omega)) (by omega) (by first | rfl | exact hqa | exact hqr | exact haA2 (by omega) | exact haQ (by omega))) ?_) | refine HL_skip rfl rfl rfl rfl ?_ | refine HL_skipU rfl rfl rfl ?_
                          first | (refine HL_want rfl rfl ?_; refine HL_val rfl (fun w hs => R_load Try.one3 rfl (by first | exact hcAi _ hAi hs | exact hcAq _ hAq hs | exact hrow hs | exact hrowq hs | exact hcel hs _ (by omega) | exact hcelq hs _ (by omega))) ?_) | refine HL_skip rfl rfl rfl rfl ?_ | refine HL_skipU rfl rfl rfl ?_
                          first | (refine HL_want rfl rfl ?_; refine HL_val rfl (fun w hs => R_idx1 Try.underlying38 Try.ti2 rfl rfl (by with_reducible first | exact natc_k _ | exact natc_a1 _ | exact natc_0 | exact natc_1 | exact natc_2 | exact natc_s1 _ (by omega) | exact natc_a2 _ | exact natc_add _ _ | exact natc_mul _ _ | exact natc (by omega)) (by omega) (by first | rfl | exact hqa | exact hqr | exact haA2 (by omega) | exact haQ (by omega))) ?_) | refine HL_skip rfl rfl rfl rfl ?_ | refine HL_skipU rfl rfl rfl ?_
                          first | (refine HL_want rfl rfl ?_; refine HL_val rfl (fun w hs => R_load Try.one2 rfl (by first | exact hcAi _ hAi hs | exact hcAq _ hAq hs | exact hrow hs | exact hrowq hs | exact hcel hs _ (by omega) | exact hcelq hs _ (by omega))) ?_) | refine HL_skip rfl rfl rfl rfl ?_ | refine HL_skipU rfl rfl rfl ?_
                          first | (refine HL_want rfl rfl ?_; (first | refine HL_val rfl (fun w hs => R_lss rfl rfl (dtrue (by omega))) ?_ | refine HL_val rfl (fun w hs => R_lss rfl rfl (dfalse (by omega))) ?_ | refine HL_val rfl (fun w hs => R_lss rfl rfl rfl) ?_)) | refine HL_skip rfl rfl rfl rfl ?_ | refine HL_skipU rfl rfl rfl ?_
                          first | refine HL_val rfl (fun w hs => R_pick_t rfl rfl) ?_ | refine HL_val rfl (fun w hs => R_pick_f rfl rfl) ?_
                          refine HL_tail ?_
                          intro w hs
                          refine RL_then ?_
                          refine W_if_true rfl ?_
                          refine W_exit' ?_
                          refine Ex_then_exit ?_
                          refine Ex_block_hit ?_
                          refine Nx_then ?_
                          refine W_region ?_
                          first | refine L_add rfl rfl rfl (wrp_i64 (by omega)) ?_ | refine L_add rfl rfl rfl rfl ?_
                          refine L_move rfl rfl ?_
                          refine RL_nil' ?_
                          refine Nx_loopP (q + 1, _) (is := [0, 6, 12, 16, 131, 132, 200, 201]) (I' := (fun (q : Nat) (w : World) => (q ≤ i) ∧ (HS w5 w [(gu, Row 4 (bls us))])) (q + 1) (_)) rfl rfl rfl ?_ ?_
                          · exact ⟨by omega, hs⟩
                          · omega
                        · have hiw' : ci2 < m := by simp only [wid] at hiw; omega
                          have hqw' : cq2 < m := by simp only [wid] at hqw; omega
                          have u1 : (rows.getD i []).getD ci2 0 ≤ 1099511627776 := hub ci2 hiw'
                          have u2 : (rows.getD i []).getD cq2 0 ≤ 1099511627776 := hub cq2 hqw'
                          have u3 : (rows.getD q []).getD ci2 0 ≤ 1099511627776 := hubq ci2 hiw'
                          have u4 : (rows.getD q []).getD cq2 0 ≤ 1099511627776 := hubq cq2 hqw'
                          have u5 : 0 ≤ (rows.getD i []).getD ci2 0 := hip
                          have u6 : 0 ≤ (rows.getD q []).getD cq2 0 := hqp
                          by_cases n1 : (rows.getD i []).getD cq2 0 < 0
                          · refine W_seq ?_
                            refine W_region ?_
                            first | refine L_lss rfl rfl rfl (dtrue (by omega)) ?_ | refine L_lss rfl rfl rfl (dfalse (by omega)) ?_ | refine L_lss rfl rfl rfl rfl ?_
                            refine RL_then ?_
                            refine W_seq ?_
                            refine W_if_true rfl ?_
                            refine W_skip' ?_
                            refine Nx_then ?_
                            refine W_seq ?_
                            refine W_block ?_
                            refine W_seq ?_
                            refine W_region ?_
                            refine L_move rfl rfl ?_
                            refine L_assign rfl rfl ?_
                            refine RL_then ?_
                            refine W_seq ?_
                            refine W_seq ?_
                            refine W_pht [0, 1, 2] [3, 4, 5, 6, 7, 8, 9, 10, 11, 12, 13, 14, 15, 16, 17, 18, 19, 20, 21, 22, 23, 24, 25, 26, 27, 28, 29, 30, 31, 32, 33, 34, 35, 36, 37] [] (fun _ _ _ => False) Try.mixed (by kernel_rfl) (fun _ _ _ _ _ h => h) hs ?_
                            refine PL_val rfl (fun w => R_move rfl) ?_
                            refine PL_val rfl (fun w => R_move rfl) ?_
                            refine PL_val rfl (fun w => R_idx1 Try.underlying25 Try.ti3 rfl rfl (by with_reducible first | exact natc_k _ | exact natc_a1 _ | exact natc_0 | exact natc_1 | exact natc_2 | exact natc_s1 _ (by omega) | exact natc_a2 _ | exact natc_add _ _ | exact natc_mul _ _ | exact natc (by omega)) (by omega) (by first | rfl | exact hqa | exact hqr | exact haA2 (by omega) | exact haQ (by omega))) ?_
                            refine PL_end ?_
                            refine HL_val rfl (fun w hs => R_load Try.one3 rfl (by first | exact hcAi _ hAi hs | exact hcAq _ hAq hs | exact hrow hs | exact hrowq hs | exact hcel hs _ (by omega) | exact hcelq hs _ (by omega))) ?_
                            first | refine HL_val rfl (fun w hs => R_lss rfl rfl (dtrue (by omega))) ?_ | refine HL_val rfl (fun w hs => R_lss rfl rfl (dfalse (by omega))) ?_ | refine HL_val rfl (fun w hs => R_lss rfl rfl rfl) ?_
                            refine HL_val rfl (fun w hs => R_move rfl) ?_
                            first | (refine HL_want rfl rfl ?_; refine HL_val rfl (fun w hs => R_move rfl) ?_) | refine HL_skip rfl rfl rfl rfl ?_ | refine HL_skipU rfl rfl rfl ?_
                            first | (refine HL_want rfl rfl ?_; refine HL_val rfl (fun w hs => R_move rfl) ?_) | refine HL_skip rfl rfl rfl rfl ?_ | refine HL_skipU rfl rfl rfl ?_
                            first | (refine HL_want rfl rfl ?_; refine HL_val rfl (fun w hs => R_idx1 Try.underlying25 Try.ti3 rfl rfl (by with_reducible first | exact natc_k _ | exact natc_a1 _ | exact natc_0 | exact natc_1 | exact natc_2 | exact natc_s1 _ (by omega) | exact natc_a2 _ | exact natc_add _ _ | exact natc_mul _ _ | exact natc (by omega)) (by omega) (by first | rfl | exact hqa | exact hqr | exact haA2 (by omega) | exact haQ (by omega))) ?_) | refine HL_skip rfl rfl rfl rfl ?_ | refine HL_skipU rfl rfl rfl ?_
                            first | (refine HL_want rfl rfl ?_; refine HL_val rfl (fun w hs => R_load Try.one3 rfl (by first | exact hcAi _ hAi hs | exact hcAq _ hAq hs | exact hrow hs | exact hrowq hs | exact hcel hs _ (by omega) | exact hcelq hs _ (by omega))) ?_) | refine HL_skip rfl rfl rfl rfl ?_ | refine HL_skipU rfl rfl rfl ?_
                            first | (refine HL_want rfl rfl ?_; (first | refine HL_val rfl (fun w hs => R_lss rfl rfl (dtrue (by omega))) ?_ | refine HL_val rfl (fun w hs => R_lss rfl rfl (dfalse (by omega))) ?_ | refine HL_val rfl (fun w hs => R_lss rfl rfl rfl) ?_)) | refine HL_skip rfl rfl rfl rfl ?_ | refine HL_skipU rfl rfl rfl ?_
                            first | refine HL_val rfl (fun w hs => R_pick_t rfl rfl) ?_ | refine HL_val rfl (fun w hs => R_pick_f rfl rfl) ?_
                            refine HL_val rfl (fun w hs => R_move rfl) ?_
                            first | (refine HL_want rfl rfl ?_; refine HL_val rfl (fun w hs => R_move rfl) ?_) | refine HL_skip rfl rfl rfl rfl ?_ | refine HL_skipU rfl rfl rfl ?_
                            first | (refine HL_want rfl rfl ?_; refine HL_val rfl (fun w hs => R_move rfl) ?_) | refine HL_skip rfl rfl rfl rfl ?_ | refine HL_skipU rfl rfl rfl ?_
                            first | (refine HL_want rfl rfl ?_; refine HL_val rfl (fun w hs => R_idx1 Try.underlying22 Try.ti38 rfl rfl (by with_reducible first | exact natc_k _ | exact natc_a1 _ | exact natc_0 | exact natc_1 | exact natc_2 | exact natc_s1 _ (by omega) | exact natc_a2 _ | exact natc_add _ _ | exact natc_mul _ _ | exact natc (by omega)) (by omega) (by first | rfl | exact hqa | exact hqr | exact haA2 (by omega) | exact haQ (by omega))) ?_) | refine HL_skip rfl rfl rfl rfl ?_ | refine HL_skipU rfl rfl rfl ?_
                            first | (refine HL_want rfl rfl ?_; refine HL_val rfl (fun w hs => R_load Try.one38 rfl (by first | exact hcAi _ hAi hs | exact hcAq _ hAq hs | exact hrow hs | exact hrowq hs | exact hcel hs _ (by omega) | exact hcelq hs _ (by omega))) ?_) | refine HL_skip rfl rfl rfl rfl ?_ | refine HL_skipU rfl rfl rfl ?_
                            first | (refine HL_want rfl rfl ?_; refine HL_val rfl (fun w hs => R_move rfl) ?_) | refine HL_skip rfl rfl rfl rfl ?_ | refine HL_skipU rfl rfl rfl ?_
                            first | (refine HL_want rfl rfl ?_; refine HL_val rfl (fun w hs => R_move rfl) ?_) | refine HL_skip rfl rfl rfl rfl ?_ | refine HL_skipU rfl rfl rfl ?_
                            first | (refine HL_want rfl rfl ?_; refine HL_val rfl (fun w hs => R_idx1 Try.underlying25 Try.ti3 rfl rfl (by with_reducible first | exact natc_k _ | exact natc_a1 _ | exact natc_0 | exact natc_1 | exact natc_2 | exact natc_s1 _ (by omega) | exact natc_a2 _ | exact natc_add _ _ | exact natc_mul _ _ | exact natc (by omega)) (by omega) (by first | rfl | exact hqa | exact hqr | exact haA2 (by omega) | exact haQ (by omega))) ?_) | refine HL_skip rfl rfl rfl rfl ?_ | refine HL_skipU rfl rfl rfl ?_
                            first | (refine HL_want rfl rfl ?_; refine HL_val rfl (fun w hs => R_load Try.one3 rfl (by first | exact hcAi _ hAi hs | exact hcAq _ hAq hs | exact hrow hs | exact hrowq hs | exact hcel hs _ (by omega) | exact hcelq hs _ (by omega))) ?_) | refine HL_skip rfl rfl rfl rfl ?_ | refine HL_skipU rfl rfl rfl ?_
                            first | (refine HL_want rfl rfl ?_; refine HL_val rfl (fun w hs => R_idx1 Try.underlying38 Try.ti2 rfl rfl (by with_reducible first | exact natc_k _ | exact natc_a1 _ | exact natc_0 | exact natc_1 | exact natc_2 | exact natc_s1 _ (by omega) | exact natc_a2 _ | exact natc_add _ _ | exact natc_mul _ _ | exact natc (by omega)) (by omega) (by first | rfl | exact hqa | exact hqr | exact haA2 (by omega) | exact haQ (by omega))) ?_) | refine HL_skip rfl rfl rfl rfl ?_ | refine HL_skipU rfl rfl rfl ?_
                            first | (refine HL_want rfl rfl ?_; refine HL_val rfl (fun w hs => R_load Try.one2 rfl (by first | exact hcAi _ hAi hs | exact hcAq _ hAq hs | exact hrow hs | exact hrowq hs | exact hcel hs _ (by omega) | exact hcelq hs _ (by omega))) ?_) | refine HL_skip rfl rfl rfl rfl ?_ | refine HL_skipU rfl rfl rfl ?_
                            first | (refine HL_want rfl rfl ?_; (first | refine HL_val rfl (fun w hs => R_lss rfl rfl (dtrue (by omega))) ?_ | refine HL_val rfl (fun w hs => R_lss rfl rfl (dfalse (by omega))) ?_ | refine HL_val rfl (fun w hs => R_lss rfl rfl rfl) ?_)) | refine HL_skip rfl rfl rfl rfl ?_ | refine HL_skipU rfl rfl rfl ?_
                            first | refine HL_val rfl (fun w hs => R_pick_t rfl rfl) ?_ | refine HL_val rfl (fun w hs => R_pick_f rfl rfl) ?_
                            refine HL_val rfl (fun w hs => R_move rfl) ?_
                            first | (refine HL_want rfl rfl ?_; refine HL_val rfl (fun w hs => R_move rfl) ?_) | refine HL_skip rfl rfl rfl rfl ?_ | refine HL_skipU rfl rfl rfl ?_
                            first | (refine HL_want rfl rfl ?_; refine HL_val rfl (fun w hs => R_move rfl) ?_) | refine HL_skip rfl rfl rfl rfl ?_ | refine HL_skipU rfl rfl rfl ?_
                            first | (refine HL_want rfl rfl ?_; refine HL_val rfl (fun w hs => R_idx1 Try.underlying22 Try.ti38 rfl rfl (by with_reducible first | exact natc_k _ | exact natc_a1 _ | exact natc_0 | exact natc_1 | exact natc_2 | exact natc_s1 _ (by omega) | exact natc_a2 _ | exact natc_add _ _ | exact natc_mul _ _ | exact natc (by omega)) (by omega) (by first | rfl | exact hqa | exact hqr | exact haA2 (by omega) | exact haQ (by omega))) ?_) | refine HL_skip rfl rfl rfl rfl ?_ | refine HL_skipU rfl rfl rfl ?_
                            first | (refine HL_want rfl rfl ?_; refine HL_val rfl (fun w hs => R_load Try.one38 rfl (by first | exact hcAi _ hAi hs | exact hcAq _ hAq hs | exact hrow hs | exact hrowq hs | exact hcel hs _ (by omega) | exact hcelq hs _ (by omega))) ?_) | refine HL_skip rfl rfl rfl rfl ?_ | refine HL_skipU rfl rfl rfl ?_
                            first | (refine HL_want rfl rfl ?_; refine HL_val rfl (fun w hs => R_move rfl) ?_) | refine HL_skip rfl rfl rfl rfl ?_ | refine HL_skipU rfl rfl rfl ?_
                            first | (refine HL_want rfl rfl ?_; refine HL_val rfl (fun w hs => R_move rfl) ?_) | refine HL_skip rfl rfl rfl rfl ?_ | refine HL_skipU rfl rfl rfl ?_
                            first | (refine HL_want rfl rfl ?_; refine HL_val rfl (fun w hs => R_idx1 Try.underlying25 Try.ti3 rfl rfl (by with_reducible first | exact natc_k _ | exact natc_a1 _ | exact natc_0 | exact natc_1 | exact natc_2 | exact natc_s1 _ (by omega) | exact natc_a2 _ | exact natc_add _ _ | exact natc_mul _ _ | exact natc (by omega)) (by omega) (by first | rfl | exact hqa | exact hqr | exact haA2 (by omega) | exact haQ (by omega))) ?_) | refine HL_skip rfl rfl rfl rfl ?_ | refine HL_skipU rfl rfl rfl ?_
                            first | (refine HL_want rfl rfl ?_; refine HL_val rfl (fun w hs => R_load Try.one3 rfl (by first | exact hcAi _ hAi hs | exact hcAq _ hAq hs | exact hrow hs | exact hrowq hs | exact hcel hs _ (by omega) | exact hcelq hs _ (by omega))) ?_) | refine HL_skip rfl rfl rfl rfl ?_ | refine HL_skipU rfl rfl rfl ?_
                            first | (refine HL_want rfl rfl ?_; refine HL_val rfl (fun w hs => R_idx1 Try.underlying38 Try.ti2 rfl rfl (by with_reducible first | exact natc_k _ | exact natc_a1 _ | exact natc_0 | exact natc_1 | exact natc_2 | exact natc_s1 _ (by omega) | exact natc_a2 _ | exact natc_add _ _ | exact natc_mul _ _ | exact natc (by omega)) (by omega) (by first | rfl | exact hqa | exact hqr | exact haA2 (by omega) | exact haQ (by omega))) ?_) | refine HL_skip rfl rfl rfl rfl ?_ | refine HL_skipU rfl rfl rfl ?_
                            first | (refine HL_want rfl rfl ?_; refine HL_val rfl (fun w hs => R_load Try.one2 rfl (by first | exact hcAi _ hAi hs | exact hcAq _ hAq hs | exact hrow hs | exact hrowq hs | exact hcel hs _ (by omega) | exact hcelq hs _ (by omega))) ?_) | refine HL_skip rfl rfl rfl rfl ?_ | refine HL_skipU rfl rfl rfl ?_
                            first | (refine HL_want rfl rfl ?_; (first | refine HL_val rfl (fun w hs => R_lss rfl rfl (dtrue (by omega))) ?_ | refine HL_val rfl (fun w hs => R_lss rfl rfl (dfalse (by omega))) ?_ | refine HL_val rfl (fun w hs => R_lss rfl rfl rfl) ?_)) | refine HL_skip rfl rfl rfl rfl ?_ | refine HL_skipU rfl rfl rfl ?_
                            first | refine HL_val rfl (fun w hs => R_pick_t rfl rfl) ?_ | refine HL_val rfl (fun w hs => R_pick_f rfl rfl) ?_
                            refine HL_tail ?_
                            intro w hs
                            refine RL_then ?_
                            refine W_if_true rfl ?_
                            refine W_exit' ?_
                            refine Ex_then_exit ?_
                            refine Ex_block_hit ?_
                            refine Nx_then ?_
                            refine W_region ?_
                            first | refine L_add rfl rfl rfl (wrp_i64 (by omega)) ?_ | refine L_add rfl rfl rfl rfl ?_
                            refine L_move rfl rfl ?_
                            refine RL_nil' ?_
                            refine Nx_loopP (q + 1, _) (is := [0, 6, 12, 16, 131, 132, 200, 201]) (I' := (fun (q : Nat) (w : World) => (q ≤ i) ∧ (HS w5 w [(gu, Row 4 (bls us))])) (q + 1) (_)) rfl rfl rfl ?_ ?_
                            · exact ⟨by omega, hs⟩
                            · omega
                          · by_cases n2 : (rows.getD q []).getD ci2 0 < 0
                            · refine W_seq ?_
                              refine W_region ?_
                              first | refine L_lss rfl rfl rfl (dtrue (by omega)) ?_ | refine L_lss rfl rfl rfl (dfalse (by omega)) ?_ | refine L_lss rfl rfl rfl rfl ?_
                              refine RL_then ?_
                              refine W_seq ?_
                              refine W_if_true rfl ?_
                              refine W_skip' ?_
                              refine Nx_then ?_
                              refine W_seq ?_
                              refine W_block ?_
                              refine W_seq ?_
                              refine W_region ?_
                              refine L_move rfl rfl ?_
                              refine L_assign rfl rfl ?_
                              refine RL_then ?_
                              refine W_seq ?_
                              refine W_seq ?_
                              refine W_pht [0, 1, 2] [3, 4, 5, 6, 7, 8, 9, 10, 11, 12, 13, 14, 15, 16, 17, 18, 19, 20, 21, 22, 23, 24, 25, 26, 27, 28, 29, 30, 31, 32, 33, 34, 35, 36, 37] [] (fun _ _ _ => False) Try.mixed (by kernel_rfl) (fun _ _ _ _ _ h => h) hs ?_
                              refine PL_val rfl (fun w => R_move rfl) ?_
                              refine PL_val rfl (fun w => R_move rfl) ?_
                              refine PL_val rfl (fun w => R_idx1 Try.underlying25 Try.ti3 rfl rfl (by with_reducible first | exact natc_k _ | exact natc_a1 _ | exact natc_0 | exact natc_1 | exact natc_2 | exact natc_s1 _ (by omega) | exact natc_a2 _ | exact natc_add _ _ | exact natc_mul _ _ | exact natc (by omega)) (by omega) (by first | rfl | exact hqa | exact hqr | exact haA2 (by omega) | exact haQ (by omega))) ?_
                              refine PL_end ?_
                              refine HL_val rfl (fun w hs => R_load Try.one3 rfl (by first | exact hcAi _ hAi hs | exact hcAq _ hAq hs | exact hrow hs | exact hrowq hs | exact hcel hs _ (by omega) | exact hcelq hs _ (by omega))) ?_
                              first | refine HL_val rfl (fun w hs => R_lss rfl rfl (dtrue (by omega))) ?_ | refine HL_val rfl (fun w hs => R_lss rfl rfl (dfalse (by omega))) ?_ | refine HL_val rfl (fun w hs => R_lss rfl rfl rfl) ?_
                              refine HL_val rfl (fun w hs => R_move rfl) ?_
                              first | (refine HL_want rfl rfl ?_; refine HL_val rfl (fun w hs => R_move rfl) ?_) | refine HL_skip rfl rfl rfl rfl ?_ | refine HL_skipU rfl rfl rfl ?_
                              first | (refine HL_want rfl rfl ?_; refine HL_val rfl (fun w hs => R_move rfl) ?_) | refine HL_skip rfl rfl rfl rfl ?_ | refine HL_skipU rfl rfl rfl ?_
                              first | (refine HL_want rfl rfl ?_; refine HL_val rfl (fun w hs => R_idx1 Try.underlying25 Try.ti3 rfl rfl (by with_reducible first | exact natc_k _ | exact natc_a1 _ | exact natc_0 | exact natc_1 | exact natc_2 | exact natc_s1 _ (by omega) | exact natc_a2 _ | exact natc_add _ _ | exact natc_mul _ _ | exact natc (by omega)) (by omega) (by first | rfl | exact hqa | exact hqr | exact haA2 (by omega) | exact haQ (by omega))) ?_) | refine HL_skip rfl rfl rfl rfl ?_ | refine HL_skipU rfl rfl rfl ?_
                              first | (refine HL_want rfl rfl ?_; refine HL_val rfl (fun w hs => R_load Try.one3 rfl (by first | exact hcAi _ hAi hs | exact hcAq _ hAq hs | exact hrow hs | exact hrowq hs | exact hcel hs _ (by omega) | exact hcelq hs _ (by omega))) ?_) | refine HL_skip rfl rfl rfl rfl ?_ | refine HL_skipU rfl rfl rfl ?_
                              first | (refine HL_want rfl rfl ?_; (first | refine HL_val rfl (fun w hs => R_lss rfl rfl (dtrue (by omega))) ?_ | refine HL_val rfl (fun w hs => R_lss rfl rfl (dfalse (by omega))) ?_ | refine HL_val rfl (fun w hs => R_lss rfl rfl rfl) ?_)) | refine HL_skip rfl rfl rfl rfl ?_ | refine HL_skipU rfl rfl rfl ?_
                              first | refine HL_val rfl (fun w hs => R_pick_t rfl rfl) ?_ | refine HL_val rfl (fun w hs => R_pick_f rfl rfl) ?_
                              refine HL_val rfl (fun w hs => R_move rfl) ?_
                              first | (refine HL_want rfl rfl ?_; refine HL_val rfl (fun w hs => R_move rfl) ?_) | refine HL_skip rfl rfl rfl rfl ?_ | refine HL_skipU rfl rfl rfl ?_
                              first | (refine HL_want rfl rfl ?_; refine HL_val rfl (fun w hs => R_move rfl) ?_) | refine HL_skip rfl rfl rfl rfl ?_ | refine HL_skipU rfl rfl rfl ?_
                              first | (refine HL_want rfl rfl ?_; refine HL_val rfl (fun w hs => R_idx1 Try.underlying22 Try.ti38 rfl rfl (by with_reducible first | exact natc_k _ | exact natc_a1 _ | exact natc_0 | exact natc_1 | exact natc_2 | exact natc_s1 _ (by omega) | exact natc_a2 _ | exact natc_add _ _ | exact natc_mul _ _ | exact natc (by omega)) (by omega) (by first | rfl | exact hqa | exact hqr | exact haA2 (by omega) | exact haQ (by omega))) ?_) | refine HL_skip rfl rfl rfl rfl ?_ | refine HL_skipU rfl rfl rfl ?_
                              first | (refine HL_want rfl rfl ?_; refine HL_val rfl (fun w hs => R_load Try.one38 rfl (by first | exact hcAi _ hAi hs | exact hcAq _ hAq hs | exact hrow hs | exact hrowq hs | exact hcel hs _ (by omega) | exact hcelq hs _ (by omega))) ?_) | refine HL_skip rfl rfl rfl rfl ?_ | refine HL_skipU rfl rfl rfl ?_
                              first | (refine HL_want rfl rfl ?_; refine HL_val rfl (fun w hs => R_move rfl) ?_) | refine HL_skip rfl rfl rfl rfl ?_ | refine HL_skipU rfl rfl rfl ?_
                              first | (refine HL_want rfl rfl ?_; refine HL_val rfl (fun w hs => R_move rfl) ?_) | refine HL_skip rfl rfl rfl rfl ?_ | refine HL_skipU rfl rfl rfl ?_
                              first | (refine HL_want rfl rfl ?_; refine HL_val rfl (fun w hs => R_idx1 Try.underlying25 Try.ti3 rfl rfl (by with_reducible first | exact natc_k _ | exact natc_a1 _ | exact natc_0 | exact natc_1 | exact natc_2 | exact natc_s1 _ (by omega) | exact natc_a2 _ | exact natc_add _ _ | exact natc_mul _ _ | exact natc (by omega)) (by omega) (by first | rfl | exact hqa | exact hqr | exact haA2 (by omega) | exact haQ (by omega))) ?_) | refine HL_skip rfl rfl rfl rfl ?_ | refine HL_skipU rfl rfl rfl ?_
                              first | (refine HL_want rfl rfl ?_; refine HL_val rfl (fun w hs => R_load Try.one3 rfl (by first | exact hcAi _ hAi hs | exact hcAq _ hAq hs | exact hrow hs | exact hrowq hs | exact hcel hs _ (by omega) | exact hcelq hs _ (by omega))) ?_) | refine HL_skip rfl rfl rfl rfl ?_ | refine HL_skipU rfl rfl rfl ?_
                              first | (refine HL_want rfl rfl ?_; refine HL_val rfl (fun w hs => R_idx1 Try.underlying38 Try.ti2 rfl rfl (by with_reducible first | exact natc_k _ | exact natc_a1 _ | exact natc_0 | exact natc_1 | exact natc_2 | exact natc_s1 _ (by omega) | exact natc_a2 _ | exact natc_add _ _ | exact natc_mul _ _ | exact natc (by omega)) (by omega) (by first | rfl | exact hqa | exact hqr | exact haA2 (by omega) | exact haQ (by omega))) ?_) | refine HL_skip rfl rfl rfl rfl ?_ | refine HL_skipU rfl rfl rfl ?_
                              first | (refine HL_want rfl rfl ?_; refine HL_val rfl (fun w hs => R_load Try.one2 rfl (by first | exact hcAi _ hAi hs | exact hcAq _ hAq hs | exact hrow hs | exact hrowq hs | exact hcel hs _ (by omega) | exact hcelq hs _ (by omega))) ?_) | refine HL_skip rfl rfl rfl rfl ?_ | refine HL_skipU rfl rfl rfl ?_
                              first | (refine HL_want rfl rfl ?_; (first | refine HL_val rfl (fun w hs => R_lss rfl rfl (dtrue (by omega))) ?_ | refine HL_val rfl (fun w hs => R_lss rfl rfl (dfalse (by omega))) ?_ | refine HL_val rfl (fun w hs => R_lss rfl rfl rfl) ?_)) | refine HL_skip rfl rfl rfl rfl ?_ | refine HL_skipU rfl rfl rfl ?_
                              first | refine HL_val rfl (fun w hs => R_pick_t rfl rfl) ?_ | refine HL_val rfl (fun w hs => R_pick_f rfl rfl) ?_
                              refine HL_val rfl (fun w hs => R_move rfl) ?_
                              first | (refine HL_want rfl rfl ?_; refine HL_val rfl (fun w hs => R_move rfl) ?_) | refine HL_skip rfl rfl rfl rfl ?_ | refine HL_skipU rfl rfl rfl ?_
                              first | (refine HL_want rfl rfl ?_; refine HL_val rfl (fun w hs => R_move rfl) ?_) | refine HL_skip rfl rfl rfl rfl ?_ | refine HL_skipU rfl rfl rfl ?_
                              first | (refine HL_want rfl rfl ?_; refine HL_val rfl (fun w hs => R_idx1 Try.underlying22 Try.ti38 rfl rfl (by with_reducible first | exact natc_k _ | exact natc_a1 _ | exact natc_0 | exact natc_1 | exact natc_2 | exact natc_s1 _ (by omega) | exact natc_a2 _ | exact natc_add _ _ | exact natc_mul _ _ | exact natc (by omega)) (by omega) (by first | rfl | exact hqa | exact hqr | exact haA2 (by omega) | exact haQ (by omega))) ?_) | refine HL_skip rfl rfl rfl rfl ?_ | refine HL_skipU rfl rfl rfl ?_
                              first | (refine HL_want rfl rfl ?_; refine HL_val rfl (fun w hs => R_load Try.one38 rfl (by first | exact hcAi _ hAi hs | exact hcAq _ hAq hs | exact hrow hs | exact hrowq hs | exact hcel hs _ (by omega) | exact hcelq hs _ (by omega))) ?_) | refine HL_skip rfl rfl rfl rfl ?_ | refine HL_skipU rfl rfl rfl ?_
                              first | (refine HL_want rfl rfl ?_; refine HL_val rfl (fun w hs => R_move rfl) ?_) | refine HL_skip rfl rfl rfl rfl ?_ | refine HL_skipU rfl rfl rfl ?_
                              first | (refine HL_want rfl rfl ?_; refine HL_val rfl (fun w hs => R_move rfl) ?_) | refine HL_skip rfl rfl rfl rfl ?_ | refine HL_skipU rfl rfl rfl ?_
                              first | (refine HL_want rfl rfl ?_; refine HL_val rfl (fun w hs => R_idx1 Try.underlying25 Try.ti3 rfl rfl (by with_reducible first | exact natc_k _ | exact natc_a1 _ | exact natc_0 | exact natc_1 | exact natc_2 | exact natc_s1 _ (by omega) | exact natc_a2 _ | exact natc_add _ _ | exact natc_mul _ _ | exact natc (by omega)) (by omega) (by first | rfl | exact hqa | exact hqr | exact haA2 (by omega) | exact haQ (by omega))) ?_) | refine HL_skip rfl rfl rfl rfl ?_ | refine HL_skipU rfl rfl rfl ?_
                              first | (refine HL_want rfl rfl ?_; refine HL_val rfl (fun w hs => R_load Try.one3 rfl (by first | exact hcAi _ hAi hs | exact hcAq _ hAq hs | exact hrow hs | exact hrowq hs | exact hcel hs _ (by omega) | exact hcelq hs _ (by omega))) ?_) | refine HL_skip rfl rfl rfl rfl ?_ | refine HL_skipU rfl rfl rfl ?_
                              first | (refine HL_want rfl rfl ?_; refine HL_val rfl (fun w hs => R_idx1 Try.underlying38 Try.ti2 rfl rfl (by with_reducible first | exact natc_k _ | exact natc_a1 _ | exact natc_0 | exact natc_1 | exact natc_2 | exact natc_s1 _ (by omega) | exact natc_a2 _ | exact natc_add _ _ | exact natc_mul _ _ | exact natc (by omega)) (by omega) (by first | rfl | exact hqa | exact hqr | exact haA2 (by omega) | exact haQ (by omega))) ?_) | refine HL_skip rfl rfl rfl rfl ?_ | refine HL_skipU rfl rfl rfl ?_
                              first | (refine HL_want rfl rfl ?_; refine HL_val rfl (fun w hs => R_load Try.one2 rfl (by first | exact hcAi _ hAi hs | exact hcAq _ hAq hs | exact hrow hs | exact hrowq hs | exact hcel hs _ (by omega) | exact hcelq hs _ (by omega))) ?_) | refine HL_skip rfl rfl rfl rfl ?_ | refine HL_skipU rfl rfl rfl ?_
                              first | (refine HL_want rfl rfl ?_; (first | refine HL_val rfl (fun w hs => R_lss rfl rfl (dtrue (by omega))) ?_ | refine HL_val rfl (fun w hs => R_lss rfl rfl (dfalse (by omega))) ?_ | refine HL_val rfl (fun w hs => R_lss rfl rfl rfl) ?_)) | refine HL_skip rfl rfl rfl rfl ?_ | refine HL_skipU rfl rfl rfl ?_
                              first | refine HL_val rfl (fun w hs => R_pick_t rfl rfl) ?_ | refine HL_val rfl (fun w hs => R_pick_f rfl rfl) ?_
                              refine HL_tail ?_
                              intro w hs
                              refine RL_then ?_
                              refine W_if_true rfl ?_
                              refine W_exit' ?_
                              refine Ex_then_exit ?_
                              refine Ex_block_hit ?_
                              refine Nx_then ?_
                              refine W_region ?_
                              first | refine L_add rfl rfl rfl (wrp_i64 (by omega)) ?_ | refine L_add rfl rfl rfl rfl ?_
                              refine L_move rfl rfl ?_
                              refine RL_nil' ?_
                              refine Nx_loopP (q + 1, _) (is := [0, 6, 12, 16, 131, 132, 200, 201]) (I' := (fun (q : Nat) (w : World) => (q ≤ i) ∧ (HS w5 w [(gu, Row 4 (bls us))])) (q + 1) (_)) rfl rfl rfl ?_ ?_
                              · exact ⟨by omega, hs⟩
                              · omega
                            · obtain ⟨p1, p2⟩ := hT.pair i q ci2 cq2 (by omega) hltq hAi hAq (by simp only [el]; omega) (by simp only [el]; omega)
                              replace p1 : (rows.getD i []).getD ci2 0 + (rows.getD q []).getD cq2 0 ≤ (rows.getD i []).getD cq2 0 + (rows.getD q []).getD ci2 0 := p1
                              by_cases heq : (rows.getD i []).getD ci2 0 + (rows.getD q []).getD cq2 0 = (rows.getD i []).getD cq2 0 + (rows.getD q []).getD ci2 0
                              · have hlt3 := p2 heq
                                refine W_seq ?_
                                refine W_region ?_
                                first | refine L_lss rfl rfl rfl (dtrue (by omega)) ?_ | refine L_lss rfl rfl rfl (dfalse (by omega)) ?_ | refine L_lss rfl rfl rfl rfl ?_
                                refine RL_then ?_
                                refine W_seq ?_
                                refine W_if_true rfl ?_
                                refine W_skip' ?_
                                refine Nx_then ?_
                                refine W_seq ?_
                                refine W_block ?_
                                refine W_seq ?_
                                refine W_region ?_
                                refine L_move rfl rfl ?_
                                refine L_assign rfl rfl ?_
                                refine RL_then ?_
                                refine W_seq ?_
                                refine W_seq ?_
                                refine W_pht [0, 1, 2] [3, 4, 5, 6, 7, 8, 9, 10, 11, 12, 13, 14, 15, 16, 17, 18, 19, 20, 21, 22, 23, 24, 25, 26, 27, 28, 29, 30, 31, 32, 33, 34, 35, 36, 37] [] (fun _ _ _ => False) Try.mixed (by kernel_rfl) (fun _ _ _ _ _ h => h) hs ?_
                                refine PL_val rfl (fun w => R_move rfl) ?_
                                refine PL_val rfl (fun w => R_move rfl) ?_
                                refine PL_val rfl (fun w => R_idx1 Try.underlying25 Try.ti3 rfl rfl (by with_reducible first | exact natc_k _ | exact natc_a1 _ | exact natc_0 | exact natc_1 | exact natc_2 | exact natc_s1 _ (by omega) | exact natc_a2 _ | exact natc_add _ _ | exact natc_mul _ _ | exact natc (by omega)) (by omega) (by first | rfl | exact hqa | exact hqr | exact haA2 (by omega) | exact haQ (by omega))) ?_
                                refine PL_end ?_
                                refine HL_val rfl (fun w hs => R_load Try.one3 rfl (by first | exact hcAi _ hAi hs | exact hcAq _ hAq hs | exact hrow hs | exact hrowq hs | exact hcel hs _ (by omega) | exact hcelq hs _ (by omega))) ?_
                                first | refine HL_val rfl (fun w hs => R_lss rfl rfl (dtrue (by omega))) ?_ | refine HL_val rfl (fun w hs => R_lss rfl rfl (dfalse (by omega))) ?_ | refine HL_val rfl (fun w hs => R_lss rfl rfl rfl) ?_
                                refine HL_val rfl (fun w hs => R_move rfl) ?_
                                first | (refine HL_want rfl rfl ?_; refine HL_val rfl (fun w hs => R_move rfl) ?_) | refine HL_skip rfl rfl rfl rfl ?_ | refine HL_skipU rfl rfl rfl ?_
                                first | (refine HL_want rfl rfl ?_; refine HL_val rfl (fun w hs => R_move rfl) ?_) | refine HL_skip rfl rfl rfl rfl ?_ | refine HL_skipU rfl rfl rfl ?_
                                first | (refine HL_want rfl rfl ?_; refine HL_val rfl (fun w hs => R_idx1 Try.underlying25 Try.ti3 rfl rfl (by with_reducible first | exact natc_k _ | exact natc_a1 _ | exact natc_0 | exact natc_1 | exact natc_2 | exact natc_s1 _ (by omega) | exact natc_a2 _ | exact natc_add _ _ | exact natc_mul _ _ | exact natc (by omega)) (by omega) (by first | rfl | exact hqa | exact hqr | exact haA2 (by omega) | exact haQ (by omega))) ?_) | refine HL_skip rfl rfl rfl rfl ?_ | refine HL_skipU rfl rfl rfl ?_
                                first | (refine HL_want rfl rfl ?_; refine HL_val rfl (fun w hs => R_load Try.one3 rfl (by first | exact hcAi _ hAi hs | exact hcAq _ hAq hs | exact hrow hs | exact hrowq hs | exact hcel hs _ (by omega) | exact hcelq hs _ (by omega))) ?_) | refine HL_skip rfl rfl rfl rfl ?_ | refine HL_skipU rfl rfl rfl ?_
                                first | (refine HL_want rfl rfl ?_; (first | refine HL_val rfl (fun w hs => R_lss rfl rfl (dtrue (by omega))) ?_ | refine HL_val rfl (fun w hs => R_lss rfl rfl (dfalse (by omega))) ?_ | refine HL_val rfl (fun w hs => R_lss rfl rfl rfl) ?_)) | refine HL_skip rfl rfl rfl rfl ?_ | refine HL_skipU rfl rfl rfl ?_
                                first | refine HL_val rfl (fun w hs => R_pick_t rfl rfl) ?_ | refine HL_val rfl (fun w hs => R_pick_f rfl rfl) ?_
                                refine HL_val rfl (fun w hs => R_move rfl) ?_
                                first | (refine HL_want rfl rfl ?_; refine HL_val rfl (fun w hs => R_move rfl) ?_) | refine HL_skip rfl rfl rfl rfl ?_ | refine HL_skipU rfl rfl rfl ?_
                                first | (refine HL_want rfl rfl ?_; refine HL_val rfl (fun w hs => R_move rfl) ?_) | refine HL_skip rfl rfl rfl rfl ?_ | refine HL_skipU rfl rfl rfl ?_
                                first | (refine HL_want rfl rfl ?_; refine HL_val rfl (fun w hs => R_idx1 Try.underlying22 Try.ti38 rfl rfl (by with_reducible first | exact natc_k _ | exact natc_a1 _ | exact natc_0 | exact natc_1 | exact natc_2 | exact natc_s1 _ (by omega) | exact natc_a2 _ | exact natc_add _ _ | exact natc_mul _ _ | exact natc (by omega)) (by omega) (by first | rfl | exact hqa | exact hqr | exact haA2 (by omega) | exact haQ (by omega))) ?_) | refine HL_skip rfl rfl rfl rfl ?_ | refine HL_skipU rfl rfl rfl ?_
                                first | (refine HL_want rfl rfl ?_; refine HL_val rfl (fun w hs => R_load Try.one38 rfl (by first | exact hcAi _ hAi hs | exact hcAq _ hAq hs | exact hrow hs | exact hrowq hs | exact hcel hs _ (by omega) | exact hcelq hs _ (by omega))) ?_) | refine HL_skip rfl rfl rfl rfl ?_ | refine HL_skipU rfl rfl rfl ?_
                                first | (refine HL_want rfl rfl ?_; refine HL_val rfl (fun w hs => R_move rfl) ?_) | refine HL_skip rfl rfl rfl rfl ?_ | refine HL_skipU rfl rfl rfl ?_
                                first | (refine HL_want rfl rfl ?_; refine HL_val rfl (fun w hs => R_move rfl) ?_) | refine HL_skip rfl rfl rfl rfl ?_ | refine HL_skipU rfl rfl rfl ?_
                                first | (refine HL_want rfl rfl ?_; refine HL_val rfl (fun w hs => R_idx1 Try.underlying25 Try.ti3 rfl rfl (by with_reducible first | exact natc_k _ | exact natc_a1 _ | exact natc_0 | exact natc_1 | exact natc_2 | exact natc_s1 _ (by omega) | exact natc_a2 _ | exact natc_add _ _ | exact natc_mul _ _ | exact natc (by omega)) (by omega) (by first | rfl | exact hqa | exact hqr | exact haA2 (by omega) | exact haQ (by omega))) ?_) | refine HL_skip rfl rfl rfl rfl ?_ | refine HL_skipU rfl rfl rfl ?_
                                first | (refine HL_want rfl rfl ?_; refine HL_val rfl (fun w hs => R_load Try.one3 rfl (by first | exact hcAi _ hAi hs | exact hcAq _ hAq hs | exact hrow hs | exact hrowq hs | exact hcel hs _ (by omega) | exact hcelq hs _ (by omega))) ?_) | refine HL_skip rfl rfl rfl rfl ?_ | refine HL_skipU rfl rfl rfl ?_
                                first | (refine HL_want rfl rfl ?_; refine HL_val rfl (fun w hs => R_idx1 Try.underlying38 Try.ti2 rfl rfl (by with_reducible first | exact natc_k _ | exact natc_a1 _ | exact natc_0 | exact natc_1 | exact natc_2 | exact natc_s1 _ (by omega) | exact natc_a2 _ | exact natc_add _ _ | exact natc_mul _ _ | exact natc (by omega)) (by omega) (by first | rfl | exact hqa | exact hqr | exact haA2 (by omega) | exact haQ (by omega))) ?_) | refine HL_skip rfl rfl rfl rfl ?_ | refine HL_skipU rfl rfl rfl ?_
                                first | (refine HL_want rfl rfl ?_; refine HL_val rfl (fun w hs => R_load Try.one2 rfl (by first | exact hcAi _ hAi hs | exact hcAq _ hAq hs | exact hrow hs | exact hrowq hs | exact hcel hs _ (by omega) | exact hcelq hs _ (by omega))) ?_) | refine HL_skip rfl rfl rfl rfl ?_ | refine HL_skipU rfl rfl rfl ?_
                                first | (refine HL_want rfl rfl ?_; (first | refine HL_val rfl (fun w hs => R_lss rfl rfl (dtrue (by omega))) ?_ | refine HL_val rfl (fun w hs => R_lss rfl rfl (dfalse (by omega))) ?_ | refine HL_val rfl (fun w hs => R_lss rfl rfl rfl) ?_)) | refine HL_skip rfl rfl rfl rfl ?_ | refine HL_skipU rfl rfl rfl ?_
                                first | refine HL_val rfl (fun w hs => R_pick_t rfl rfl) ?_ | refine HL_val rfl (fun w hs => R_pick_f rfl rfl) ?_
                                refine HL_val rfl (fun w hs => R_move rfl) ?_
                                first | (refine HL_want rfl rfl ?_; refine HL_val rfl (fun w hs => R_move rfl) ?_) | refine HL_skip rfl rfl rfl rfl ?_ | refine HL_skipU rfl rfl rfl ?_
                                first | (refine HL_want rfl rfl ?_; refine HL_val rfl (fun w hs => R_move rfl) ?_) | refine HL_skip rfl rfl rfl rfl ?_ | refine HL_skipU rfl rfl rfl ?_
                                first | (refine HL_want rfl rfl ?_; refine HL_val rfl (fun w hs => R_idx1 Try.underlying22 Try.ti38 rfl rfl (by with_reducible first | exact natc_k _ | exact natc_a1 _ | exact natc_0 | exact natc_1 | exact natc_2 | exact natc_s1 _ (by omega) | exact natc_a2 _ | exact natc_add _ _ | exact natc_mul _ _ | exact natc (by omega)) (by omega) (by first | rfl | exact hqa | exact hqr | exact haA2 (by omega) | exact haQ (by omega))) ?_) | refine HL_skip rfl rfl rfl rfl ?_ | refine HL_skipU rfl rfl rfl ?_
                                first | (refine HL_want rfl rfl ?_; refine HL_val rfl (fun w hs => R_load Try.one38 rfl (by first | exact hcAi _ hAi hs | exact hcAq _ hAq hs | exact hrow hs | exact hrowq hs | exact hcel hs _ (by omega) | exact hcelq hs _ (by omega))) ?_) | refine HL_skip rfl rfl rfl rfl ?_ | refine HL_skipU rfl rfl rfl ?_
                                first | (refine HL_want rfl rfl ?_; refine HL_val rfl (fun w hs => R_move rfl) ?_) | refine HL_skip rfl rfl rfl rfl ?_ | refine HL_skipU rfl rfl rfl ?_
                                first | (refine HL_want rfl rfl ?_; refine HL_val rfl (fun w hs => R_move rfl) ?_) | refine HL_skip rfl rfl rfl rfl ?_ | refine HL_skipU rfl rfl rfl ?_
                                first | (refine HL_want rfl rfl ?_; refine HL_val rfl (fun w hs => R_idx1 Try.underlying25 Try.ti3 rfl rfl (by with_reducible first | exact natc_k _ | exact natc_a1 _ | exact natc_0 | exact natc_1 | exact natc_2 | exact natc_s1 _ (by omega) | exact natc_a2 _ | exact natc_add _ _ | exact natc_mul _ _ | exact natc (by omega)) (by omega) (by first | rfl | exact hqa | exact hqr | exact haA2 (by omega) | exact haQ (by omega))) ?_) | refine HL_skip rfl rfl rfl rfl ?_ | refine HL_skipU rfl rfl rfl ?_
                                first | (refine HL_want rfl rfl ?_; refine HL_val rfl (fun w hs => R_load Try.one3 rfl (by first | exact hcAi _ hAi hs | exact hcAq _ hAq hs | exact hrow hs | exact hrowq hs | exact hcel hs _ (by omega) | exact hcelq hs _ (by omega))) ?_) | refine HL_skip rfl rfl rfl rfl ?_ | refine HL_skipU rfl rfl rfl ?_
                                first | (refine HL_want rfl rfl ?_; refine HL_val rfl (fun w hs => R_idx1 Try.underlying38 Try.ti2 rfl rfl (by with_reducible first | exact natc_k _ | exact natc_a1 _ | exact natc_0 | exact natc_1 | exact natc_2 | exact natc_s1 _ (by omega) | exact natc_a2 _ | exact natc_add _ _ | exact natc_mul _ _ | exact natc (by omega)) (by omega) (by first | rfl | exact hqa | exact hqr | exact haA2 (by omega) | exact haQ (by omega))) ?_) | refine HL_skip rfl rfl rfl rfl ?_ | refine HL_skipU rfl rfl rfl ?_
                                first | (refine HL_want rfl rfl ?_; refine HL_val rfl (fun w hs => R_load Try.one2 rfl (by first | exact hcAi _ hAi hs | exact hcAq _ hAq hs | exact hrow hs | exact hrowq hs | exact hcel hs _ (by omega) | exact hcelq hs _ (by omega))) ?_) | refine HL_skip rfl rfl rfl rfl ?_ | refine HL_skipU rfl rfl rfl ?_
                                first | (refine HL_want rfl rfl ?_; (first | refine HL_val rfl (fun w hs => R_lss rfl rfl (dtrue (by omega))) ?_ | refine HL_val rfl (fun w hs => R_lss rfl rfl (dfalse (by omega))) ?_ | refine HL_val rfl (fun w hs => R_lss rfl rfl rfl) ?_)) | refine HL_skip rfl rfl rfl rfl ?_ | refine HL_skipU rfl rfl rfl ?_
                                first | refine HL_val rfl (fun w hs => R_pick_t rfl rfl) ?_ | refine HL_val rfl (fun w hs => R_pick_f rfl rfl) ?_
                                refine HL_tail ?_
                                intro w hs
                                refine RL_then ?_
                                refine W_if_false rfl ?_
                                refine W_skip' ?_
                                refine Nx_then ?_
                                refine W_seq ?_
                                refine W_pht [0, 1, 2, 4, 5, 6, 10, 11, 12, 14, 15, 16, 21, 22, 23, 25, 26, 27, 31, 32, 33, 35, 36, 37] [3, 7, 8, 9, 13, 17, 18, 19, 20, 24, 28, 29, 30, 34, 38, 39, 40, 41, 42, 43] [] (fun _ _ _ => False) Try.mixed (by kernel_rfl) (fun _ _ _ _ _ h => h) hs ?_
                                refine PL_val rfl (fun w => R_move rfl) ?_
                                refine PL_val rfl (fun w => R_move rfl) ?_
                                refine PL_val rfl (fun w => R_idx1 Try.underlying22 Try.ti38 rfl rfl (by with_reducible first | exact natc_k _ | exact natc_a1 _ | exact natc_0 | exact natc_1 | exact natc_2 | exact natc_s1 _ (by omega) | exact natc_a2 _ | exact natc_add _ _ | exact natc_mul _ _ | exact natc (by omega)) (by omega) (by first | rfl | exact hqa | exact hqr | exact haA2 (by omega) | exact haQ (by omega))) ?_
                                refine PL_val rfl (fun w => R_move rfl) ?_
                                refine PL_val rfl (fun w => R_move rfl) ?_
                                refine PL_val rfl (fun w => R_idx1 Try.underlying25 Try.ti3 rfl rfl (by with_reducible first | exact natc_k _ | exact natc_a1 _ | exact natc_0 | exact natc_1 | exact natc_2 | exact natc_s1 _ (by omega) | exact natc_a2 _ | exact natc_add _ _ | exact natc_mul _ _ | exact natc (by omega)) (by omega) (by first | rfl | exact hqa | exact hqr | exact haA2 (by omega) | exact haQ (by omega))) ?_
                                refine PL_val rfl (fun w => R_move rfl) ?_
                                refine PL_val rfl (fun w => R_move rfl) ?_
                                refine PL_val rfl (fun w => R_idx1 Try.underlying22 Try.ti38 rfl rfl (by with_reducible first | exact natc_k _ | exact natc_a1 _ | exact natc_0 | exact natc_1 | exact natc_2 | exact natc_s1 _ (by omega) | exact natc_a2 _ | exact natc_add _ _ | exact natc_mul _ _ | exact natc (by omega)) (by omega) (by first | rfl | exact hqa | exact hqr | exact haA2 (by omega) | exact haQ (by omega))) ?_
                                refine PL_val rfl (fun w => R_move rfl) ?_
                                refine PL_val rfl (fun w => R_move rfl) ?_
                                refine PL_val rfl (fun w => R_idx1 Try.underlying25 Try.ti3 rfl rfl (by with_reducible first | exact natc_k _ | exact natc_a1 _ | exact natc_0 | exact natc_1 | exact natc_2 | exact natc_s1 _ (by omega) | exact natc_a2 _ | exact natc_add _ _ | exact natc_mul _ _ | exact natc (by omega)) (by omega) (by first | rfl | exact hqa | exact hqr | exact haA2 (by omega) | exact haQ (by omega))) ?_
                                refine PL_val rfl (fun w => R_move rfl) ?_
                                refine PL_val rfl (fun w => R_move rfl) ?_
                                refine PL_val rfl (fun w => R_idx1 Try.underlying22 Try.ti38 rfl rfl (by with_reducible first | exact natc_k _ | exact natc_a1 _ | exact natc_0 | exact natc_1 | exact natc_2 | exact natc_s1 _ (by omega) | exact natc_a2 _ | exact natc_add _ _ | exact natc_mul _ _ | exact natc (by omega)) (by omega) (by first | rfl | exact hqa | exact hqr | exact haA2 (by omega) | exact haQ (by omega))) ?_
                                refine PL_val rfl (fun w => R_move rfl) ?_
                                refine PL_val rfl (fun w => R_move rfl) ?_
                                refine PL_val rfl (fun w => R_idx1 Try.underlying25 Try.ti3 rfl rfl (by with_reducible first | exact natc_k _ | exact natc_a1 _ | exact natc_0 | exact natc_1 | exact natc_2 | exact natc_s1 _ (by omega) | exact natc_a2 _ | exact natc_add _ _ | exact natc_mul _ _ | exact natc (by omega)) (by omega) (by first | rfl | exact hqa | exact hqr | exact haA2 (by omega) | exact haQ (by omega))) ?_
                                refine PL_val rfl (fun w => R_move rfl) ?_
                                refine PL_val rfl (fun w => R_move rfl) ?_
                                refine PL_val rfl (fun w => R_idx1 Try.underlying22 Try.ti38 rfl rfl (by with_reducible first | exact natc_k _ | exact natc_a1 _ | exact natc_0 | exact natc_1 | exact natc_2 | exact natc_s1 _ (by omega) | exact natc_a2 _ | exact natc_add _ _ | exact natc_mul _ _ | exact natc (by omega)) (by omega) (by first | rfl | exact hqa | exact hqr | exact haA2 (by omega) | exact haQ (by omega))) ?_
                                refine PL_val rfl (fun w => R_move rfl) ?_
                                refine PL_val rfl (fun w => R_move rfl) ?_
                                refine PL_val rfl (fun w => R_idx1 Try.underlying25 Try.ti3 rfl rfl (by with_reducible first | exact natc_k _ | exact natc_a1 _ | exact natc_0 | exact natc_1 | exact natc_2 | exact natc_s1 _ (by omega) | exact natc_a2 _ | exact natc_add _ _ | exact natc_mul _ _ | exact natc (by omega)) (by omega) (by first | rfl | exact hqa | exact hqr | exact haA2 (by omega) | exact haQ (by omega))) ?_
                                refine PL_end ?_
                                refine HL_val rfl (fun w hs => R_load Try.one38 rfl (by first | exact hcAi _ hAi hs | exact hcAq _ hAq hs | exact hrow hs | exact hrowq hs | exact hcel hs _ (by omega) | exact hcelq hs _ (by omega))) ?_
                                refine HL_val rfl (fun w hs => R_load Try.one3 rfl (by first | exact hcAi _ hAi hs | exact hcAq _ hAq hs | exact hrow hs | exact hrowq hs | exact hcel hs _ (by omega) | exact hcelq hs _ (by omega))) ?_
                                refine HL_val rfl (fun w hs => R_idx1 Try.underlying38 Try.ti2 rfl rfl (by with_reducible first | exact natc_k _ | exact natc_a1 _ | exact natc_0 | exact natc_1 | exact natc_2 | exact natc_s1 _ (by omega) | exact natc_a2 _ | exact natc_add _ _ | exact natc_mul _ _ | exact natc (by omega)) (by omega) (by first | rfl | exact hqa | exact hqr | exact haA2 (by omega) | exact haQ (by omega))) ?_
                                refine HL_val rfl (fun w hs => R_load Try.one2 rfl (by first | exact hcAi _ hAi hs | exact hcAq _ hAq hs | exact hrow hs | exact hrowq hs | exact hcel hs _ (by omega) | exact hcelq hs _ (by omega))) ?_
                                refine HL_val rfl (fun w hs => R_load Try.one38 rfl (by first | exact hcAi _ hAi hs | exact hcAq _ hAq hs | exact hrow hs | exact hrowq hs | exact hcel hs _ (by omega) | exact hcelq hs _ (by omega))) ?_
                                refine HL_val rfl (fun w hs => R_load Try.one3 rfl (by first | exact hcAi _ hAi hs | exact hcAq _ hAq hs | exact hrow hs | exact hrowq hs | exact hcel hs _ (by omega) | exact hcelq hs _ (by omega))) ?_
                                refine HL_val rfl (fun w hs => R_idx1 Try.underlying38 Try.ti2 rfl rfl (by with_reducible first | exact natc_k _ | exact natc_a1 _ | exact natc_0 | exact natc_1 | exact natc_2 | exact natc_s1 _ (by omega) | exact natc_a2 _ | exact natc_add _ _ | exact natc_mul _ _ | exact natc (by omega)) (by omega) (by first | rfl | exact hqa | exact hqr | exact haA2 (by omega) | exact haQ (by omega))) ?_
                                refine HL_val rfl (fun w hs => R_load Try.one2 rfl (by first | exact hcAi _ hAi hs | exact hcAq _ hAq hs | exact hrow hs | exact hrowq hs | exact hcel hs _ (by omega) | exact hcelq hs _ (by omega))) ?_
                                first | refine HL_val rfl (fun w hs => R_add rfl rfl (wrp_i64 (by omega))) ?_ | refine HL_val rfl (fun w hs => R_add rfl rfl rfl) ?_
                                refine HL_val rfl (fun w hs => R_load Try.one38 rfl (by first | exact hcAi _ hAi hs | exact hcAq _ hAq hs | exact hrow hs | exact hrowq hs | exact hcel hs _ (by omega) | exact hcelq hs _ (by omega))) ?_
                                refine HL_val rfl (fun w hs => R_load Try.one3 rfl (by first | exact hcAi _ hAi hs | exact hcAq _ hAq hs | exact hrow hs | exact hrowq hs | exact hcel hs _ (by omega) | exact hcelq hs _ (by omega))) ?_
                                refine HL_val rfl (fun w hs => R_idx1 Try.underlying38 Try.ti2 rfl rfl (by with_reducible first | exact natc_k _ | exact natc_a1 _ | exact natc_0 | exact natc_1 | exact natc_2 | exact natc_s1 _ (by omega) | exact natc_a2 _ | exact natc_add _ _ | exact natc_mul _ _ | exact natc (by omega)) (by omega) (by first | rfl | exact hqa | exact hqr | exact haA2 (by omega) | exact haQ (by omega))) ?_
                                refine HL_val rfl (fun w hs => R_load Try.one2 rfl (by first | exact hcAi _ hAi hs | exact hcAq _ hAq hs | exact hrow hs | exact hrowq hs | exact hcel hs _ (by omega) | exact hcelq hs _ (by omega))) ?_
                                refine HL_val rfl (fun w hs => R_load Try.one38 rfl (by first | exact hcAi _ hAi hs | exact hcAq _ hAq hs | exact hrow hs | exact hrowq hs | exact hcel hs _ (by omega) | exact hcelq hs _ (by omega))) ?_
                                refine HL_val rfl (fun w hs => R_load Try.one3 rfl (by first | exact hcAi _ hAi hs | exact hcAq _ hAq hs | exact hrow hs | exact hrowq hs | exact hcel hs _ (by omega) | exact hcelq hs _ (by omega))) ?_
                                refine HL_val rfl (fun w hs => R_idx1 Try.underlying38 Try.ti2 rfl rfl (by with_reducible first | exact natc_k _ | exact natc_a1 _ | exact natc_0 | exact natc_1 | exact natc_2 | exact natc_s1 _ (by omega) | exact natc_a2 _ | exact natc_add _ _ | exact natc_mul _ _ | exact natc (by omega)) (by omega) (by first | rfl | exact hqa | exact hqr | exact haA2 (by omega) | exact haQ (by omega))) ?_
                                refine HL_val rfl (fun w hs => R_load Try.one2 rfl (by first | exact hcAi _ hAi hs | exact hcAq _ hAq hs | exact hrow hs | exact hrowq hs | exact hcel hs _ (by omega) | exact hcelq hs _ (by omega))) ?_
                                first | refine HL_val rfl (fun w hs => R_add rfl rfl (wrp_i64 (by omega))) ?_ | refine HL_val rfl (fun w hs => R_add rfl rfl rfl) ?_
                                refine HL_val rfl (fun w hs => R_assign rfl) ?_
                                refine HL_val rfl (fun w hs => R_assign rfl) ?_
                                refine HL_tail ?_
                                intro w hs
                                refine RL_then ?_
                                refine W_seq ?_
                                refine W_pht [0, 1, 2, 3, 4, 5, 6, 7, 8, 9, 10, 12, 13, 14] [11, 15, 16, 17, 18] [] (fun _ _ _ => False) Try.mixed (by kernel_rfl) (fun _ _ _ _ _ h => h) hs ?_
                                refine PL_val rfl (fun w => R_move rfl) ?_
                                refine PL_val rfl (fun w => R_move rfl) ?_
                                first | refine PL_val rfl (fun w => R_lss rfl rfl (dtrue (by omega))) ?_ | refine PL_val rfl (fun w => R_lss rfl rfl (dfalse (by omega))) ?_ | refine PL_val rfl (fun w => R_lss rfl rfl rfl) ?_
                                refine PL_val rfl (fun w => R_move rfl) ?_
                                first | refine PL_want rfl rfl rfl (fun w => R_move rfl) ?_ | refine PL_skip rfl rfl rfl rfl ?_ | refine PL_skipU rfl rfl rfl ?_
                                first | refine PL_want rfl rfl rfl (fun w => R_move rfl) ?_ | refine PL_skip rfl rfl rfl rfl ?_ | refine PL_skipU rfl rfl rfl ?_
                                first | refine PL_want rfl rfl rfl (fun w => R_eql rfl rfl (dtrue (by omega))) ?_ | refine PL_want rfl rfl rfl (fun w => R_eql rfl rfl (dfalse (by omega))) ?_ | refine PL_want rfl rfl rfl (fun w => R_eql rfl rfl rfl) ?_ | refine PL_skip rfl rfl rfl rfl ?_ | refine PL_skipU rfl rfl rfl ?_
                                first | refine PL_want rfl rfl rfl (fun w => R_move rfl) ?_ | refine PL_skip rfl rfl rfl rfl ?_ | refine PL_skipU rfl rfl rfl ?_
                                first | refine PL_want rfl rfl rfl (fun w => R_move rfl) ?_ | refine PL_skip rfl rfl rfl rfl ?_ | refine PL_skipU rfl rfl rfl ?_
                                first | refine PL_want rfl rfl rfl (fun w => R_move rfl) ?_ | refine PL_skip rfl rfl rfl rfl ?_ | refine PL_skipU rfl rfl rfl ?_
                                first | refine PL_want rfl rfl rfl (fun w => R_idx1 Try.underlying25 Try.ti3 rfl rfl (by with_reducible first | exact natc_k _ | exact natc_a1 _ | exact natc_0 | exact natc_1 | exact natc_2 | exact natc_s1 _ (by omega) | exact natc_a2 _ | exact natc_add _ _ | exact natc_mul _ _ | exact natc (by omega)) (by omega) (by first | rfl | exact hqa | exact hqr | exact haA2 (by omega) | exact haQ (by omega))) ?_ | refine PL_skip rfl rfl rfl rfl ?_ | refine PL_skipU rfl rfl rfl ?_
                                first | refine PL_want rfl rfl rfl (fun w => R_move rfl) ?_ | refine PL_skip rfl rfl rfl rfl ?_ | refine PL_skipU rfl rfl rfl ?_
                                first | refine PL_want rfl rfl rfl (fun w => R_move rfl) ?_ | refine PL_skip rfl rfl rfl rfl ?_ | refine PL_skipU rfl rfl rfl ?_
                                first | refine PL_want rfl rfl rfl (fun w => R_idx1 Try.underlying25 Try.ti3 rfl rfl (by with_reducible first | exact natc_k _ | exact natc_a1 _ | exact natc_0 | exact natc_1 | exact natc_2 | exact natc_s1 _ (by omega) | exact natc_a2 _ | exact natc_add _ _ | exact natc_mul _ _ | exact natc (by omega)) (by omega) (by first | rfl | exact hqa | exact hqr | exact haA2 (by omega) | exact haQ (by omega))) ?_ | refine PL_skip rfl rfl rfl rfl ?_ | refine PL_skipU rfl rfl rfl ?_
                                refine PL_end ?_
                                first | (refine HL_want rfl rfl ?_; refine HL_val rfl (fun w hs => R_load Try.one3 rfl (by first | exact hcAi _ hAi hs | exact hcAq _ hAq hs | exact hrow hs | exact hrowq hs | exact hcel hs _ (by omega) | exact hcelq hs _ (by omega))) ?_) | refine HL_skip rfl rfl rfl rfl ?_ | refine HL_skipU rfl rfl rfl ?_
                                first | (refine HL_want rfl rfl ?_; refine HL_val rfl (fun w hs => R_load Try.one3 rfl (by first | exact hcAi _ hAi hs | exact hcAq _ hAq hs | exact hrow hs | exact hrowq hs | exact hcel hs _ (by omega) | exact hcelq hs _ (by omega))) ?_) | refine HL_skip rfl rfl rfl rfl ?_ | refine HL_skipU rfl rfl rfl ?_
                                first | (refine HL_want rfl rfl ?_; (first | refine HL_val rfl (fun w hs => R_lss rfl rfl (dtrue (by omega))) ?_ | refine HL_val rfl (fun w hs => R_lss rfl rfl (dfalse (by omega))) ?_ | refine HL_val rfl (fun w hs => R_lss rfl rfl rfl) ?_)) | refine HL_skip rfl rfl rfl rfl ?_ | refine HL_skipU rfl rfl rfl ?_
                                first | (refine HL_want rfl rfl ?_; (first | refine HL_val rfl (fun w hs => R_pick_t rfl rfl) ?_ | refine HL_val rfl (fun w hs => R_pick_f rfl rfl) ?_)) | refine HL_skip rfl rfl rfl rfl ?_ | refine HL_skipU rfl rfl rfl ?_
                                first | refine HL_val rfl (fun w hs => R_pick_t rfl rfl) ?_ | refine HL_val rfl (fun w hs => R_pick_f rfl rfl) ?_
                                refine HL_tail ?_
                                intro w hs
                                refine RL_then ?_
                                refine W_if_false rfl ?_
                                refine W_skip' ?_
                                refine Nx_block ?_
                                refine Nx_then ?_
                                refine W_region ?_
                                first | refine L_add rfl rfl rfl (wrp_i64 (by omega)) ?_ | refine L_add rfl rfl rfl rfl ?_
                                refine L_move rfl rfl ?_
                                refine RL_nil' ?_
                                refine Nx_loopP (q + 1, _) (is := [0, 6, 12, 16, 131, 132, 200, 201]) (I' := (fun (q : Nat) (w : World) => (q ≤ i) ∧ (HS w5 w [(gu, Row 4 (bls us))])) (q + 1) (_)) rfl rfl rfl ?_ ?_
                                · exact ⟨by omega, hs⟩
                                · omega
                              · refine W_seq ?_
                                refine W_region ?_
                                first | refine L_lss rfl rfl rfl (dtrue (by omega)) ?_ | refine L_lss rfl rfl rfl (dfalse (by omega)) ?_ | refine L_lss rfl rfl rfl rfl ?_
                                refine RL_then ?_
                                refine W_seq ?_
                                refine W_if_true rfl ?_
                                refine W_skip' ?_
                                refine Nx_then ?_
                                refine W_seq ?_
                                refine W_block ?_
                                refine W_seq ?_
                                refine W_region ?_
                                refine L_move rfl rfl ?_
                                refine L_assign rfl rfl ?_
                                refine RL_then ?_
                                refine W_seq ?_
                                refine W_seq ?_
                                refine W_pht [0, 1, 2] [3, 4, 5, 6, 7, 8, 9, 10, 11, 12, 13, 14, 15, 16, 17, 18, 19, 20, 21, 22, 23, 24, 25, 26, 27, 28, 29, 30, 31, 32, 33, 34, 35, 36, 37] [] (fun _ _ _ => False) Try.mixed (by kernel_rfl) (fun _ _ _ _ _ h => h) hs ?_
                                refine PL_val rfl (fun w => R_move rfl) ?_
                                refine PL_val rfl (fun w => R_move rfl) ?_
                                refine PL_val rfl (fun w => R_idx1 Try.underlying25 Try.ti3 rfl rfl (by with_reducible first | exact natc_k _ | exact natc_a1 _ | exact natc_0 | exact natc_1 | exact natc_2 | exact natc_s1 _ (by omega) | exact natc_a2 _ | exact natc_add _ _ | exact natc_mul _ _ | exact natc (by omega)) (by omega) (by first | rfl | exact hqa | exact hqr | exact haA2 (by omega) | exact haQ (by omega))) ?_
                                refine PL_end ?_
                                refine HL_val rfl (fun w hs => R_load Try.one3 rfl (by first | exact hcAi _ hAi hs | exact hcAq _ hAq hs | exact hrow hs | exact hrowq hs | exact hcel hs _ (by omega) | exact hcelq hs _ (by omega))) ?_
                                first | refine HL_val rfl (fun w hs => R_lss rfl rfl (dtrue (by omega))) ?_ | refine HL_val rfl (fun w hs => R_lss rfl rfl (dfalse (by omega))) ?_ | refine HL_val rfl (fun w hs => R_lss rfl rfl rfl) ?_
                                refine HL_val rfl (fun w hs => R_move rfl) ?_
                                first | (refine HL_want rfl rfl ?_; refine HL_val rfl (fun w hs => R_move rfl) ?_) | refine HL_skip rfl rfl rfl rfl ?_ | refine HL_skipU rfl rfl rfl ?_
                                first | (refine HL_want rfl rfl ?_; refine HL_val rfl (fun w hs => R_move rfl) ?_) | refine HL_skip rfl rfl rfl rfl ?_ | refine HL_skipU rfl rfl rfl ?_
                                first | (refine HL_want rfl rfl ?_; refine HL_val rfl (fun w hs => R_idx1 Try.underlying25 Try.ti3 rfl rfl (by with_reducible first | exact natc_k _ | exact natc_a1 _ | exact natc_0 | exact natc_1 | exact natc_2 | exact natc_s1 _ (by omega) | exact natc_a2 _ | exact natc_add _ _ | exact natc_mul _ _ | exact natc (by omega)) (by omega) (by first | rfl | exact hqa | exact hqr | exact haA2 (by omega) | exact haQ (by omega))) ?_) | refine HL_skip rfl rfl rfl rfl ?_ | refine HL_skipU rfl rfl rfl ?_
                                first | (refine HL_want rfl rfl ?_; refine HL_val rfl (fun w hs => R_load Try.one3 rfl (by first | exact hcAi _ hAi hs | exact hcAq _ hAq hs | exact hrow hs | exact hrowq hs | exact hcel hs _ (by omega) | exact hcelq hs _ (by omega))) ?_) | refine HL_skip rfl rfl rfl rfl ?_ | refine HL_skipU rfl rfl rfl ?_
                                first | (refine HL_want rfl rfl ?_; (first | refine HL_val rfl (fun w hs => R_lss rfl rfl (dtrue (by omega))) ?_ | refine HL_val rfl (fun w hs => R_lss rfl rfl (dfalse (by omega))) ?_ | refine HL_val rfl (fun w hs => R_lss rfl rfl rfl) ?_)) | refine HL_skip rfl rfl rfl rfl ?_ | refine HL_skipU rfl rfl rfl ?_
                                first | refine HL_val rfl (fun w hs => R_pick_t rfl rfl) ?_ | refine HL_val rfl (fun w hs => R_pick_f rfl rfl) ?_
                                refine HL_val rfl (fun w hs => R_move rfl) ?_
                                first | (refine HL_want rfl rfl ?_; refine HL_val rfl (fun w hs => R_move rfl) ?_) | refine HL_skip rfl rfl rfl rfl ?_ | refine HL_skipU rfl rfl rfl ?_
                                first | (refine HL_want rfl rfl ?_; refine HL_val rfl (fun w hs => R_move rfl) ?_) | refine HL_skip rfl rfl rfl rfl ?_ | refine HL_skipU rfl rfl rfl ?_
                                first | (refine HL_want rfl rfl ?_; refine HL_val rfl (fun w hs => R_idx1 Try.underlying22 Try.ti38 rfl rfl (by with_reducible first | exact natc_k _ | exact natc_a1 _ | exact natc_0 | exact natc_1 | exact natc_2 | exact natc_s1 _ (by omega) | exact natc_a2 _ | exact natc_add _ _ | exact natc_mul _ _ | exact natc (by omega)) (by omega) (by first | rfl | exact hqa | exact hqr | exact haA2 (by omega) | exact haQ (by omega))) ?_) | refine HL_skip rfl rfl rfl rfl ?_ | refine HL_skipU rfl rfl rfl ?_
                                first | (refine HL_want rfl rfl ?_; refine HL_val rfl (fun w hs => R_load Try.one38 rfl (by first | exact hcAi _ hAi hs | exact hcAq _ hAq hs | exact hrow hs | exact hrowq hs | exact hcel hs _ (by omega) | exact hcelq hs _ (by omega))) ?_) | refine HL_skip rfl rfl rfl rfl ?_ | refine HL_skipU rfl rfl rfl ?_
                                first | (refine HL_want rfl rfl ?_; refine HL_val rfl (fun w hs => R_move rfl) ?_) | refine HL_skip rfl rfl rfl rfl ?_ | refine HL_skipU rfl rfl rfl ?_
                                first | (refine HL_want rfl rfl ?_; refine HL_val rfl (fun w hs => R_move rfl) ?_) | refine HL_skip rfl rfl rfl rfl ?_ | refine HL_skipU rfl rfl rfl ?_
                                first | (refine HL_want rfl rfl ?_; refine HL_val rfl (fun w hs => R_idx1 Try.underlying25 Try.ti3 rfl rfl (by with_reducible first | exact natc_k _ | exact natc_a1 _ | exact natc_0 | exact natc_1 | exact natc_2 | exact natc_s1 _ (by omega) | exact natc_a2 _ | exact natc_add _ _ | exact natc_mul _ _ | exact natc (by omega)) (by omega) (by first | rfl | exact hqa | exact hqr | exact haA2 (by omega) | exact haQ (by omega))) ?_) | refine HL_skip rfl rfl rfl rfl ?_ | refine HL_skipU rfl rfl rfl ?_
                                first | (refine HL_want rfl rfl ?_; refine HL_val rfl (fun w hs => R_load Try.one3 rfl (by first | exact hcAi _ hAi hs | exact hcAq _ hAq hs | exact hrow hs | exact hrowq hs | exact hcel hs _ (by omega) | exact hcelq hs _ (by omega))) ?_) | refine HL_skip rfl rfl rfl rfl ?_ | refine HL_skipU rfl rfl rfl ?_
                                first | (refine HL_want rfl rfl ?_; refine HL_val rfl (fun w hs => R_idx1 Try.underlying38 Try.ti2 rfl rfl (by with_reducible first | exact natc_k _ | exact natc_a1 _ | exact natc_0 | exact natc_1 | exact natc_2 | exact natc_s1 _ (by omega) | exact natc_a2 _ | exact natc_add _ _ | exact natc_mul _ _ | exact natc (by omega)) (by omega) (by first | rfl | exact hqa | exact hqr | exact haA2 (by omega) | exact haQ (by omega))) ?_) | refine HL_skip rfl rfl rfl rfl ?_ | refine HL_skipU rfl rfl rfl ?_
                                first | (refine HL_want rfl rfl ?_; refine HL_val rfl (fun w hs => R_load Try.one2 rfl (by first | exact hcAi _ hAi hs | exact hcAq _ hAq hs | exact hrow hs | exact hrowq hs | exact hcel hs _ (by omega) | exact hcelq hs _ (by omega))) ?_) | refine HL_skip rfl rfl rfl rfl ?_ | refine HL_skipU rfl rfl rfl ?_
                                first | (refine HL_want rfl rfl ?_; (first | refine HL_val rfl (fun w hs => R_lss rfl rfl (dtrue (by omega))) ?_ | refine HL_val rfl (fun w hs => R_lss rfl rfl (dfalse (by omega))) ?_ | refine HL_val rfl (fun w hs => R_lss rfl rfl rfl) ?_)) | refine HL_skip rfl rfl rfl rfl ?_ | refine HL_skipU rfl rfl rfl ?_
                                first | refine HL_val rfl (fun w hs => R_pick_t rfl rfl) ?_ | refine HL_val rfl (fun w hs => R_pick_f rfl rfl) ?_
                                refine HL_val rfl (fun w hs => R_move rfl) ?_
                                first | (refine HL_want rfl rfl ?_; refine HL_val rfl (fun w hs => R_move rfl) ?_) | refine HL_skip rfl rfl rfl rfl ?_ | refine HL_skipU rfl rfl rfl ?_
                                first | (refine HL_want rfl rfl ?_; refine HL_val rfl (fun w hs => R_move rfl) ?_) | refine HL_skip rfl rfl rfl rfl ?_ | refine HL_skipU rfl rfl rfl ?_
                                first | (refine HL_want rfl rfl ?_; refine HL_val rfl (fun w hs => R_idx1 Try.underlying22 Try.ti38 rfl rfl (by with_reducible first | exact natc_k _ | exact natc_a1 _ | exact natc_0 | exact natc_1 | exact natc_2 | exact natc_s1 _ (by omega) | exact natc_a2 _ | exact natc_add _ _ | exact natc_mul _ _ | exact natc (by omega)) (by omega) (by first | rfl | exact hqa | exact hqr | exact haA2 (by omega) | exact haQ (by omega))) ?_) | refine HL_skip rfl rfl rfl rfl ?_ | refine HL_skipU rfl rfl rfl ?_
                                first | (refine HL_want rfl rfl ?_; refine HL_val rfl (fun w hs => R_load Try.one38 rfl (by first | exact hcAi _ hAi hs | exact hcAq _ hAq hs | exact hrow hs | exact hrowq hs | exact hcel hs _ (by omega) | exact hcelq hs _ (by omega))) ?_) | refine HL_skip rfl rfl rfl rfl ?_ | refine HL_skipU rfl rfl rfl ?_
                                first | (refine HL_want rfl rfl ?_; refine HL_val rfl (fun w hs => R_move rfl) ?_) | refine HL_skip rfl rfl rfl rfl ?_ | refine HL_skipU rfl rfl rfl ?_
                                first | (refine HL_want rfl rfl ?_; refine HL_val rfl (fun w hs => R_move rfl) ?_) | refine HL_skip rfl rfl rfl rfl ?_ | refine HL_skipU rfl rfl rfl ?_
                                first | (refine HL_want rfl rfl ?_; refine HL_val rfl (fun w hs => R_idx1 Try.underlying25 Try.ti3 rfl rfl (by with_reducible first | exact natc_k _ | exact natc_a1 _ | exact natc_0 | exact natc_1 | exact natc_2 | exact natc_s1 _ (by omega) | exact natc_a2 _ | exact natc_add _ _ | exact natc_mul _ _ | exact natc (by omega)) (by omega) (by first | rfl | exact hqa | exact hqr | exact haA2 (by omega) | exact haQ (by omega))) ?_) | refine HL_skip rfl rfl rfl rfl ?_ | refine HL_skipU rfl rfl rfl ?_
                                first | (refine HL_want rfl rfl ?_; refine HL_val rfl (fun w hs => R_load Try.one3 rfl (by first | exact hcAi _ hAi hs | exact hcAq _ hAq hs | exact hrow hs | exact hrowq hs | exact hcel hs _ (by omega) | exact hcelq hs _ (by omega))) ?_) | refine HL_skip rfl rfl rfl rfl ?_ | refine HL_skipU rfl rfl rfl ?_
                                first | (refine HL_want rfl rfl ?_; refine HL_val rfl (fun w hs => R_idx1 Try.underlying38 Try.ti2 rfl rfl (by with_reducible first | exact natc_k _ | exact natc_a1 _ | exact natc_0 | exact natc_1 | exact natc_2 | exact natc_s1 _ (by omega) | exact natc_a2 _ | exact natc_add _ _ | exact natc_mul _ _ | exact natc (by omega)) (by omega) (by first | rfl | exact hqa | exact hqr | exact haA2 (by omega) | exact haQ (by omega))) ?_) | refine HL_skip rfl rfl rfl rfl ?_ | refine HL_skipU rfl rfl rfl ?_
                                first | (refine HL_want rfl rfl ?_; refine HL_val rfl (fun w hs => R_load Try.one2 rfl (by first | exact hcAi _ hAi hs | exact hcAq _ hAq hs | exact hrow hs | exact hrowq hs | exact hcel hs _ (by omega) | exact hcelq hs _ (by omega))) ?_) | refine HL_skip rfl rfl rfl rfl ?_ | refine HL_skipU rfl rfl rfl ?_
                                first | (refine HL_want rfl rfl ?_; (first | refine HL_val rfl (fun w hs => R_lss rfl rfl (dtrue (by omega))) ?_ | refine HL_val rfl (fun w hs => R_lss rfl rfl (dfalse (by omega))) ?_ | refine HL_val rfl (fun w hs => R_lss rfl rfl rfl) ?_)) | refine HL_skip rfl rfl rfl rfl ?_ | refine HL_skipU rfl rfl rfl ?_
                                first | refine HL_val rfl (fun w hs => R_pick_t rfl rfl) ?_ | refine HL_val rfl (fun w hs => R_pick_f rfl rfl) ?_
                                refine HL_tail ?_
                                intro w hs
                                refine RL_then ?_
                                refine W_if_false rfl ?_
                                refine W_skip' ?_
                                refine Nx_then ?_
                                refine W_seq ?_
                                refine W_pht [0, 1, 2, 4, 5, 6, 10, 11, 12, 14, 15, 16, 21, 22, 23, 25, 26, 27, 31, 32, 33, 35, 36, 37] [3, 7, 8, 9, 13, 17, 18, 19, 20, 24, 28, 29, 30, 34, 38, 39, 40, 41, 42, 43] [] (fun _ _ _ => False) Try.mixed (by kernel_rfl) (fun _ _ _ _ _ h => h) hs ?_
                                refine PL_val rfl (fun w => R_move rfl) ?_
                                refine PL_val rfl (fun w => R_move rfl) ?_
                                refine PL_val rfl (fun w => R_idx1 Try.underlying22 Try.ti38 rfl rfl (by with_reducible first | exact natc_k _ | exact natc_a1 _ | exact natc_0 | exact natc_1 | exact natc_2 | exact natc_s1 _ (by omega) | exact natc_a2 _ | exact natc_add _ _ | exact natc_mul _ _ | exact natc (by omega)) (by omega) (by first | rfl | exact hqa | exact hqr | exact haA2 (by omega) | exact haQ (by omega))) ?_
                                refine PL_val rfl (fun w => R_move rfl) ?_
                                refine PL_val rfl (fun w => R_move rfl) ?_
                                refine PL_val rfl (fun w => R_idx1 Try.underlying25 Try.ti3 rfl rfl (by with_reducible first | exact natc_k _ | exact natc_a1 _ | exact natc_0 | exact natc_1 | exact natc_2 | exact natc_s1 _ (by omega) | exact natc_a2 _ | exact natc_add _ _ | exact natc_mul _ _ | exact natc (by omega)) (by omega) (by first | rfl | exact hqa | exact hqr | exact haA2 (by omega) | exact haQ (by omega))) ?_
                                refine PL_val rfl (fun w => R_move rfl) ?_
                                refine PL_val rfl (fun w => R_move rfl) ?_
                                refine PL_val rfl (fun w => R_idx1 Try.underlying22 Try.ti38 rfl rfl (by with_reducible first | exact natc_k _ | exact natc_a1 _ | exact natc_0 | exact natc_1 | exact natc_2 | exact natc_s1 _ (by omega) | exact natc_a2 _ | exact natc_add _ _ | exact natc_mul _ _ | exact natc (by omega)) (by omega) (by first | rfl | exact hqa | exact hqr | exact haA2 (by omega) | exact haQ (by omega))) ?_
                                refine PL_val rfl (fun w => R_move rfl) ?_
                                refine PL_val rfl (fun w => R_move rfl) ?_
                                refine PL_val rfl (fun w => R_idx1 Try.underlying25 Try.ti3 rfl rfl (by with_reducible first | exact natc_k _ | exact natc_a1 _ | exact natc_0 | exact natc_1 | exact natc_2 | exact natc_s1 _ (by omega) | exact natc_a2 _ | exact natc_add _ _ | exact natc_mul _ _ | exact natc (by omega)) (by omega) (by first | rfl | exact hqa | exact hqr | exact haA2 (by omega) | exact haQ (by omega))) ?_
                                refine PL_val rfl (fun w => R_move rfl) ?_
                                refine PL_val rfl (fun w => R_move rfl) ?_
                                refine PL_val rfl (fun w => R_idx1 Try.underlying22 Try.ti38 rfl rfl (by with_reducible first | exact natc_k _ | exact natc_a1 _ | exact natc_0 | exact natc_1 | exact natc_2 | exact natc_s1 _ (by omega) | exact natc_a2 _ | exact natc_add _ _ | exact natc_mul _ _ | exact natc (by omega)) (by omega) (by first | rfl | exact hqa | exact hqr | exact haA2 (by omega) | exact haQ (by omega))) ?_
                                refine PL_val rfl (fun w => R_move rfl) ?_
                                refine PL_val rfl (fun w => R_move rfl) ?_
                                refine PL_val rfl (fun w => R_idx1 Try.underlying25 Try.ti3 rfl rfl (by with_reducible first | exact natc_k _ | exact natc_a1 _ | exact natc_0 | exact natc_1 | exact natc_2 | exact natc_s1 _ (by omega) | exact natc_a2 _ | exact natc_add _ _ | exact natc_mul _ _ | exact natc (by omega)) (by omega) (by first | rfl | exact hqa | exact hqr | exact haA2 (by omega) | exact haQ (by omega))) ?_
                                refine PL_val rfl (fun w => R_move rfl) ?_
                                refine PL_val rfl (fun w => R_move rfl) ?_
                                refine PL_val rfl (fun w => R_idx1 Try.underlying22 Try.ti38 rfl rfl (by with_reducible first | exact natc_k _ | exact natc_a1 _ | exact natc_0 | exact natc_1 | exact natc_2 | exact natc_s1 _ (by omega) | exact natc_a2 _ | exact natc_add _ _ | exact natc_mul _ _ | exact natc (by omega)) (by omega) (by first | rfl | exact hqa | exact hqr | exact haA2 (by omega) | exact haQ (by omega))) ?_
                                refine PL_val rfl (fun w => R_move rfl) ?_
                                refine PL_val rfl (fun w => R_move rfl) ?_
                                refine PL_val rfl (fun w => R_idx1 Try.underlying25 Try.ti3 rfl rfl (by with_reducible first | exact natc_k _ | exact natc_a1 _ | exact natc_0 | exact natc_1 | exact natc_2 | exact natc_s1 _ (by omega) | exact natc_a2 _ | exact natc_add _ _ | exact natc_mul _ _ | exact natc (by omega)) (by omega) (by first | rfl | exact hqa | exact hqr | exact haA2 (by omega) | exact haQ (by omega))) ?_
                                refine PL_end ?_
                                refine HL_val rfl (fun w hs => R_load Try.one38 rfl (by first | exact hcAi _ hAi hs | exact hcAq _ hAq hs | exact hrow hs | exact hrowq hs | exact hcel hs _ (by omega) | exact hcelq hs _ (by omega))) ?_
                                refine HL_val rfl (fun w hs => R_load Try.one3 rfl (by first | exact hcAi _ hAi hs | exact hcAq _ hAq hs | exact hrow hs | exact hrowq hs | exact hcel hs _ (by omega) | exact hcelq hs _ (by omega))) ?_
                                refine HL_val rfl (fun w hs => R_idx1 Try.underlying38 Try.ti2 rfl rfl (by with_reducible first | exact natc_k _ | exact natc_a1 _ | exact natc_0 | exact natc_1 | exact natc_2 | exact natc_s1 _ (by omega) | exact natc_a2 _ | exact natc_add _ _ | exact natc_mul _ _ | exact natc (by omega)) (by omega) (by first | rfl | exact hqa | exact hqr | exact haA2 (by omega) | exact haQ (by omega))) ?_
                                refine HL_val rfl (fun w hs => R_load Try.one2 rfl (by first | exact hcAi _ hAi hs | exact hcAq _ hAq hs | exact hrow hs | exact hrowq hs | exact hcel hs _ (by omega) | exact hcelq hs _ (by omega))) ?_
                                refine HL_val rfl (fun w hs => R_load Try.one38 rfl (by first | exact hcAi _ hAi hs | exact hcAq _ hAq hs | exact hrow hs | exact hrowq hs | exact hcel hs _ (by omega) | exact hcelq hs _ (by omega))) ?_
                                refine HL_val rfl (fun w hs => R_load Try.one3 rfl (by first | exact hcAi _ hAi hs | exact hcAq _ hAq hs | exact hrow hs | exact hrowq hs | exact hcel hs _ (by omega) | exact hcelq hs _ (by omega))) ?_
                                refine HL_val rfl (fun w hs => R_idx1 Try.underlying38 Try.ti2 rfl rfl (by with_reducible first | exact natc_k _ | exact natc_a1 _ | exact natc_0 | exact natc_1 | exact natc_2 | exact natc_s1 _ (by omega) | exact natc_a2 _ | exact natc_add _ _ | exact natc_mul _ _ | exact natc (by omega)) (by omega) (by first | rfl | exact hqa | exact hqr | exact haA2 (by omega) | exact haQ (by omega))) ?_
                                refine HL_val rfl (fun w hs => R_load Try.one2 rfl (by first | exact hcAi _ hAi hs | exact hcAq _ hAq hs | exact hrow hs | exact hrowq hs | exact hcel hs _ (by omega) | exact hcelq hs _ (by omega))) ?_
                                first | refine HL_val rfl (fun w hs => R_add rfl rfl (wrp_i64 (by omega))) ?_ | refine HL_val rfl (fun w hs => R_add rfl rfl rfl) ?_
                                refine HL_val rfl (fun w hs => R_load Try.one38 rfl (by first | exact hcAi _ hAi hs | exact hcAq _ hAq hs | exact hrow hs | exact hrowq hs | exact hcel hs _ (by omega) | exact hcelq hs _ (by omega))) ?_
                                refine HL_val rfl (fun w hs => R_load Try.one3 rfl (by first | exact hcAi _ hAi hs | exact hcAq _ hAq hs | exact hrow hs | exact hrowq hs | exact hcel hs _ (by omega) | exact hcelq hs _ (by omega))) ?_
                                refine HL_val rfl (fun w hs => R_idx1 Try.underlying38 Try.ti2 rfl rfl (by with_reducible first | exact natc_k _ | exact natc_a1 _ | exact natc_0 | exact natc_1 | exact natc_2 | exact natc_s1 _ (by omega) | exact natc_a2 _ | exact natc_add _ _ | exact natc_mul _ _ | exact natc (by omega)) (by omega) (by first | rfl | exact hqa | exact hqr | exact haA2 (by omega) | exact haQ (by omega))) ?_
                                refine HL_val rfl (fun w hs => R_load Try.one2 rfl (by first | exact hcAi _ hAi hs | exact hcAq _ hAq hs | exact hrow hs | exact hrowq hs | exact hcel hs _ (by omega) | exact hcelq hs _ (by omega))) ?_
                                refine HL_val rfl (fun w hs => R_load Try.one38 rfl (by first | exact hcAi _ hAi hs | exact hcAq _ hAq hs | exact hrow hs | exact hrowq hs | exact hcel hs _ (by omega) | exact hcelq hs _ (by omega))) ?_
                                refine HL_val rfl (fun w hs => R_load Try.one3 rfl (by first | exact hcAi _ hAi hs | exact hcAq _ hAq hs | exact hrow hs | exact hrowq hs | exact hcel hs _ (by omega) | exact hcelq hs _ (by omega))) ?_
                                refine HL_val rfl (fun w hs => R_idx1 Try.underlying38 Try.ti2 rfl rfl (by with_reducible first | exact natc_k _ | exact natc_a1 _ | exact natc_0 | exact natc_1 | exact natc_2 | exact natc_s1 _ (by omega) | exact natc_a2 _ | exact natc_add _ _ | exact natc_mul _ _ | exact natc (by omega)) (by omega) (by first | rfl | exact hqa | exact hqr | exact haA2 (by omega) | exact haQ (by omega))) ?_
                                refine HL_val rfl (fun w hs => R_load Try.one2 rfl (by first | exact hcAi _ hAi hs | exact hcAq _ hAq hs | exact hrow hs | exact hrowq hs | exact hcel hs _ (by omega) | exact hcelq hs _ (by omega))) ?_
                                first | refine HL_val rfl (fun w hs => R_add rfl rfl (wrp_i64 (by omega))) ?_ | refine HL_val rfl (fun w hs => R_add rfl rfl rfl) ?_
                                refine HL_val rfl (fun w hs => R_assign rfl) ?_
                                refine HL_val rfl (fun w hs => R_assign rfl) ?_
                                refine HL_tail ?_
                                intro w hs
                                refine RL_then ?_
                                refine W_seq ?_
                                refine W_pht [0, 1, 2, 3, 4, 5, 6, 7, 8, 9, 10, 12, 13, 14] [11, 15, 16, 17, 18] [] (fun _ _ _ => False) Try.mixed (by kernel_rfl) (fun _ _ _ _ _ h => h) hs ?_
                                refine PL_val rfl (fun w => R_move rfl) ?_
                                refine PL_val rfl (fun w => R_move rfl) ?_
                                first | refine PL_val rfl (fun w => R_lss rfl rfl (dtrue (by omega))) ?_ | refine PL_val rfl (fun w => R_lss rfl rfl (dfalse (by omega))) ?_ | refine PL_val rfl (fun w => R_lss rfl rfl rfl) ?_
                                refine PL_val rfl (fun w => R_move rfl) ?_
                                first | refine PL_want rfl rfl rfl (fun w => R_move rfl) ?_ | refine PL_skip rfl rfl rfl rfl ?_ | refine PL_skipU rfl rfl rfl ?_
                                first | refine PL_want rfl rfl rfl (fun w => R_move rfl) ?_ | refine PL_skip rfl rfl rfl rfl ?_ | refine PL_skipU rfl rfl rfl ?_
                                first | refine PL_want rfl rfl rfl (fun w => R_eql rfl rfl (dtrue (by omega))) ?_ | refine PL_want rfl rfl rfl (fun w => R_eql rfl rfl (dfalse (by omega))) ?_ | refine PL_want rfl rfl rfl (fun w => R_eql rfl rfl rfl) ?_ | refine PL_skip rfl rfl rfl rfl ?_ | refine PL_skipU rfl rfl rfl ?_
                                first | refine PL_want rfl rfl rfl (fun w => R_move rfl) ?_ | refine PL_skip rfl rfl rfl rfl ?_ | refine PL_skipU rfl rfl rfl ?_
                                first | refine PL_want rfl rfl rfl (fun w => R_move rfl) ?_ | refine PL_skip rfl rfl rfl rfl ?_ | refine PL_skipU rfl rfl rfl ?_
                                first | refine PL_want rfl rfl rfl (fun w => R_move rfl) ?_ | refine PL_skip rfl rfl rfl rfl ?_ | refine PL_skipU rfl rfl rfl ?_
                                first | refine PL_want rfl rfl rfl (fun w => R_idx1 Try.underlying25 Try.ti3 rfl rfl (by with_reducible first | exact natc_k _ | exact natc_a1 _ | exact natc_0 | exact natc_1 | exact natc_2 | exact natc_s1 _ (by omega) | exact natc_a2 _ | exact natc_add _ _ | exact natc_mul _ _ | exact natc (by omega)) (by omega) (by first | rfl | exact hqa | exact hqr | exact haA2 (by omega) | exact haQ (by omega))) ?_ | refine PL_skip rfl rfl rfl rfl ?_ | refine PL_skipU rfl rfl rfl ?_
                                first | refine PL_want rfl rfl rfl (fun w => R_move rfl) ?_ | refine PL_skip rfl rfl rfl rfl ?_ | refine PL_skipU rfl rfl rfl ?_
                                first | refine PL_want rfl rfl rfl (fun w => R_move rfl) ?_ | refine PL_skip rfl rfl rfl rfl ?_ | refine PL_skipU rfl rfl rfl ?_
                                first | refine PL_want rfl rfl rfl (fun w => R_idx1 Try.underlying25 Try.ti3 rfl rfl (by with_reducible first | exact natc_k _ | exact natc_a1 _ | exact natc_0 | exact natc_1 | exact natc_2 | exact natc_s1 _ (by omega) | exact natc_a2 _ | exact natc_add _ _ | exact natc_mul _ _ | exact natc (by omega)) (by omega) (by first | rfl | exact hqa | exact hqr | exact haA2 (by omega) | exact haQ (by omega))) ?_ | refine PL_skip rfl rfl rfl rfl ?_ | refine PL_skipU rfl rfl rfl ?_
                                refine PL_end ?_
                                first | (refine HL_want rfl rfl ?_; refine HL_val rfl (fun w hs => R_load Try.one3 rfl (by first | exact hcAi _ hAi hs | exact hcAq _ hAq hs | exact hrow hs | exact hrowq hs | exact hcel hs _ (by omega) | exact hcelq hs _ (by omega))) ?_) | refine HL_skip rfl rfl rfl rfl ?_ | refine HL_skipU rfl rfl rfl ?_
                                first | (refine HL_want rfl rfl ?_; refine HL_val rfl (fun w hs => R_load Try.one3 rfl (by first | exact hcAi _ hAi hs | exact hcAq _ hAq hs | exact hrow hs | exact hrowq hs | exact hcel hs _ (by omega) | exact hcelq hs _ (by omega))) ?_) | refine HL_skip rfl rfl rfl rfl ?_ | refine HL_skipU rfl rfl rfl ?_
                                first | (refine HL_want rfl rfl ?_; (first | refine HL_val rfl (fun w hs => R_lss rfl rfl (dtrue (by omega))) ?_ | refine HL_val rfl (fun w hs => R_lss rfl rfl (dfalse (by omega))) ?_ | refine HL_val rfl (fun w hs => R_lss rfl rfl rfl) ?_)) | refine HL_skip rfl rfl rfl rfl ?_ | refine HL_skipU rfl rfl rfl ?_
                                first | (refine HL_want rfl rfl ?_; (first | refine HL_val rfl (fun w hs => R_pick_t rfl rfl) ?_ | refine HL_val rfl (fun w hs => R_pick_f rfl rfl) ?_)) | refine HL_skip rfl rfl rfl rfl ?_ | refine HL_skipU rfl rfl rfl ?_
                                first | refine HL_val rfl (fun w hs => R_pick_t rfl rfl) ?_ | refine HL_val rfl (fun w hs => R_pick_f rfl rfl) ?_
                                refine HL_tail ?_
                                intro w hs
                                refine RL_then ?_
                                refine W_if_false rfl ?_
                                refine W_skip' ?_
                                refine Nx_block ?_
                                refine Nx_then ?_
                                refine W_region ?_
                                first | refine L_add rfl rfl rfl (wrp_i64 (by omega)) ?_ | refine L_add rfl rfl rfl rfl ?_
                                refine L_move rfl rfl ?_
                                refine RL_nil' ?_
                                refine Nx_loopP (q + 1, _) (is := [0, 6, 12, 16, 131, 132, 200, 201]) (I' := (fun (q : Nat) (w : World) => (q ≤ i) ∧ (HS w5 w [(gu, Row 4 (bls us))])) (q + 1) (_)) rfl rfl rfl ?_ ?_
                                · exact ⟨by omega, hs⟩
                                · omega
                    · refine W_seq ?_
                      refine W_region ?_
                      first | refine L_lss rfl rfl rfl (dtrue (by omega)) ?_ | refine L_lss rfl rfl rfl (dfalse (by omega)) ?_ | refine L_lss rfl rfl rfl rfl ?_
                      refine RL_then ?_
                      refine W_seq ?_
                      refine W_if_false rfl ?_
                      refine W_exit' ?_
                      refine Ex_then_exit ?_
                      refine Ex_loop_exit ?_
                      refine Ex_block_hit ?_
                      refine Nx_block ?_
                      refine Nx_then ?_
                      refine W_region ?_
                      first | refine L_add rfl rfl rfl (wrp_i64 (by omega)) ?_ | refine L_add rfl rfl rfl rfl ?_
                      refine L_move rfl rfl ?_
                      refine RL_nil' ?_
                      refine Nx_loopP (i + 1, _) (is := [0, 6, 12, 131, 132]) (I' := (fun (i : Nat) (w : World) => (i ≤ k) ∧ (HS w5 w [(gu, Row 4 (bls us))])) (i + 1) (_)) rfl rfl rfl ?_ ?_
                      · exact ⟨by omega, hs⟩
                      · omega
              · refine W_seq ?_
                refine W_region ?_
                first | refine L_lss rfl rfl rfl (dtrue (by omega)) ?_ | refine L_lss rfl rfl rfl (dfalse (by omega)) ?_ | refine L_lss rfl rfl rfl rfl ?_
                refine RL_then ?_
                refine W_seq ?_
                refine W_if_false rfl ?_
                refine W_exit' ?_
                refine Ex_then_exit ?_
                refine Ex_loop_exit ?_
                refine Ex_block_hit ?_
                refine Nx_then ?_
                refine W_seq ?_
                refine W_region ?_
                refine L_assign rfl rfl ?_
                refine RL_then ?_
                refine W_ret' ?_
                refine Ex_done1 rfl rfl ?_
                exact ⟨_, rfl, rfl, h05.nil (hs.forget hO)⟩
end Go.Proofs.Ytcfdmenmlemahaa
