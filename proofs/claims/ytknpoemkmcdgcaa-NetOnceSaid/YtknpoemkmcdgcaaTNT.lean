/-
  A part of the proof: what functions that the statement reaches do, or a plain law on what they do. Each theorem holds under its own premises alone.
-/
import Derived.Test.YtknpoemkmcdgcaaTNS
namespace Go.Proofs.Ytknpoemkmcdgcaa
open Go Go.Lk
def cF (T : List Th) (r : Int) : Nat := cntS r (T.map Th.s)
theorem cntS_prt (r : Int) (S : List ST) : cntS r (S.map prt) = cntS r S := by
  unfold cntS; rw [List.map_map]; rfl
theorem cntS_le {r : Int} {b : Nat} : ∀ {S : List ST}, (∀ t ∈ S, t.seen.length ≤ b) → cntS r S ≤ S.length * b
  | [], _ => by simp [cntS]
  | t :: S, h => by
    rw [cntS_cons, List.length_cons, Nat.add_mul, Nat.one_mul]
    have h1 := cntS_le (r := r) (fun u hu => h u (List.mem_cons_of_mem t hu))
    have h2 := h t (List.mem_cons_self ..)
    have h3 := List.count_le_length (a := r) (l := t.seen)
    omega
set_option maxHeartbeats 1000000 in
theorem once_law (far : Nat) (aS aT : Option Addr) (nS cS nT cT : Nat) (ss : List Si) (tt : List TT) (w0 : World) (hfl : far < 18446744073709551616)
    (hS : SlC w0 aS (scs ss)) (hSl : ss.length = nS) (hSm : nS ≤ 1000000000000000) (hSo : ∀ i, i < nS → (ss.getD i si0).ok) (hT : ToldAt w0 aT tt) (hTl : tt.length = nT) (hTm : nT ≤ 1000000000000000) :
    Ret Try.prog 7 [.float .f64 far, .slice aS nS cS, .slice aT nT cT] w0 fun v w' => v = .bool true ∧ HS w0 w' [] := by
  refine Ret.start fun w hs => ?_
  refine calls_of_W Try.func7 rfl rfl rfl ?_
  refine W_seq ?_
  refine W_region ?_
  refine L_assign rfl rfl ?_
  refine RL_then ?_
  refine W_seq ?_
  refine W_region ?_
  refine L_move rfl rfl ?_
  refine L_move rfl rfl ?_
  refine L_move rfl rfl ?_
  refine L_call rfl Try.fun23 rfl (made_ok far aS aT nS cS nT cT ss tt w hfl (hS.old hs Own.nil) hSl hSm hSo (hT.old hs Own.nil) hTl hTm) ?_
  rintro _ w1 (⟨rfl, hs'⟩ | ⟨B, v1, M, ms, vm, Mm, hf, rfl, hs', hN, hbm⟩)
  · replace hs := hs.nil hs'
    clear hs'
    refine L_move rfl rfl ?_
    refine L_extract rfl rfl rfl ?_
    refine L_extract rfl rfl rfl ?_
    refine L_assign rfl rfl ?_
    refine L_assign rfl rfl ?_
    refine RL_then ?_
    refine W_seq ?_
    refine W_seq ?_
    refine W_region ?_
    refine L_move rfl rfl ?_
    refine L_ptrNil rfl Try.underlying26 rfl rfl ?_
    refine RL_then ?_
    refine W_if_true rfl ?_
    refine W_seq ?_
    refine W_region ?_
    refine L_call rfl Try.fun11 rfl (wakesL hs) ?_
    rintro _ w7 ⟨rfl, hs5⟩
    refine L_assign rfl rfl ?_
    refine RL_then ?_
    refine W_ret' ?_
    refine Ex_then_ret ?_
    refine Ex_done1 rfl rfl ?_
    exact ⟨_, rfl, rfl, hs5⟩
  · replace hN : NetOk w0 B v1 M ms := ⟨Nat.le_trans hs.size hN.own, hN.bl.mono hs.size, fun m hm => ⟨(hN.each m hm).bl.mono hs.size, (hN.each m hm).len, (hN.each m hm).turn⟩, hN.len⟩
    replace hbm := hbm.mono hs.size
    have hl16 := hN.len
    replace hs : HS w0 w1 (nbs B far v1 M ms ++ Mm) := hs.trans hs' (fun p hp => .inl hp) hs'.nodup (fun b hb hn => ⟨by simp, hn⟩)
    clear hs'
    obtain ⟨am, cm, rfl, hcm⟩ := hbm.slice
    refine L_move rfl rfl ?_
    refine L_extract rfl rfl rfl ?_
    refine L_extract rfl rfl rfl ?_
    refine L_assign rfl rfl ?_
    refine L_assign rfl rfl ?_
    refine RL_then ?_
    refine W_seq ?_
    refine W_seq ?_
    refine W_region ?_
    refine L_move rfl rfl ?_
    refine L_ptrNil rfl Try.underlying26 rfl rfl ?_
    refine RL_then ?_
    refine W_if_false rfl ?_
    refine W_skip' ?_
    refine Nx_then ?_
    refine W_seq ?_
    refine W_region ?_
    refine L_move rfl rfl ?_
    refine L_call rfl Try.fun22 rfl (fusedG w0 w1 B far v1 M Mm ms hs hN hf) ?_
    rintro vo w2 ⟨S, fs, Mo, hF, hfm, hbo, hfb, hs2, hfl4, hfs⟩
    obtain ⟨hone, hcnt⟩ := once hf (fun i hi => by
      rw [rds_len] at hi
      rw [rds_get hi]; exact (hN.each _ (getD_mem hi)).len) hF
    have hseen : ∀ f ∈ fs, Seen ms.length f.s := fun f hfm1 => by
      have h1 : f.s ∈ S.map prt := by rw [← hfm]; exact List.mem_map_of_mem hfm1
      obtain ⟨u, hu, he⟩ := List.mem_map.1 h1
      have h2 := hone u hu
      rw [← he]
      exact ⟨h2.some, h2.rise, h2.rng⟩
    have hcF : ∀ r, r < ms.length → cF fs r = ((rds ms).getD r rd0).ts.length := fun r hr => by
      rw [cF, hfm, cntS_prt]; exact hcnt r hr
    obtain ⟨ao, co, rfl, hco⟩ := hbo.slice
    obtain ⟨L, hL⟩ : ∃ L, L = (nbs B far v1 M ms ++ Mm) ++ (Mo ++ fms fs) := ⟨_, rfl⟩
    have hoL : Own w0 L := by
      rw [hL]
      refine (hN.owns.app hbm.own).app (hbo.own.app fun p hp => ?_)
      obtain ⟨t, ht, hp⟩ := List.mem_flatMap.1 hp
      exact (hfb t ht).own p hp
    have hMo : ∀ p ∈ Mo, p ∈ L := fun p hp => by rw [hL]; simp [hp]
    have hMf : ∀ f ∈ fs, ∀ p ∈ f.M, p ∈ L := fun f hf p hp => by
      rw [hL]
      exact List.mem_append_right _ (List.mem_append_right _ (List.mem_flatMap.2 ⟨f, hf, hp⟩))
    have hMm : ∀ p ∈ Mm, p ∈ L := fun p hp => by rw [hL]; simp [hp]
    clear hs; have hs : HS w0 w2 L := by rw [hL]; exact hs2
    clear hs2
    refine L_assign rfl rfl ?_
    refine RL_then ?_
    refine W_seq ?_
    refine W_region ?_
    refine L_move rfl rfl ?_
    refine L_len rfl Try.underlying60 rfl ?_
    refine L_make1 rfl hs Try.underlying60 Try.ti3 rfl rfl (natc_k _) (natc_k _) (Nat.le_refl _) (by omega) (by omega) rfl ?_; intro b29 w hb29 _ hs; replace hs := HS.push hs
    refine L_assign rfl rfl ?_
    refine RL_then ?_
    refine W_seq ?_
    refine W_seq ?_
    refine W_region ?_
    refine L_assign rfl rfl ?_
    refine RL_then ?_
    refine W_block ?_
    refine W_loop3 (fun (i : Nat) (C : List Int) (w : World) => [(8, .slice am ms.length cm), (9, .slice ao fs.length co), (10, .slice (some ⟨b29, 0, none⟩) ms.length ms.length), (11, .int .i64 i)]) (fun (i : Nat) (C : List Int) (w : World) => w) (fun (i : Nat) (C : List Int) (w : World) => (i ≤ fs.length) ∧ (C.length = ms.length) ∧ (∀ r : Nat, r < ms.length → C.getD r 0 = (cF (fs.take i) r : Int)) ∧ (HS w0 w ((b29, Row 3 (il C)) :: L))) (fun (i : Nat) (C : List Int) (w : World) => fs.length - i) (0) (List.replicate ms.length 0) (_) (is := [8, 9, 10, 11]) rfl rfl ?_ ?_
    · refine ⟨Nat.zero_le _, by simp, fun r hr => ?_, ?_⟩
      · rw [grep hr]; rfl
      · rw [← il_rep]; exact hs
    · clear hs
      intro i C w hI
      show W _ _ _ _ [(8, .slice am ms.length cm), (9, .slice ao fs.length co), (10, .slice (some ⟨b29, 0, none⟩) ms.length ms.length), (11, .int .i64 i)] w
      obtain ⟨hi, hCl, hC, hs⟩ := hI
      have hofs : ∀ {w C}, HS w0 w ((b29, Row 3 (il C)) :: L) → SlC w ao (fcs fs) := fun hs => Bl.slcM hbo hs (fun p hp => List.mem_cons_of_mem _ (hMo p hp))
      by_cases hin : i < fs.length
      · obtain ⟨f, hfe⟩ : ∃ f, f = fs.getD i th0 := ⟨_, rfl⟩
        have hfmem : f ∈ fs := by rw [hfe]; exact getD_mem hin
        have hsn := hseen f hfmem
        have hfl5 := hfs f hfmem
        have hfb1 := hfb f hfmem
        obtain ⟨sa, sc, hfv, hsc⟩ := hfb1.slice
        have hfi : fs[i]? = some f := by rw [hfe, List.getD_eq_getElem?_getD, List.getElem?_eq_getElem hin]; rfl
        have hc4 : (fs.getD i th0).cells[4]? = some (.slice sa f.seen.length sc) := by rw [← hfe]; show some f.v = _; rw [hfv]
        have hf0 : f.seen.length ≠ 0 := fun h => hsn.some (List.eq_nil_of_length_eq_zero h)
        have hfsl : ∀ {w C}, HS w0 w ((b29, Row 3 (il C)) :: L) → SlC w sa (il f.seen) := fun hs => by
          rw [hfv] at hfb1
          exact Bl.slcM hfb1 hs (fun p hp => List.mem_cons_of_mem _ (hMf f hfmem p hp))
        have hao := (hofs hs).ao (by rw [fcs_len]; omega)
        have hsao := (hfsl hs).ao (by rw [il_length]; omega)
        refine W_seq ?_
        refine W_seq ?_
        refine W_region ?_
        refine L_move rfl rfl ?_
        refine L_move rfl rfl ?_
        refine L_len rfl Try.underlying55 rfl ?_
        first | refine L_lss rfl rfl rfl (dtrue (by omega)) ?_ | refine L_lss rfl rfl rfl (dfalse (by omega)) ?_ | refine L_lss rfl rfl rfl rfl ?_
        refine RL_then ?_
        refine W_if_true rfl ?_
        refine W_skip' ?_
        refine Nx_then ?_
        refine W_seq ?_
        refine W_block ?_
        refine W_seq ?_
        refine W_seq ?_
        refine W_region ?_
        refine L_move rfl rfl ?_
        refine L_move rfl rfl ?_
        refine L_idxN rfl Try.underlying55 Try.ti64 rfl rfl (by with_reducible first | exact natc_k _ | exact natc_a1 _ | exact natc_0 | exact natc_1 | exact natc_2 | exact natc_s1 _ (by omega) | exact natc_a2 _ | exact natc_add _ _ | exact natc_mul _ _ | exact natc (by omega)) (by omega) hao ?_
        refine L_fieldAddr rfl (off := 4) Try.underlying64 rfl rfl Try.ti60 rfl ?_
        refine L_load rfl Try.one60 rfl (by (rw [add_add]; exact (hofs hs).get (fcs_get (q := 4) hin hc4))) ?_
        refine L_len rfl Try.underlying60 rfl ?_
        first | refine L_eql rfl rfl rfl (dtrue (by omega)) ?_ | refine L_eql rfl rfl rfl (dfalse (by omega)) ?_ | refine L_eql rfl rfl rfl rfl ?_
        refine RL_then ?_
        refine W_if_false rfl ?_
        refine W_skip' ?_
        refine Nx_then ?_
        refine W_seq ?_
        refine W_region ?_
        refine L_assign rfl rfl ?_
        refine RL_then ?_
        refine W_block ?_
        refine W_loop3 (fun (k : Nat) (D : List Int) (w : World) => [(8, .slice am ms.length cm), (9, .slice ao fs.length co), (10, .slice (some ⟨b29, 0, none⟩) ms.length ms.length), (11, .int .i64 i), (12, .int .i64 k)]) (fun (k : Nat) (D : List Int) (w : World) => w) (fun (k : Nat) (D : List Int) (w : World) => (k ≤ f.seen.length) ∧ (D.length = ms.length) ∧ (∀ r : Nat, r < ms.length → D.getD r 0 = ((cF (fs.take i) r + (f.seen.take k).count (r : Int) : Nat) : Int)) ∧ (HS w0 w ((b29, Row 3 (il D)) :: L))) (fun (k : Nat) (D : List Int) (w : World) => f.seen.length - k) (0) (C) (_) (is := [8, 9, 10, 11, 12]) rfl rfl ?_ ?_
        · exact ⟨Nat.zero_le _, hCl, fun r hr => hC r hr, hs⟩
        · clear hs
          intro k D w hI
          show W _ _ _ _ [(8, .slice am ms.length cm), (9, .slice ao fs.length co), (10, .slice (some ⟨b29, 0, none⟩) ms.length ms.length), (11, .int .i64 i), (12, .int .i64 k)] w
          obtain ⟨hk, hDl, hD, hs⟩ := hI
          by_cases hkf : k < f.seen.length
          · obtain ⟨x, hx⟩ : ∃ x, x = f.seen.getD k 0 := ⟨_, rfl⟩
            have hxk : f.seen[k]? = some x := by rw [hx, List.getD_eq_getElem?_getD, List.getElem?_eq_getElem hkf]; rfl
            have hxr := hsn.rng x (List.mem_of_getElem? hxk)
            have hlx : (il f.seen)[k]? = some (.int .i64 x) := by rw [hx]; exact il_get hkf
            obtain ⟨r, rfl⟩ : ∃ r : Nat, x = (r : Int) := ⟨x.toNat, by omega⟩
            have hrn : r < ms.length := by omega
            have hDr := hD r hrn
            have hdr : (il D)[r]? = some (.int .i64 (D.getD r 0)) := il_get (by omega)
            have hb1 : cF (fs.take i) r ≤ 4096 * 4097 := by
              have h1 := cntS_le (r := (r : Int)) (b := 4097) (S := (fs.take i).map Th.s) (fun t ht => by
                obtain ⟨u, hu, rfl⟩ := List.mem_map.1 ht
                exact hfs u (List.mem_of_mem_take hu))
              rw [List.length_map, List.length_take] at h1
              exact Nat.le_trans h1 (Nat.mul_le_mul_right _ (by omega))
            have hb2 := List.count_le_length (a := (r : Int)) (l := f.seen.take k)
            rw [List.length_take] at hb2
            have hdone : ∀ r' : Nat, r' < ms.length → (D.set r (D.getD r 0 + 1)).getD r' 0 = ((cF (fs.take i) r' + (f.seen.take (k + 1)).count (r' : Int) : Nat) : Int) := fun r' hr' => by
              rw [take_snoc hxk, count_snoc]
              by_cases hrr : r' = r
              · subst hrr
                rw [gset (by omega), if_pos rfl, hDr, if_pos rfl]; omega
              · rw [gset (by omega), if_neg hrr, hD r' hr', if_neg (by omega)]; omega
            by_cases hk0 : 0 < k
            · obtain ⟨y, hy⟩ : ∃ y, y = f.seen.getD (k - 1) 0 := ⟨_, rfl⟩
              have hly : (il f.seen)[k - 1]? = some (.int .i64 y) := by rw [hy]; exact il_get (by omega)
              have hyr : y < (r : Int) := by
                have h1 := List.pairwise_iff_getElem.1 hsn.rise (k - 1) k (show k - 1 < f.seen.length by omega) (show k < f.seen.length from hkf) (by omega)
                have e1 : f.s.seen[k - 1]'(show k - 1 < f.seen.length by omega) = y := by rw [hy, List.getD_eq_getElem?_getD, List.getElem?_eq_getElem (by omega)]; rfl
                have e2 : f.s.seen[k]'(show k < f.seen.length from hkf) = (r : Int) := by rw [hx, List.getD_eq_getElem?_getD, List.getElem?_eq_getElem hkf]; rfl
                rw [e1, e2] at h1; exact h1
              refine W_seq ?_
              refine W_seq ?_
              refine W_region ?_
              refine L_move rfl rfl ?_
              refine L_move rfl rfl ?_
              refine L_move rfl rfl ?_
              refine L_idxN rfl Try.underlying55 Try.ti64 rfl rfl (by with_reducible first | exact natc_k _ | exact natc_a1 _ | exact natc_0 | exact natc_1 | exact natc_2 | exact natc_s1 _ (by omega) | exact natc_a2 _ | exact natc_add _ _ | exact natc_mul _ _ | exact natc (by omega)) (by omega) hao ?_
              refine L_fieldAddr rfl (off := 4) Try.underlying64 rfl rfl Try.ti60 rfl ?_
              refine L_load rfl Try.one60 rfl (by (rw [add_add]; exact (hofs hs).get (fcs_get (q := 4) hin hc4))) ?_
              refine L_len rfl Try.underlying60 rfl ?_
              first | refine L_lss rfl rfl rfl (dtrue (by omega)) ?_ | refine L_lss rfl rfl rfl (dfalse (by omega)) ?_ | refine L_lss rfl rfl rfl rfl ?_
              refine RL_then ?_
              refine W_if_true rfl ?_
              refine W_skip' ?_
              refine Nx_then ?_
              refine W_seq ?_
              refine W_block ?_
              refine W_seq ?_
              refine W_region ?_
              refine L_move rfl rfl ?_
              refine L_move rfl rfl ?_
              refine L_idxN rfl Try.underlying55 Try.ti64 rfl rfl (by with_reducible first | exact natc_k _ | exact natc_a1 _ | exact natc_0 | exact natc_1 | exact natc_2 | exact natc_s1 _ (by omega) | exact natc_a2 _ | exact natc_add _ _ | exact natc_mul _ _ | exact natc (by omega)) (by omega) hao ?_
              refine L_fieldAddr rfl (off := 4) Try.underlying64 rfl rfl Try.ti60 rfl ?_
              refine L_load rfl Try.one60 rfl (by (rw [add_add]; exact (hofs hs).get (fcs_get (q := 4) hin hc4))) ?_
              refine L_move rfl rfl ?_
              refine L_idx1 rfl Try.underlying60 Try.ti3 rfl rfl (by with_reducible first | exact natc_k _ | exact natc_a1 _ | exact natc_0 | exact natc_1 | exact natc_2 | exact natc_s1 _ (by omega) | exact natc_a2 _ | exact natc_add _ _ | exact natc_mul _ _ | exact natc (by omega)) (by omega) hsao ?_
              refine L_load rfl Try.one3 rfl (by exact (hfsl hs).get hlx) ?_
              refine L_assign rfl rfl ?_
              refine RL_then ?_
              refine W_seq ?_
              refine W_seq ?_
              refine W_region ?_
              refine L_move rfl rfl ?_
              first | refine L_lss rfl rfl rfl (dtrue (by omega)) ?_ | refine L_lss rfl rfl rfl (dfalse (by omega)) ?_ | refine L_lss rfl rfl rfl rfl ?_
              refine L_move rfl rfl ?_
              first | (refine RL_want rfl rfl ?_; refine L_move rfl rfl ?_) | refine RL_skip rfl rfl rfl rfl ?_ | refine RL_skipU rfl rfl rfl ?_
              first | (refine RL_want rfl rfl ?_; refine L_move rfl rfl ?_) | refine RL_skip rfl rfl rfl rfl ?_ | refine RL_skipU rfl rfl rfl ?_
              first | (refine RL_want rfl rfl ?_; refine L_len rfl Try.underlying60 rfl ?_) | refine RL_skip rfl rfl rfl rfl ?_ | refine RL_skipU rfl rfl rfl ?_
              first | (refine RL_want rfl rfl ?_; (first | refine L_geq rfl rfl rfl (dtrue (by omega)) ?_ | refine L_geq rfl rfl rfl (dfalse (by omega)) ?_ | refine L_geq rfl rfl rfl rfl ?_)) | refine RL_skip rfl rfl rfl rfl ?_ | refine RL_skipU rfl rfl rfl ?_
              first | refine L_pick_t rfl rfl rfl ?_ | refine L_pick_f rfl rfl rfl ?_
              refine L_move rfl rfl ?_
              first | (refine RL_want rfl rfl ?_; refine L_move rfl rfl ?_) | refine RL_skip rfl rfl rfl rfl ?_ | refine RL_skipU rfl rfl rfl ?_
              first | (refine RL_want rfl rfl ?_; (first | refine L_gtr rfl rfl rfl (dtrue (by omega)) ?_ | refine L_gtr rfl rfl rfl (dfalse (by omega)) ?_ | refine L_gtr rfl rfl rfl rfl ?_)) | refine RL_skip rfl rfl rfl rfl ?_ | refine RL_skipU rfl rfl rfl ?_
              first | (refine RL_want rfl rfl ?_; refine L_move rfl rfl ?_) | refine RL_skip rfl rfl rfl rfl ?_ | refine RL_skipU rfl rfl rfl ?_
              first | (refine RL_want rfl rfl ?_; refine L_move rfl rfl ?_) | refine RL_skip rfl rfl rfl rfl ?_ | refine RL_skipU rfl rfl rfl ?_
              first | (refine RL_want rfl rfl ?_; refine L_move rfl rfl ?_) | refine RL_skip rfl rfl rfl rfl ?_ | refine RL_skipU rfl rfl rfl ?_
              first | (refine RL_want rfl rfl ?_; refine L_idxN rfl Try.underlying55 Try.ti64 rfl rfl (by with_reducible first | exact natc_k _ | exact natc_a1 _ | exact natc_0 | exact natc_1 | exact natc_2 | exact natc_s1 _ (by omega) | exact natc_a2 _ | exact natc_add _ _ | exact natc_mul _ _ | exact natc (by omega)) (by omega) hao ?_) | refine RL_skip rfl rfl rfl rfl ?_ | refine RL_skipU rfl rfl rfl ?_
              first | (refine RL_want rfl rfl ?_; refine L_fieldAddr rfl (off := 4) Try.underlying64 rfl rfl Try.ti60 rfl ?_) | refine RL_skip rfl rfl rfl rfl ?_ | refine RL_skipU rfl rfl rfl ?_
              first | (refine RL_want rfl rfl ?_; refine L_load rfl Try.one60 rfl (by (rw [add_add]; exact (hofs hs).get (fcs_get (q := 4) hin hc4))) ?_) | refine RL_skip rfl rfl rfl rfl ?_ | refine RL_skipU rfl rfl rfl ?_
              first | (refine RL_want rfl rfl ?_; refine L_move rfl rfl ?_) | refine RL_skip rfl rfl rfl rfl ?_ | refine RL_skipU rfl rfl rfl ?_
              first | (refine RL_want rfl rfl ?_; (first | refine L_sub rfl rfl rfl (wrp_i64 (by omega)) ?_ | refine L_sub rfl rfl rfl rfl ?_)) | refine RL_skip rfl rfl rfl rfl ?_ | refine RL_skipU rfl rfl rfl ?_
              first | (refine RL_want rfl rfl ?_; refine L_idx1 rfl Try.underlying60 Try.ti3 rfl rfl (by with_reducible first | exact natc_k _ | exact natc_a1 _ | exact natc_0 | exact natc_1 | exact natc_2 | exact natc_s1 _ (by omega) | exact natc_a2 _ | exact natc_add _ _ | exact natc_mul _ _ | exact natc (by omega)) (by omega) hsao ?_) | refine RL_skip rfl rfl rfl rfl ?_ | refine RL_skipU rfl rfl rfl ?_
              first | (refine RL_want rfl rfl ?_; refine L_load rfl Try.one3 rfl (by exact (hfsl hs).get hly) ?_) | refine RL_skip rfl rfl rfl rfl ?_ | refine RL_skipU rfl rfl rfl ?_
              first | (refine RL_want rfl rfl ?_; refine L_move rfl rfl ?_) | refine RL_skip rfl rfl rfl rfl ?_ | refine RL_skipU rfl rfl rfl ?_
              first | (refine RL_want rfl rfl ?_; (first | refine L_geq rfl rfl rfl (dtrue (by omega)) ?_ | refine L_geq rfl rfl rfl (dfalse (by omega)) ?_ | refine L_geq rfl rfl rfl rfl ?_)) | refine RL_skip rfl rfl rfl rfl ?_ | refine RL_skipU rfl rfl rfl ?_
              first | (refine RL_want rfl rfl ?_; (first | refine L_pick_t rfl rfl rfl ?_ | refine L_pick_f rfl rfl rfl ?_)) | refine RL_skip rfl rfl rfl rfl ?_ | refine RL_skipU rfl rfl rfl ?_
              first | refine L_pick_t rfl rfl rfl ?_ | refine L_pick_f rfl rfl rfl ?_
              refine RL_then ?_
              refine W_if_false rfl ?_
              refine W_skip' ?_
              refine Nx_then ?_
              refine W_region ?_
              refine L_move rfl rfl ?_
              refine L_move rfl rfl ?_
              refine L_idx1 rfl Try.underlying60 Try.ti3 rfl rfl (by with_reducible first | exact natc_k _ | exact natc_a1 _ | exact natc_0 | exact natc_1 | exact natc_2 | exact natc_s1 _ (by omega) | exact natc_a2 _ | exact natc_add _ _ | exact natc_mul _ _ | exact natc (by omega)) (by omega) rfl ?_
              refine L_load rfl Try.one3 rfl (by exact hs.cellA (i := 0) rfl hdr) ?_
              first | refine L_add rfl rfl rfl (wrp_i64 (by omega)) ?_ | refine L_add rfl rfl rfl rfl ?_
              refine L_idx1 rfl Try.underlying60 Try.ti3 rfl rfl (by with_reducible first | exact natc_k _ | exact natc_a1 _ | exact natc_0 | exact natc_1 | exact natc_2 | exact natc_s1 _ (by omega) | exact natc_a2 _ | exact natc_add _ _ | exact natc_mul _ _ | exact natc (by omega)) (by omega) rfl ?_
              refine L_store hs (i := 0) rfl Try.ti3 rfl rfl (by first | rfl | exact add_lit0 _ _ | exact Addr.add_lit .. | (rw [add_add]; exact add_lit0 _ _)) (by simp; omega) rfl ?_
              intro w hs
              try dsimp only [List.set_cons_succ, List.set_cons_zero, List.cons_append, List.nil_append] at hs
              refine RL_nil' ?_
              refine Nx_block ?_
              refine Nx_then ?_
              refine W_region ?_
              refine L_move rfl rfl ?_
              first | refine L_add rfl rfl rfl (wrp_i64 (by omega)) ?_ | refine L_add rfl rfl rfl rfl ?_
              refine L_assign rfl rfl ?_
              refine RL_nil' ?_
              refine Nx_loopP (k + 1, D.set r (D.getD r 0 + 1), _) (is := [8, 9, 10, 11, 12]) (I' := (fun (k : Nat) (D : List Int) (w : World) => (k ≤ f.seen.length) ∧ (D.length = ms.length) ∧ (∀ r : Nat, r < ms.length → D.getD r 0 = ((cF (fs.take i) r + (f.seen.take k).count (r : Int) : Nat) : Int)) ∧ (HS w0 w ((b29, Row 3 (il D)) :: L))) (k + 1) (D.set r (D.getD r 0 + 1)) (_)) rfl rfl rfl ?_ ?_
              · refine ⟨by omega, by rw [List.length_set]; exact hDl, hdone, ?_⟩
                rw [← il_set]; exact hs
              · show f.seen.length - (k + 1) < f.seen.length - k; omega
            · refine W_seq ?_
              refine W_seq ?_
              refine W_region ?_
              refine L_move rfl rfl ?_
              refine L_move rfl rfl ?_
              refine L_move rfl rfl ?_
              refine L_idxN rfl Try.underlying55 Try.ti64 rfl rfl (by with_reducible first | exact natc_k _ | exact natc_a1 _ | exact natc_0 | exact natc_1 | exact natc_2 | exact natc_s1 _ (by omega) | exact natc_a2 _ | exact natc_add _ _ | exact natc_mul _ _ | exact natc (by omega)) (by omega) hao ?_
              refine L_fieldAddr rfl (off := 4) Try.underlying64 rfl rfl Try.ti60 rfl ?_
              refine L_load rfl Try.one60 rfl (by (rw [add_add]; exact (hofs hs).get (fcs_get (q := 4) hin hc4))) ?_
              refine L_len rfl Try.underlying60 rfl ?_
              first | refine L_lss rfl rfl rfl (dtrue (by omega)) ?_ | refine L_lss rfl rfl rfl (dfalse (by omega)) ?_ | refine L_lss rfl rfl rfl rfl ?_
              refine RL_then ?_
              refine W_if_true rfl ?_
              refine W_skip' ?_
              refine Nx_then ?_
              refine W_seq ?_
              refine W_block ?_
              refine W_seq ?_
              refine W_region ?_
              refine L_move rfl rfl ?_
              refine L_move rfl rfl ?_
              refine L_idxN rfl Try.underlying55 Try.ti64 rfl rfl (by with_reducible first | exact natc_k _ | exact natc_a1 _ | exact natc_0 | exact natc_1 | exact natc_2 | exact natc_s1 _ (by omega) | exact natc_a2 _ | exact natc_add _ _ | exact natc_mul _ _ | exact natc (by omega)) (by omega) hao ?_
              refine L_fieldAddr rfl (off := 4) Try.underlying64 rfl rfl Try.ti60 rfl ?_
              refine L_load rfl Try.one60 rfl (by (rw [add_add]; exact (hofs hs).get (fcs_get (q := 4) hin hc4))) ?_
              refine L_move rfl rfl ?_
              refine L_idx1 rfl Try.underlying60 Try.ti3 rfl rfl (by with_reducible first | exact natc_k _ | exact natc_a1 _ | exact natc_0 | exact natc_1 | exact natc_2 | exact natc_s1 _ (by omega) | exact natc_a2 _ | exact natc_add _ _ | exact natc_mul _ _ | exact natc (by omega)) (by omega) hsao ?_
              refine L_load rfl Try.one3 rfl (by exact (hfsl hs).get hlx) ?_
              refine L_assign rfl rfl ?_
              refine RL_then ?_
              refine W_seq ?_
              refine W_seq ?_
              refine W_region ?_
              refine L_move rfl rfl ?_
              first | refine L_lss rfl rfl rfl (dtrue (by omega)) ?_ | refine L_lss rfl rfl rfl (dfalse (by omega)) ?_ | refine L_lss rfl rfl rfl rfl ?_
              refine L_move rfl rfl ?_
              first | (refine RL_want rfl rfl ?_; refine L_move rfl rfl ?_) | refine RL_skip rfl rfl rfl rfl ?_ | refine RL_skipU rfl rfl rfl ?_
              first | (refine RL_want rfl rfl ?_; refine L_move rfl rfl ?_) | refine RL_skip rfl rfl rfl rfl ?_ | refine RL_skipU rfl rfl rfl ?_
              first | (refine RL_want rfl rfl ?_; refine L_len rfl Try.underlying60 rfl ?_) | refine RL_skip rfl rfl rfl rfl ?_ | refine RL_skipU rfl rfl rfl ?_
              first | (refine RL_want rfl rfl ?_; (first | refine L_geq rfl rfl rfl (dtrue (by omega)) ?_ | refine L_geq rfl rfl rfl (dfalse (by omega)) ?_ | refine L_geq rfl rfl rfl rfl ?_)) | refine RL_skip rfl rfl rfl rfl ?_ | refine RL_skipU rfl rfl rfl ?_
              first | refine L_pick_t rfl rfl rfl ?_ | refine L_pick_f rfl rfl rfl ?_
              refine L_move rfl rfl ?_
              first | (refine RL_want rfl rfl ?_; refine L_move rfl rfl ?_) | refine RL_skip rfl rfl rfl rfl ?_ | refine RL_skipU rfl rfl rfl ?_
              first | (refine RL_want rfl rfl ?_; (first | refine L_gtr rfl rfl rfl (dtrue (by omega)) ?_ | refine L_gtr rfl rfl rfl (dfalse (by omega)) ?_ | refine L_gtr rfl rfl rfl rfl ?_)) | refine RL_skip rfl rfl rfl rfl ?_ | refine RL_skipU rfl rfl rfl ?_
              first | (refine RL_want rfl rfl ?_; refine L_move rfl rfl ?_) | refine RL_skip rfl rfl rfl rfl ?_ | refine RL_skipU rfl rfl rfl ?_
              first | (refine RL_want rfl rfl ?_; refine L_move rfl rfl ?_) | refine RL_skip rfl rfl rfl rfl ?_ | refine RL_skipU rfl rfl rfl ?_
              first | (refine RL_want rfl rfl ?_; refine L_move rfl rfl ?_) | refine RL_skip rfl rfl rfl rfl ?_ | refine RL_skipU rfl rfl rfl ?_
              first | (refine RL_want rfl rfl ?_; refine L_idxN rfl Try.underlying55 Try.ti64 rfl rfl (by with_reducible first | exact natc_k _ | exact natc_a1 _ | exact natc_0 | exact natc_1 | exact natc_2 | exact natc_s1 _ (by omega) | exact natc_a2 _ | exact natc_add _ _ | exact natc_mul _ _ | exact natc (by omega)) (by omega) hao ?_) | refine RL_skip rfl rfl rfl rfl ?_ | refine RL_skipU rfl rfl rfl ?_
              first | (refine RL_want rfl rfl ?_; refine L_fieldAddr rfl (off := 4) Try.underlying64 rfl rfl Try.ti60 rfl ?_) | refine RL_skip rfl rfl rfl rfl ?_ | refine RL_skipU rfl rfl rfl ?_
              first | (refine RL_want rfl rfl ?_; refine L_load rfl Try.one60 rfl (by (rw [add_add]; exact (hofs hs).get (fcs_get (q := 4) hin hc4))) ?_) | refine RL_skip rfl rfl rfl rfl ?_ | refine RL_skipU rfl rfl rfl ?_
              first | (refine RL_want rfl rfl ?_; refine L_move rfl rfl ?_) | refine RL_skip rfl rfl rfl rfl ?_ | refine RL_skipU rfl rfl rfl ?_
              first | (refine RL_want rfl rfl ?_; (first | refine L_sub rfl rfl rfl (wrp_i64 (by omega)) ?_ | refine L_sub rfl rfl rfl rfl ?_)) | refine RL_skip rfl rfl rfl rfl ?_ | refine RL_skipU rfl rfl rfl ?_
              first | (refine RL_want rfl rfl ?_; refine L_idx1 rfl Try.underlying60 Try.ti3 rfl rfl (by with_reducible first | exact natc_k _ | exact natc_a1 _ | exact natc_0 | exact natc_1 | exact natc_2 | exact natc_s1 _ (by omega) | exact natc_a2 _ | exact natc_add _ _ | exact natc_mul _ _ | exact natc (by omega)) (by omega) hsao ?_) | refine RL_skip rfl rfl rfl rfl ?_ | refine RL_skipU rfl rfl rfl ?_
              first | (refine RL_want rfl rfl ?_; refine L_load rfl Try.one3 rfl (by exact (hfsl hs).get hly) ?_) | refine RL_skip rfl rfl rfl rfl ?_ | refine RL_skipU rfl rfl rfl ?_
              first | (refine RL_want rfl rfl ?_; refine L_move rfl rfl ?_) | refine RL_skip rfl rfl rfl rfl ?_ | refine RL_skipU rfl rfl rfl ?_
              first | (refine RL_want rfl rfl ?_; (first | refine L_geq rfl rfl rfl (dtrue (by omega)) ?_ | refine L_geq rfl rfl rfl (dfalse (by omega)) ?_ | refine L_geq rfl rfl rfl rfl ?_)) | refine RL_skip rfl rfl rfl rfl ?_ | refine RL_skipU rfl rfl rfl ?_
              first | (refine RL_want rfl rfl ?_; (first | refine L_pick_t rfl rfl rfl ?_ | refine L_pick_f rfl rfl rfl ?_)) | refine RL_skip rfl rfl rfl rfl ?_ | refine RL_skipU rfl rfl rfl ?_
              first | refine L_pick_t rfl rfl rfl ?_ | refine L_pick_f rfl rfl rfl ?_
              refine RL_then ?_
              refine W_if_false rfl ?_
              refine W_skip' ?_
              refine Nx_then ?_
              refine W_region ?_
              refine L_move rfl rfl ?_
              refine L_move rfl rfl ?_
              refine L_idx1 rfl Try.underlying60 Try.ti3 rfl rfl (by with_reducible first | exact natc_k _ | exact natc_a1 _ | exact natc_0 | exact natc_1 | exact natc_2 | exact natc_s1 _ (by omega) | exact natc_a2 _ | exact natc_add _ _ | exact natc_mul _ _ | exact natc (by omega)) (by omega) rfl ?_
              refine L_load rfl Try.one3 rfl (by exact hs.cellA (i := 0) rfl hdr) ?_
              first | refine L_add rfl rfl rfl (wrp_i64 (by omega)) ?_ | refine L_add rfl rfl rfl rfl ?_
              refine L_idx1 rfl Try.underlying60 Try.ti3 rfl rfl (by with_reducible first | exact natc_k _ | exact natc_a1 _ | exact natc_0 | exact natc_1 | exact natc_2 | exact natc_s1 _ (by omega) | exact natc_a2 _ | exact natc_add _ _ | exact natc_mul _ _ | exact natc (by omega)) (by omega) rfl ?_
              refine L_store hs (i := 0) rfl Try.ti3 rfl rfl (by first | rfl | exact add_lit0 _ _ | exact Addr.add_lit .. | (rw [add_add]; exact add_lit0 _ _)) (by simp; omega) rfl ?_
              intro w hs
              try dsimp only [List.set_cons_succ, List.set_cons_zero, List.cons_append, List.nil_append] at hs
              refine RL_nil' ?_
              refine Nx_block ?_
              refine Nx_then ?_
              refine W_region ?_
              refine L_move rfl rfl ?_
              first | refine L_add rfl rfl rfl (wrp_i64 (by omega)) ?_ | refine L_add rfl rfl rfl rfl ?_
              refine L_assign rfl rfl ?_
              refine RL_nil' ?_
              refine Nx_loopP (k + 1, D.set r (D.getD r 0 + 1), _) (is := [8, 9, 10, 11, 12]) (I' := (fun (k : Nat) (D : List Int) (w : World) => (k ≤ f.seen.length) ∧ (D.length = ms.length) ∧ (∀ r : Nat, r < ms.length → D.getD r 0 = ((cF (fs.take i) r + (f.seen.take k).count (r : Int) : Nat) : Int)) ∧ (HS w0 w ((b29, Row 3 (il D)) :: L))) (k + 1) (D.set r (D.getD r 0 + 1)) (_)) rfl rfl rfl ?_ ?_
              · refine ⟨by omega, by rw [List.length_set]; exact hDl, hdone, ?_⟩
                rw [← il_set]; exact hs
              · show f.seen.length - (k + 1) < f.seen.length - k; omega
          · have hke : f.seen.take k = f.seen := List.take_of_length_le (by omega)
            refine W_seq ?_
            refine W_seq ?_
            refine W_region ?_
            refine L_move rfl rfl ?_
            refine L_move rfl rfl ?_
            refine L_move rfl rfl ?_
            refine L_idxN rfl Try.underlying55 Try.ti64 rfl rfl (by with_reducible first | exact natc_k _ | exact natc_a1 _ | exact natc_0 | exact natc_1 | exact natc_2 | exact natc_s1 _ (by omega) | exact natc_a2 _ | exact natc_add _ _ | exact natc_mul _ _ | exact natc (by omega)) (by omega) hao ?_
            refine L_fieldAddr rfl (off := 4) Try.underlying64 rfl rfl Try.ti60 rfl ?_
            refine L_load rfl Try.one60 rfl (by (rw [add_add]; exact (hofs hs).get (fcs_get (q := 4) hin hc4))) ?_
            refine L_len rfl Try.underlying60 rfl ?_
            first | refine L_lss rfl rfl rfl (dtrue (by omega)) ?_ | refine L_lss rfl rfl rfl (dfalse (by omega)) ?_ | refine L_lss rfl rfl rfl rfl ?_
            refine RL_then ?_
            refine W_if_false rfl ?_
            refine W_exit' ?_
            refine Ex_then_exit ?_
            refine Ex_loop_exit ?_
            refine Ex_block_hit ?_
            refine Nx_block ?_
            refine Nx_then ?_
            refine W_region ?_
            refine L_move rfl rfl ?_
            first | refine L_add rfl rfl rfl (wrp_i64 (by omega)) ?_ | refine L_add rfl rfl rfl rfl ?_
            refine L_assign rfl rfl ?_
            refine RL_nil' ?_
            refine Nx_loopP (i + 1, D, _) (is := [8, 9, 10, 11]) (I' := (fun (i : Nat) (C : List Int) (w : World) => (i ≤ fs.length) ∧ (C.length = ms.length) ∧ (∀ r : Nat, r < ms.length → C.getD r 0 = (cF (fs.take i) r : Int)) ∧ (HS w0 w ((b29, Row 3 (il C)) :: L))) (i + 1) (D) (_)) rfl rfl rfl ?_ ?_
            · refine ⟨by omega, hDl, fun r hr => ?_, hs⟩
              rw [hD r hr, hke, take_snoc hfi]
              unfold cF
              rw [List.map_append, cntS_app]
              show _ = ((cntS _ _ + cntS _ [f.s] : Nat) : Int)
              rw [cntS_one]; rfl
            · omega
      · obtain rfl : i = fs.length := by omega
        rw [List.take_of_length_le (Nat.le_refl _)] at hC
        have hCm : ∀ r : Nat, r < ms.length → C.getD r 0 = (((rds ms).getD r rd0).ts.length : Int) := fun r hr => by rw [hC r hr, hcF r hr]
        refine W_seq ?_
        refine W_seq ?_
        refine W_region ?_
        refine L_move rfl rfl ?_
        refine L_move rfl rfl ?_
        refine L_len rfl Try.underlying55 rfl ?_
        first | refine L_lss rfl rfl rfl (dtrue (by omega)) ?_ | refine L_lss rfl rfl rfl (dfalse (by omega)) ?_ | refine L_lss rfl rfl rfl rfl ?_
        refine RL_then ?_
        refine W_if_false rfl ?_
        refine W_exit' ?_
        refine Ex_then_exit ?_
        refine Ex_loop_exit ?_
        refine Ex_block_hit ?_
        refine Nx_then ?_
        refine W_seq ?_
        refine W_seq ?_
        refine W_region ?_
        refine L_assign rfl rfl ?_
        refine RL_then ?_
        refine W_block ?_
        clear hofs
        refine W_loop2 (fun (r : Nat) (w : World) => [(8, .slice am ms.length cm), (10, .slice (some ⟨b29, 0, none⟩) ms.length ms.length), (14, .int .i64 r)]) (fun (r : Nat) (w : World) => w) (fun (r : Nat) (w : World) => (r ≤ ms.length) ∧ (HS w0 w ((b29, Row 3 (il C)) :: L))) (fun (r : Nat) (w : World) => ms.length - r) (0) (_) (is := [8, 10, 14]) rfl rfl ?_ ?_
        · exact ⟨Nat.zero_le _, hs⟩
        · clear hs
          intro r w hI
          show W _ _ _ _ [(8, .slice am ms.length cm), (10, .slice (some ⟨b29, 0, none⟩) ms.length ms.length), (14, .int .i64 r)] w
          obtain ⟨hr, hs⟩ := hI
          have hmsl : ∀ {w}, HS w0 w ((b29, Row 3 (il C)) :: L) → SlC w am (il (cntL (rds ms))) := fun hs => Bl.slcM hbm hs (fun p hp => List.mem_cons_of_mem _ (hMm p hp))
          by_cases hrn : r < ms.length
          · have hcl : (cntL (rds ms)).length = ms.length := by unfold cntL; rw [List.length_map, rds_len]
            have h1 : (il C)[r]? = some (.int .i64 (((rds ms).getD r rd0).ts.length : Int)) := by rw [← hCm r hrn]; exact il_get (by omega)
            have h2 : (il (cntL (rds ms)))[r]? = some (.int .i64 (((rds ms).getD r rd0).ts.length : Int)) := by
              have h3 := il_get (xs := cntL (rds ms)) (j := r) (by omega)
              rw [h3]
              congr 2
              unfold cntL
              rw [List.getD_eq_getElem?_getD, List.getElem?_map, List.getElem?_eq_getElem (by rw [rds_len]; exact hrn), List.getD_eq_getElem?_getD, List.getElem?_eq_getElem (by rw [rds_len]; exact hrn)]; rfl
            have ham := (hmsl hs).ao (by rw [il_length]; omega)
            refine W_seq ?_
            refine W_seq ?_
            refine W_region ?_
            refine L_move rfl rfl ?_
            refine L_move rfl rfl ?_
            refine L_len rfl Try.underlying60 rfl ?_
            first | refine L_lss rfl rfl rfl (dtrue (by omega)) ?_ | refine L_lss rfl rfl rfl (dfalse (by omega)) ?_ | refine L_lss rfl rfl rfl rfl ?_
            refine RL_then ?_
            refine W_if_true rfl ?_
            refine W_skip' ?_
            refine Nx_then ?_
            refine W_seq ?_
            refine W_block ?_
            refine W_seq ?_
            refine W_pht [0, 1, 2, 4, 5, 6] [3, 7, 8] [] (fun _ _ _ => False) Try.mixed (by kernel_rfl) (fun _ _ _ _ _ h => h) hs ?_
            refine PL_val rfl (fun w => R_move rfl) ?_
            refine PL_val rfl (fun w => R_move rfl) ?_
            refine PL_val rfl (fun w => R_idx1 Try.underlying60 Try.ti3 rfl rfl (by with_reducible first | exact natc_k _ | exact natc_a1 _ | exact natc_0 | exact natc_1 | exact natc_2 | exact natc_s1 _ (by omega) | exact natc_a2 _ | exact natc_add _ _ | exact natc_mul _ _ | exact natc (by omega)) (by omega) rfl) ?_
            refine PL_val rfl (fun w => R_move rfl) ?_
            refine PL_val rfl (fun w => R_move rfl) ?_
            refine PL_val rfl (fun w => R_idx1 Try.underlying60 Try.ti3 rfl rfl (by with_reducible first | exact natc_k _ | exact natc_a1 _ | exact natc_0 | exact natc_1 | exact natc_2 | exact natc_s1 _ (by omega) | exact natc_a2 _ | exact natc_add _ _ | exact natc_mul _ _ | exact natc (by omega)) (by omega) ham) ?_
            refine PL_end ?_
            refine HL_val rfl (fun w hs => R_load Try.one3 rfl (by exact hs.cellA (i := 0) rfl h1)) ?_
            refine HL_val rfl (fun w hs => R_load Try.one3 rfl (by exact (hmsl hs).get h2)) ?_
            first | refine HL_val rfl (fun w hs => R_neq rfl rfl (dtrue (by omega))) ?_ | refine HL_val rfl (fun w hs => R_neq rfl rfl (dfalse (by omega))) ?_ | refine HL_val rfl (fun w hs => R_neq rfl rfl rfl) ?_
            refine HL_tail ?_
            intro w hs
            refine RL_then ?_
            refine W_if_false rfl ?_
            refine W_skip' ?_
            refine Nx_block ?_
            refine Nx_then ?_
            refine W_region ?_
            refine L_move rfl rfl ?_
            first | refine L_add rfl rfl rfl (wrp_i64 (by omega)) ?_ | refine L_add rfl rfl rfl rfl ?_
            refine L_assign rfl rfl ?_
            refine RL_nil' ?_
            refine Nx_loopP (r + 1, _) (is := [8, 10, 14]) (I' := (fun (r : Nat) (w : World) => (r ≤ ms.length) ∧ (HS w0 w ((b29, Row 3 (il C)) :: L))) (r + 1) (_)) rfl rfl rfl ?_ ?_
            · exact ⟨by omega, hs⟩
            · omega
          · obtain rfl : r = ms.length := by omega
            refine W_seq ?_
            refine W_seq ?_
            refine W_region ?_
            refine L_move rfl rfl ?_
            refine L_move rfl rfl ?_
            refine L_len rfl Try.underlying60 rfl ?_
            first | refine L_lss rfl rfl rfl (dtrue (by omega)) ?_ | refine L_lss rfl rfl rfl (dfalse (by omega)) ?_ | refine L_lss rfl rfl rfl rfl ?_
            refine RL_then ?_
            refine W_if_false rfl ?_
            refine W_exit' ?_
            refine Ex_then_exit ?_
            refine Ex_loop_exit ?_
            refine Ex_block_hit ?_
            refine Nx_then ?_
            refine W_seq ?_
            refine W_region ?_
            refine L_call rfl Try.fun11 rfl (wakesL hs) ?_
            rintro _ w7 ⟨rfl, hs5⟩
            refine L_assign rfl rfl ?_
            refine RL_then ?_
            refine W_ret' ?_
            refine Ex_done1 rfl rfl ?_
            exact ⟨_, rfl, rfl, hs5.forget (Own.cons hb29 hoL)⟩
end Go.Proofs.Ytknpoemkmcdgcaa
