/-
  A part of the proof: what functions that the statement reaches do, or a plain law on what they do. Each theorem holds under its own premises alone.
-/
import Derived.Test.YtcfdmenmlemahaaTG26
import Derived.Test.YtcfdmenmlemahaaTYU
namespace Go.Proofs.Ytcfdmenmlemahaa
open Go Go.Lk Go.Pr
theorem mkFine {S : List (List Int)} {k m : Nat} (hl : S.length = k) (hk : k ≤ 256) (hm : m ≤ 256) (h0 : 0 < k) (hw : ∀ i, i < k → (S.getD i []).length = m) (hc : ∀ i j, i < k → j < m → el S i j ≤ 1099511627776) : Fine S ∧ wid S 0 = m :=
  ⟨⟨by omega, fun i hi => by show (S.getD i []).length ≤ 256; rw [hw i (by omega)]; exact hm, fun i hi => by show (S.getD i []).length = (S.getD 0 []).length; rw [hw i (by omega), hw 0 h0], fun i j hi hj => by have hj' : j < (S.getD i []).length := hj; rw [hw i (by omega)] at hj'; exact hc i j (by omega) hj'⟩, hw 0 h0⟩
theorem oneC_slice {a : Option Addr} {k c : Nat} : (Value.slice a k c).oneCell' = true := rfl
theorem getD_set_eq {α : Type} {l : List α} {i : Nat} {x d : α} (h : i < l.length) : (l.set i x).getD i d = x := by simp [List.getD, h]
theorem getD_set_ne2 {α : Type} {l : List α} {i j : Nat} {x d : α} (h : j ≠ i) : (l.set i x).getD j d = l.getD j d := by simp [List.getD, Ne.symm h]
/-- a column of a table, its first entries -/
def colT (rows : List (List Int)) (i j : Nat) : List Int := (List.range j).map fun q => el rows q i
theorem colT_len (rows : List (List Int)) (i j : Nat) : (colT rows i j).length = j := by simp [colT]
theorem colT_snoc (rows : List (List Int)) (i j : Nat) : colT rows i j ++ [el rows j i] = colT rows i (j + 1) := by simp [colT, List.range_succ]
theorem colT_get {rows : List (List Int)} {i j q : Nat} (h : q < j) : (colT rows i j).getD q 0 = el rows q i := by simp [colT, List.getD, h]
def swl (l : List Int) (p q : Nat) : List Int := (l.set p (l.getD q 0)).set q (l.getD p 0)
theorem swl_get {l : List Int} {p q n : Nat} (hl : l.length = n) (hp : p < n) (hq : q < n) (j : Nat) : (swl l p q).getD j 0 = l.getD (if j = q then p else if j = p then q else j) 0 := by
  unfold swl
  rw [gset (by simp; omega), gset (by omega)]
  by_cases h1 : j = q
  · rw [if_pos h1, if_pos h1]
  · rw [if_neg h1, if_neg h1]
    split <;> rfl
set_option maxHeartbeats 16000000 in
theorem moved_law (a : Option Addr) (k cp : Nat) (rows : List (List Int)) (rvs : List Value) (row more p q : Int) (ac : Option Addr) (kc cc : Nat) (col : List Int) (w0 : World) (hr : RowsI w0 a rows rvs) (hk : rows.length = k) (hk63 : k ≤ 17592186043904) (hcol : SlC w0 ac (il col)) (hkc : col.length = kc) (hkc63 : kc ≤ 17592186043904) :
    Ret Try.prog 4 [.slice a k cp, .int .i64 row, .int .i64 more, .int .i64 p, .int .i64 q, .slice ac kc cc] w0 fun v w' => v = .bool true ∧ HS w0 w' [] := by
  refine Ret.start fun w hs => ?_
  have hrl := hr.len
  refine calls_of_W Try.func4 rfl rfl rfl ?_
  refine W_seq ?_
  refine W_region ?_
  refine L_assign rfl rfl ?_
  refine RL_then ?_
  refine W_seq ?_
  refine W_seq ?_
  refine W_region ?_
  refine L_call rfl Try.fun8 rfl (works_ok w) ?_
  rintro _ w1 ⟨rfl, hs'⟩
  replace hs := hs.nil hs'
  clear hs'
  refine L_not rfl rfl ?_
  refine L_move rfl rfl ?_
  first | (refine RL_want rfl rfl ?_; refine L_move rfl rfl ?_) | refine RL_skip rfl rfl rfl rfl ?_ | refine RL_skipU rfl rfl rfl ?_
  refine RL_want rfl rfl ?_
  refine L_call rfl Try.fun9 rfl (fine_ok a k cp 60 60 rows rvs w1 (hr.old hs Own.nil) hk hk63) ?_
  rintro _ w2 ⟨b, rfl, hs', hfb⟩
  replace hs := hs.nil hs'
  clear hs'
  cases b
  · first | (refine RL_want rfl rfl ?_; refine L_not rfl rfl ?_) | refine RL_skip rfl rfl rfl rfl ?_ | refine RL_skipU rfl rfl rfl ?_
    first | refine L_pick_t rfl rfl rfl ?_ | refine L_pick_f rfl rfl rfl ?_
    refine L_move rfl rfl ?_
    first | (refine RL_want rfl rfl ?_; refine L_move rfl rfl ?_) | refine RL_skip rfl rfl rfl rfl ?_ | refine RL_skipU rfl rfl rfl ?_
    first | (refine RL_want rfl rfl ?_; refine L_len rfl Try.underlying22 rfl ?_) | refine RL_skip rfl rfl rfl rfl ?_ | refine RL_skipU rfl rfl rfl ?_
    first | (refine RL_want rfl rfl ?_; (first | refine L_eql rfl rfl rfl (dtrue (by omega)) ?_ | refine L_eql rfl rfl rfl (dfalse (by omega)) ?_ | refine L_eql rfl rfl rfl rfl ?_)) | refine RL_skip rfl rfl rfl rfl ?_ | refine RL_skipU rfl rfl rfl ?_
    first | refine L_pick_t rfl rfl rfl ?_ | refine L_pick_f rfl rfl rfl ?_
    refine RL_then ?_
    refine W_if_true rfl ?_
    refine W_seq ?_
    refine W_region ?_
    refine L_call rfl Try.fun8 rfl (works_ok w2) ?_
    rintro _ w3 ⟨rfl, hs'⟩
    replace hs := hs.nil hs'
    refine L_assign rfl rfl ?_
    refine RL_then ?_
    refine W_ret' ?_
    refine Ex_then_ret ?_
    refine Ex_done1 rfl rfl ?_
    exact ⟨_, rfl, rfl, hs⟩
  · have hFB := hfb.1 rfl
    have hF := hFB.fine (by omega) (by omega)
    have hk60 := hFB.len
    clear hfb
    by_cases hk0 : k = 0
    · first | (refine RL_want rfl rfl ?_; refine L_not rfl rfl ?_) | refine RL_skip rfl rfl rfl rfl ?_ | refine RL_skipU rfl rfl rfl ?_
      first | refine L_pick_t rfl rfl rfl ?_ | refine L_pick_f rfl rfl rfl ?_
      refine L_move rfl rfl ?_
      first | (refine RL_want rfl rfl ?_; refine L_move rfl rfl ?_) | refine RL_skip rfl rfl rfl rfl ?_ | refine RL_skipU rfl rfl rfl ?_
      first | (refine RL_want rfl rfl ?_; refine L_len rfl Try.underlying22 rfl ?_) | refine RL_skip rfl rfl rfl rfl ?_ | refine RL_skipU rfl rfl rfl ?_
      first | (refine RL_want rfl rfl ?_; (first | refine L_eql rfl rfl rfl (dtrue (by omega)) ?_ | refine L_eql rfl rfl rfl (dfalse (by omega)) ?_ | refine L_eql rfl rfl rfl rfl ?_)) | refine RL_skip rfl rfl rfl rfl ?_ | refine RL_skipU rfl rfl rfl ?_
      first | refine L_pick_t rfl rfl rfl ?_ | refine L_pick_f rfl rfl rfl ?_
      refine RL_then ?_
      refine W_if_true rfl ?_
      refine W_seq ?_
      refine W_region ?_
      refine L_call rfl Try.fun8 rfl (works_ok w2) ?_
      rintro _ w3 ⟨rfl, hs'⟩
      replace hs := hs.nil hs'
      refine L_assign rfl rfl ?_
      refine RL_then ?_
      refine W_ret' ?_
      refine Ex_then_ret ?_
      refine Ex_done1 rfl rfl ?_
      exact ⟨_, rfl, rfl, hs⟩
    · first | (refine RL_want rfl rfl ?_; refine L_not rfl rfl ?_) | refine RL_skip rfl rfl rfl rfl ?_ | refine RL_skipU rfl rfl rfl ?_
      first | refine L_pick_t rfl rfl rfl ?_ | refine L_pick_f rfl rfl rfl ?_
      refine L_move rfl rfl ?_
      first | (refine RL_want rfl rfl ?_; refine L_move rfl rfl ?_) | refine RL_skip rfl rfl rfl rfl ?_ | refine RL_skipU rfl rfl rfl ?_
      first | (refine RL_want rfl rfl ?_; refine L_len rfl Try.underlying22 rfl ?_) | refine RL_skip rfl rfl rfl rfl ?_ | refine RL_skipU rfl rfl rfl ?_
      first | (refine RL_want rfl rfl ?_; (first | refine L_eql rfl rfl rfl (dtrue (by omega)) ?_ | refine L_eql rfl rfl rfl (dfalse (by omega)) ?_ | refine L_eql rfl rfl rfl rfl ?_)) | refine RL_skip rfl rfl rfl rfl ?_ | refine RL_skipU rfl rfl rfl ?_
      first | refine L_pick_t rfl rfl rfl ?_ | refine L_pick_f rfl rfl rfl ?_
      refine RL_then ?_
      refine W_if_false rfl ?_
      obtain ⟨a0, c0, k1, k2, k3, k4⟩ := hr.row 0 (by omega)
      obtain ⟨n, hn⟩ : ∃ n, n = (rows.getD 0 []).length := ⟨_, rfl⟩
      have hwn : wid rows 0 = n := hn.symm
      have hn60 : n ≤ 60 := by rw [hn]; exact hFB.wide 0 (by omega)
      have hw : ∀ i, i < k → (rows.getD i []).length = n := fun i hi => by rw [hn]; exact hFB.same i (by omega)
      have hcost : ∀ i j, i < k → j < n → el rows i j ≤ 1099511627776 := fun i j hi hj => hFB.cost i j (by omega) (by show j < (rows.getD i []).length; rw [hw i hi]; exact hj)
      rw [← hn] at k1 k2 k3
      refine W_skip' ?_
      refine Nx_then ?_
      refine W_seq ?_
      refine W_region ?_
      refine L_move rfl rfl ?_
      refine L_idx1 rfl Try.underlying22 Try.ti38 rfl rfl natc_0 (by omega) (hr.sl.ao (by omega)) ?_
      skip
      refine L_load rfl Try.one38 rfl ((hr.sl.old hs Own.nil).get k1) ?_
      refine L_len rfl Try.underlying38 rfl ?_
      refine L_assign rfl rfl ?_
      refine RL_then ?_
      refine W_seq ?_
      refine W_region ?_
      refine L_move rfl rfl ?_
      refine L_call rfl Try.fun10 rfl (least_ok a k cp rows rvs w2 (hr.old hs Own.nil) hk hk63) ?_
      rintro _ w3 ⟨v1, N1, ms, t, e, rfl, hs1, hbl1, hans1⟩
      obtain ⟨qm, cm, rfl, _⟩ := hbl1.slice
      have hslm : SlC w3 qm (il ms) := hbl1.slc (L := []) hs1
      replace hs := hs.nil (hs1.forget hbl1.own)
      clear hs1 hbl1
      refine L_move rfl rfl ?_
      refine L_extract rfl rfl rfl ?_
      refine L_extract rfl rfl rfl ?_
      refine L_extract rfl rfl rfl ?_
      refine L_assign rfl rfl ?_
      refine L_assign rfl rfl ?_
      refine L_assign rfl rfl ?_
      refine RL_then ?_
      refine W_seq ?_
      refine W_region ?_
      refine L_move rfl rfl ?_
      refine L_call rfl Try.fun13 rfl (most_ok a k cp rows rvs w3 (hr.old hs Own.nil) hk hk63) ?_
      rintro _ w5 ⟨v2, N2, A, cnt, u0, f0, rfl, hs2, hbl2, hans2⟩
      obtain ⟨hTold, rfl⟩ := told_of hF hans1 hans2
      obtain ⟨hTop, hp, hc⟩ := top_most hF rfl hans1 hans2
      replace hslm := hslm.old (hs2.forget hbl2.own) Own.nil
      replace hs := hs.nil (hs2.forget hbl2.own)
      clear hs2 hbl2
      have hLS := ls_of hF hans1
      rw [hwn] at hLS hTop
      replace hr := hr.old hs Own.nil
      replace hcol := hcol.old hs Own.nil
      have hbase := hs
      clear hs k4
      have hs := HS.refl w5
      have hml : ms.length ≤ k := by
        rcases hans1 with ⟨_, h1, _⟩ | ⟨_, _, _, h1, _⟩ | ⟨_, _, _, g, _, ⟨_, h1, _⟩ | ⟨_, h1, _⟩⟩ <;> rw [h1] <;> simp [hk]
      have hlen6 : ∀ i, i < k → (rows.getD i []).length ≤ 1000000 := fun i hi => by rw [hw i hi]; omega
      have htb : e = 0 → -70368744177664 ≤ t ∧ t ≤ 70368744177664 := fun he => by
        rcases hLS with ⟨_, h1, h2⟩ | ⟨h1, _⟩
        · have hb := tot_bound (n := rows.length) (h := fun q => if ms.getD q 0 = -1 then 0 else el rows q (ms.getD q 0).toNat) (B := 1099511627776) (fun q hq => by
            rcases h1.val.ent q hq with h3 | ⟨j, h3, h4, _⟩
            · rw [if_pos h3.1]; omega
            · rw [h3, if_neg (by omega), Int.toNat_natCast]; exact hcost q j (by omega) h4)
          have hb0 : 0 ≤ tot rows.length (fun q => if ms.getD q 0 = -1 then 0 else el rows q (ms.getD q 0).toNat) := tot_nonneg fun q hq => by
            rcases h1.val.ent q hq with h3 | ⟨j, h3, _, h4⟩
            · rw [if_pos h3.1]; omega
            · rw [h3, if_neg (by omega), Int.toNat_natCast]; exact h4
          have e1 : tot rows.length (fun q => if ms.getD q 0 = -1 then 0 else el rows q (ms.getD q 0).toNat) = cos rows ms rows.length := rfl
          have hrk : rows.length = k := hk
          omega
        · omega
      clear hans1
      refine L_move rfl rfl ?_
      refine L_extract rfl rfl rfl ?_
      refine L_extract rfl rfl rfl ?_
      refine L_extract rfl rfl rfl ?_
      refine L_extract rfl rfl rfl ?_
      refine L_assign rfl rfl ?_
      refine L_assign rfl rfl ?_
      refine L_assign rfl rfl ?_
      refine L_assign rfl rfl ?_
      refine RL_then ?_
      refine W_seq ?_
      refine W_seq ?_
      refine W_region ?_
      refine L_move rfl rfl ?_
      first | refine L_neq rfl rfl rfl (dtrue (by omega)) ?_ | refine L_neq rfl rfl rfl (dfalse (by omega)) ?_ | refine L_neq rfl rfl rfl rfl ?_
      refine RL_then ?_
      refine W_if_false rfl ?_
      refine W_skip' ?_
      refine Nx_then ?_
      refine W_seq ?_
      refine W_seq ?_
      refine W_cut2 (fun (ok : Bool) (w : World) => [(0, .slice a k cp), (1, .int .i64 row), (2, .int .i64 more), (3, .int .i64 p), (4, .int .i64 q), (5, .slice ac kc cc), (13, .int .i64 n), (14, .slice qm ms.length cm), (15, .int .i64 t), (16, .int .i64 e), (18, .int .i64 cnt), (86, .bool ok)]) (fun (ok : Bool) (w : World) => w) (fun (ok : Bool) (w : World) => (HS w5 w []) ∧ (ok = true → 0 ≤ row ∧ row < k)) ?_ ?_
      · by_cases h1 : 0 ≤ row
        · by_cases h2 : row < k
          · refine W_region ?_
            refine L_move rfl rfl ?_
            first | refine L_geq rfl rfl rfl (dtrue (by omega)) ?_ | refine L_geq rfl rfl rfl (dfalse (by omega)) ?_ | refine L_geq rfl rfl rfl rfl ?_
            refine L_move rfl rfl ?_
            first | (refine RL_want rfl rfl ?_; refine L_move rfl rfl ?_) | refine RL_skip rfl rfl rfl rfl ?_ | refine RL_skipU rfl rfl rfl ?_
            first | (refine RL_want rfl rfl ?_; refine L_move rfl rfl ?_) | refine RL_skip rfl rfl rfl rfl ?_ | refine RL_skipU rfl rfl rfl ?_
            first | (refine RL_want rfl rfl ?_; refine L_len rfl Try.underlying22 rfl ?_) | refine RL_skip rfl rfl rfl rfl ?_ | refine RL_skipU rfl rfl rfl ?_
            first | (refine RL_want rfl rfl ?_; (first | refine L_lss rfl rfl rfl (dtrue (by omega)) ?_ | refine L_lss rfl rfl rfl (dfalse (by omega)) ?_ | refine L_lss rfl rfl rfl rfl ?_)) | refine RL_skip rfl rfl rfl rfl ?_ | refine RL_skipU rfl rfl rfl ?_
            first | refine L_pick_t rfl rfl rfl ?_ | refine L_pick_f rfl rfl rfl ?_
            refine RL_nil' ?_
            refine Nx_cutP (true, w5) (is := [0, 1, 2, 3, 4, 5, 13, 14, 15, 16, 18, 86]) (I' := (fun (ok : Bool) (w : World) => (HS w5 w []) ∧ (ok = true → 0 ≤ row ∧ row < k)) (true) (w5)) rfl rfl rfl ?_
            exact ⟨hs, fun _ => ⟨h1, h2⟩⟩
          · refine W_region ?_
            refine L_move rfl rfl ?_
            first | refine L_geq rfl rfl rfl (dtrue (by omega)) ?_ | refine L_geq rfl rfl rfl (dfalse (by omega)) ?_ | refine L_geq rfl rfl rfl rfl ?_
            refine L_move rfl rfl ?_
            first | (refine RL_want rfl rfl ?_; refine L_move rfl rfl ?_) | refine RL_skip rfl rfl rfl rfl ?_ | refine RL_skipU rfl rfl rfl ?_
            first | (refine RL_want rfl rfl ?_; refine L_move rfl rfl ?_) | refine RL_skip rfl rfl rfl rfl ?_ | refine RL_skipU rfl rfl rfl ?_
            first | (refine RL_want rfl rfl ?_; refine L_len rfl Try.underlying22 rfl ?_) | refine RL_skip rfl rfl rfl rfl ?_ | refine RL_skipU rfl rfl rfl ?_
            first | (refine RL_want rfl rfl ?_; (first | refine L_lss rfl rfl rfl (dtrue (by omega)) ?_ | refine L_lss rfl rfl rfl (dfalse (by omega)) ?_ | refine L_lss rfl rfl rfl rfl ?_)) | refine RL_skip rfl rfl rfl rfl ?_ | refine RL_skipU rfl rfl rfl ?_
            first | refine L_pick_t rfl rfl rfl ?_ | refine L_pick_f rfl rfl rfl ?_
            refine RL_nil' ?_
            refine Nx_cutP (false, w5) (is := [0, 1, 2, 3, 4, 5, 13, 14, 15, 16, 18, 86]) (I' := (fun (ok : Bool) (w : World) => (HS w5 w []) ∧ (ok = true → 0 ≤ row ∧ row < k)) (false) (w5)) rfl rfl rfl ?_
            exact ⟨hs, fun h => by cases h⟩
        · refine W_region ?_
          refine L_move rfl rfl ?_
          first | refine L_geq rfl rfl rfl (dtrue (by omega)) ?_ | refine L_geq rfl rfl rfl (dfalse (by omega)) ?_ | refine L_geq rfl rfl rfl rfl ?_
          refine L_move rfl rfl ?_
          first | (refine RL_want rfl rfl ?_; refine L_move rfl rfl ?_) | refine RL_skip rfl rfl rfl rfl ?_ | refine RL_skipU rfl rfl rfl ?_
          first | (refine RL_want rfl rfl ?_; refine L_move rfl rfl ?_) | refine RL_skip rfl rfl rfl rfl ?_ | refine RL_skipU rfl rfl rfl ?_
          first | (refine RL_want rfl rfl ?_; refine L_len rfl Try.underlying22 rfl ?_) | refine RL_skip rfl rfl rfl rfl ?_ | refine RL_skipU rfl rfl rfl ?_
          first | (refine RL_want rfl rfl ?_; (first | refine L_lss rfl rfl rfl (dtrue (by omega)) ?_ | refine L_lss rfl rfl rfl (dfalse (by omega)) ?_ | refine L_lss rfl rfl rfl rfl ?_)) | refine RL_skip rfl rfl rfl rfl ?_ | refine RL_skipU rfl rfl rfl ?_
          first | refine L_pick_t rfl rfl rfl ?_ | refine L_pick_f rfl rfl rfl ?_
          refine RL_nil' ?_
          refine Nx_cutP (false, w5) (is := [0, 1, 2, 3, 4, 5, 13, 14, 15, 16, 18, 86]) (I' := (fun (ok : Bool) (w : World) => (HS w5 w []) ∧ (ok = true → 0 ≤ row ∧ row < k)) (false) (w5)) rfl rfl rfl ?_
          exact ⟨hs, fun h => by cases h⟩
      · clear hs
        intro ok w hI
        show W _ _ _ _ [(0, .slice a k cp), (1, .int .i64 row), (2, .int .i64 more), (3, .int .i64 p), (4, .int .i64 q), (5, .slice ac kc cc), (13, .int .i64 n), (14, .slice qm ms.length cm), (15, .int .i64 t), (16, .int .i64 e), (18, .int .i64 cnt), (86, .bool ok)] w
        obtain ⟨hs, hok⟩ := hI
        refine W_cut1 (fun (w : World) => [(0, .slice a k cp), (1, .int .i64 row), (2, .int .i64 more), (3, .int .i64 p), (4, .int .i64 q), (5, .slice ac kc cc), (13, .int .i64 n), (14, .slice qm ms.length cm), (15, .int .i64 t), (16, .int .i64 e), (18, .int .i64 cnt)]) (fun (w : World) => w) (fun (w : World) => (HS w5 w [])) ?_ ?_
        · cases ok
          · refine W_if_false rfl ?_
            refine W_skip' ?_
            refine Nx_cutP (w) (is := [0, 1, 2, 3, 4, 5, 13, 14, 15, 16, 18]) (I' := (fun (w : World) => (HS w5 w [])) (w)) rfl rfl rfl ?_
            exact hs
          · obtain ⟨h1, h2⟩ := hok rfl
            obtain ⟨r, rfl⟩ := Int.eq_ofNat_of_zero_le h1
            have hrk : r < k := by omega
            refine W_if_true rfl ?_
            refine W_seq ?_
            refine W_region ?_
            refine L_move rfl rfl ?_
            refine L_call rfl Try.fun14 rfl (own_ok a k cp rows rvs w (hr.old hs Own.nil) hk (by omega) hlen6) ?_
            rintro v6 w6 ⟨vs, Mo, Ms, hs1, hbo, hrb⟩
            have hsz := hs.size
            replace hs := hs.call hs1 (hbo.own.app (hrb.imp fun _ _ _ h => p77.bl h).own)
            rw [List.nil_append] at hs
            replace hbo := hbo.mono hsz
            replace hrb := hrb.imp (q := p77 w5) fun _ _ _ h => p77.mono h hsz
            clear hs1 hsz hok h1 h2
            obtain ⟨B, capB, spB, rfl, rfl, hB, _⟩ := hbo.own_row (by omega)
            obtain ⟨v, M, Mr, hvr, ⟨g, cap, sp, rfl, rfl, hg, hcap⟩, hpm, hset⟩ := hrb.at r (by omega)
            rw [hw r hrk] at hvr hcap
            have hvl := hrb.len
            have hOr : Own w5 Ms := (hrb.imp fun _ _ _ h => p77.bl h).own
            have hOr : Own w5 Mr := fun x hx => hOr x (hpm.mem_iff.2 (List.mem_append_left _ hx))
            replace hs := hs.mem_perm (L' := (B, Row 38 (vs ++ spB)) :: (g, Row 2 (il (rows.getD r []) ++ .int .i64 77 :: sp)) :: Mr) (List.Perm.cons _ (hpm.trans (List.perm_append_comm (l₂ := [_]))))
            have hO : ∀ {R : List Int}, Own w5 ((B, Row 38 (vs ++ spB)) :: (g, Row 2 (il R ++ .int .i64 77 :: sp)) :: Mr) := Own.cons hB (Own.cons hg hOr)
            have hvr' : (vs ++ spB)[r]? = some (.slice (some ⟨g, 0, none⟩) n cap) := by rw [List.getElem?_append_left (by omega)]; exact hvr
            obtain ⟨R0, hR0⟩ : ∃ R0, R0 = rows.getD r [] := ⟨_, rfl⟩
            have hR0l : R0.length = n := by rw [hR0]; exact hw r hrk
            rw [← hR0] at hs
            have hRc : ∀ j, j < n → R0.getD j 0 ≤ 1099511627776 := fun j hj => by rw [hR0]; exact hcost r j hrk hj
            refine L_assign rfl rfl ?_
            refine RL_then ?_
            refine W_seq ?_
            refine W_cut2 (fun (ok : Bool) (w : World) => [(0, .slice a k cp), (1, .int .i64 (r : Int)), (2, .int .i64 more), (3, .int .i64 p), (4, .int .i64 q), (5, .slice ac kc cc), (13, .int .i64 n), (14, .slice qm ms.length cm), (15, .int .i64 t), (16, .int .i64 e), (18, .int .i64 cnt), (21, .slice (some ⟨B, 0, none⟩) k capB), (22, .bool ok)]) (fun (ok : Bool) (w : World) => w) (fun (ok : Bool) (w : World) => (HS w5 w ((B, Row 38 (vs ++ spB)) :: (g, Row 2 (il R0 ++ .int .i64 77 :: sp)) :: Mr)) ∧ (ok = true → -1099511627776 ≤ more ∧ more ≤ 1099511627776)) ?_ ?_
            · by_cases h1 : -1099511627776 ≤ more
              · by_cases h2 : more ≤ 1099511627776
                · refine W_region ?_
                  refine L_move rfl rfl ?_
                  first | refine L_geq rfl rfl rfl (dtrue (by omega)) ?_ | refine L_geq rfl rfl rfl (dfalse (by omega)) ?_ | refine L_geq rfl rfl rfl rfl ?_
                  refine L_move rfl rfl ?_
                  first | (refine RL_want rfl rfl ?_; refine L_move rfl rfl ?_) | refine RL_skip rfl rfl rfl rfl ?_ | refine RL_skipU rfl rfl rfl ?_
                  first | (refine RL_want rfl rfl ?_; (first | refine L_leq rfl rfl rfl (dtrue (by omega)) ?_ | refine L_leq rfl rfl rfl (dfalse (by omega)) ?_ | refine L_leq rfl rfl rfl rfl ?_)) | refine RL_skip rfl rfl rfl rfl ?_ | refine RL_skipU rfl rfl rfl ?_
                  first | refine L_pick_t rfl rfl rfl ?_ | refine L_pick_f rfl rfl rfl ?_
                  refine L_assign rfl rfl ?_
                  refine RL_nil' ?_
                  refine Nx_cutP (true, w6) (is := [0, 1, 2, 3, 4, 5, 13, 14, 15, 16, 18, 21, 22]) (I' := (fun (ok : Bool) (w : World) => (HS w5 w ((B, Row 38 (vs ++ spB)) :: (g, Row 2 (il R0 ++ .int .i64 77 :: sp)) :: Mr)) ∧ (ok = true → -1099511627776 ≤ more ∧ more ≤ 1099511627776)) (true) (w6)) rfl rfl rfl ?_
                  exact ⟨hs, fun _ => ⟨h1, h2⟩⟩
                · refine W_region ?_
                  refine L_move rfl rfl ?_
                  first | refine L_geq rfl rfl rfl (dtrue (by omega)) ?_ | refine L_geq rfl rfl rfl (dfalse (by omega)) ?_ | refine L_geq rfl rfl rfl rfl ?_
                  refine L_move rfl rfl ?_
                  first | (refine RL_want rfl rfl ?_; refine L_move rfl rfl ?_) | refine RL_skip rfl rfl rfl rfl ?_ | refine RL_skipU rfl rfl rfl ?_
                  first | (refine RL_want rfl rfl ?_; (first | refine L_leq rfl rfl rfl (dtrue (by omega)) ?_ | refine L_leq rfl rfl rfl (dfalse (by omega)) ?_ | refine L_leq rfl rfl rfl rfl ?_)) | refine RL_skip rfl rfl rfl rfl ?_ | refine RL_skipU rfl rfl rfl ?_
                  first | refine L_pick_t rfl rfl rfl ?_ | refine L_pick_f rfl rfl rfl ?_
                  refine L_assign rfl rfl ?_
                  refine RL_nil' ?_
                  refine Nx_cutP (false, w6) (is := [0, 1, 2, 3, 4, 5, 13, 14, 15, 16, 18, 21, 22]) (I' := (fun (ok : Bool) (w : World) => (HS w5 w ((B, Row 38 (vs ++ spB)) :: (g, Row 2 (il R0 ++ .int .i64 77 :: sp)) :: Mr)) ∧ (ok = true → -1099511627776 ≤ more ∧ more ≤ 1099511627776)) (false) (w6)) rfl rfl rfl ?_
                  exact ⟨hs, fun h => by cases h⟩
              · refine W_region ?_
                refine L_move rfl rfl ?_
                first | refine L_geq rfl rfl rfl (dtrue (by omega)) ?_ | refine L_geq rfl rfl rfl (dfalse (by omega)) ?_ | refine L_geq rfl rfl rfl rfl ?_
                refine L_move rfl rfl ?_
                first | (refine RL_want rfl rfl ?_; refine L_move rfl rfl ?_) | refine RL_skip rfl rfl rfl rfl ?_ | refine RL_skipU rfl rfl rfl ?_
                first | (refine RL_want rfl rfl ?_; (first | refine L_leq rfl rfl rfl (dtrue (by omega)) ?_ | refine L_leq rfl rfl rfl (dfalse (by omega)) ?_ | refine L_leq rfl rfl rfl rfl ?_)) | refine RL_skip rfl rfl rfl rfl ?_ | refine RL_skipU rfl rfl rfl ?_
                first | refine L_pick_t rfl rfl rfl ?_ | refine L_pick_f rfl rfl rfl ?_
                refine L_assign rfl rfl ?_
                refine RL_nil' ?_
                refine Nx_cutP (false, w6) (is := [0, 1, 2, 3, 4, 5, 13, 14, 15, 16, 18, 21, 22]) (I' := (fun (ok : Bool) (w : World) => (HS w5 w ((B, Row 38 (vs ++ spB)) :: (g, Row 2 (il R0 ++ .int .i64 77 :: sp)) :: Mr)) ∧ (ok = true → -1099511627776 ≤ more ∧ more ≤ 1099511627776)) (false) (w6)) rfl rfl rfl ?_
                exact ⟨hs, fun h => by cases h⟩
            · clear hs
              intro ok w hI
              show W _ _ _ _ [(0, .slice a k cp), (1, .int .i64 (r : Int)), (2, .int .i64 more), (3, .int .i64 p), (4, .int .i64 q), (5, .slice ac kc cc), (13, .int .i64 n), (14, .slice qm ms.length cm), (15, .int .i64 t), (16, .int .i64 e), (18, .int .i64 cnt), (21, .slice (some ⟨B, 0, none⟩) k capB), (22, .bool ok)] w
              obtain ⟨hs, hok⟩ := hI
              refine W_seq ?_
              refine W_seq ?_
              refine W_region ?_
              refine L_move rfl rfl ?_
              refine L_move rfl rfl ?_
              refine L_idx1 rfl Try.underlying22 Try.ti38 rfl rfl (by with_reducible first | exact natc_k _ | exact natc_a1 _ | exact natc_0 | exact natc_1 | exact natc_2 | exact natc_s1 _ (by omega) | exact natc_a2 _ | exact natc_add _ _ | exact natc_mul _ _ | exact natc (by omega)) (by omega) rfl ?_
              refine L_load rfl Try.one38 rfl (by exact hs.cellA (i := 0) rfl hvr') ?_
              refine L_len rfl Try.underlying38 rfl ?_
              refine L_move rfl rfl ?_
              refine RL_then ?_
              refine W_block ?_
              refine W_loop4 (fun (j : Nat) (ok : Bool) (R : List Int) (w : World) => [(0, .slice a k cp), (1, .int .i64 (r : Int)), (2, .int .i64 more), (3, .int .i64 p), (4, .int .i64 q), (5, .slice ac kc cc), (13, .int .i64 n), (14, .slice qm ms.length cm), (15, .int .i64 t), (16, .int .i64 e), (18, .int .i64 cnt), (21, .slice (some ⟨B, 0, none⟩) k capB), (22, .bool ok), (99, .int .i64 n), (100, .int .i64 j)]) (fun (j : Nat) (ok : Bool) (R : List Int) (w : World) => w) (fun (j : Nat) (ok : Bool) (R : List Int) (w : World) => (j ≤ n) ∧ (R.length = n) ∧ (HS w5 w ((B, Row 38 (vs ++ spB)) :: (g, Row 2 (il R ++ .int .i64 77 :: sp)) :: Mr)) ∧ (ok = true → (-1099511627776 ≤ more ∧ more ≤ 1099511627776) ∧ (∀ z, z < j → (R0.getD z 0 < 0 ∧ R.getD z 0 = R0.getD z 0) ∨ (0 ≤ R0.getD z 0 ∧ 0 ≤ R0.getD z 0 + more ∧ R0.getD z 0 + more ≤ 1099511627776 ∧ R.getD z 0 = R0.getD z 0 + more)) ∧ ∀ z, j ≤ z → R.getD z 0 = R0.getD z 0)) (fun (j : Nat) (ok : Bool) (R : List Int) (w : World) => n - j) (0) (ok) (R0) (w) (is := [0, 1, 2, 3, 4, 5, 13, 14, 15, 16, 18, 21, 22, 99, 100]) rfl rfl ?_ ?_
              · exact ⟨Nat.zero_le _, hR0l, hs, fun h => ⟨hok h, fun _ h => absurd h (Nat.not_lt_zero _), fun _ _ => rfl⟩⟩
              · clear hs hok
                intro j ok R w hI
                show W _ _ _ _ [(0, .slice a k cp), (1, .int .i64 (r : Int)), (2, .int .i64 more), (3, .int .i64 p), (4, .int .i64 q), (5, .slice ac kc cc), (13, .int .i64 n), (14, .slice qm ms.length cm), (15, .int .i64 t), (16, .int .i64 e), (18, .int .i64 cnt), (21, .slice (some ⟨B, 0, none⟩) k capB), (22, .bool ok), (99, .int .i64 n), (100, .int .i64 j)] w
                obtain ⟨hj, hRl, hs, hok⟩ := hI
                by_cases hlt : j < n
                · have hgj : (il R ++ .int .i64 77 :: sp)[j]? = some (.int .i64 (R.getD j 0)) := il_get' (by omega)
                  by_cases hc0 : 0 ≤ R.getD j 0
                  · cases ok
                    · refine W_seq ?_
                      refine W_region ?_
                      first | refine L_lss rfl rfl rfl (dtrue (by omega)) ?_ | refine L_lss rfl rfl rfl (dfalse (by omega)) ?_ | refine L_lss rfl rfl rfl rfl ?_
                      refine RL_then ?_
                      refine W_seq ?_
                      refine W_if_true rfl ?_
                      refine W_skip' ?_
                      refine Nx_then ?_
                      refine W_seq ?_
                      refine W_block ?_
                      refine W_seq ?_
                      refine W_region ?_
                      refine L_move rfl rfl ?_
                      refine L_assign rfl rfl ?_
                      refine RL_then ?_
                      refine W_seq ?_
                      refine W_region ?_
                      refine L_move rfl rfl ?_
                      refine L_move rfl rfl ?_
                      refine L_idx1 rfl Try.underlying22 Try.ti38 rfl rfl (by with_reducible first | exact natc_k _ | exact natc_a1 _ | exact natc_0 | exact natc_1 | exact natc_2 | exact natc_s1 _ (by omega) | exact natc_a2 _ | exact natc_add _ _ | exact natc_mul _ _ | exact natc (by omega)) (by omega) rfl ?_
                      refine L_load rfl Try.one38 rfl (by first | exact hs.cellA (i := 0) rfl hvr' | exact hs.cellA (i := 1) rfl hgj) ?_
                      refine L_move rfl rfl ?_
                      refine L_idx1 rfl Try.underlying38 Try.ti2 rfl rfl (by with_reducible first | exact natc_k _ | exact natc_a1 _ | exact natc_0 | exact natc_1 | exact natc_2 | exact natc_s1 _ (by omega) | exact natc_a2 _ | exact natc_add _ _ | exact natc_mul _ _ | exact natc (by omega)) (by omega) rfl ?_
                      refine L_load rfl Try.one2 rfl (by first | exact hs.cellA (i := 0) rfl hvr' | exact hs.cellA (i := 1) rfl hgj) ?_
                      first | refine L_geq rfl rfl rfl (dtrue (by omega)) ?_ | refine L_geq rfl rfl rfl (dfalse (by omega)) ?_ | refine L_geq rfl rfl rfl rfl ?_
                      refine L_move rfl rfl ?_
                      first | (refine RL_want rfl rfl ?_; refine L_move rfl rfl ?_) | refine RL_skip rfl rfl rfl rfl ?_ | refine RL_skipU rfl rfl rfl ?_
                      first | refine L_pick_t rfl rfl rfl ?_ | refine L_pick_f rfl rfl rfl ?_
                      refine RL_then ?_
                      refine W_if_false rfl ?_
                      refine W_skip' ?_
                      refine Nx_block ?_
                      refine Nx_then ?_
                      refine W_region ?_
                      first | refine L_add rfl rfl rfl (wrp_i64 (by omega)) ?_ | refine L_add rfl rfl rfl rfl ?_
                      refine L_move rfl rfl ?_
                      refine RL_nil' ?_
                      refine Nx_loopP (j + 1, false, R, w) (is := [0, 1, 2, 3, 4, 5, 13, 14, 15, 16, 18, 21, 22, 99, 100]) (I' := (fun (j : Nat) (ok : Bool) (R : List Int) (w : World) => (j ≤ n) ∧ (R.length = n) ∧ (HS w5 w ((B, Row 38 (vs ++ spB)) :: (g, Row 2 (il R ++ .int .i64 77 :: sp)) :: Mr)) ∧ (ok = true → (-1099511627776 ≤ more ∧ more ≤ 1099511627776) ∧ (∀ z, z < j → (R0.getD z 0 < 0 ∧ R.getD z 0 = R0.getD z 0) ∨ (0 ≤ R0.getD z 0 ∧ 0 ≤ R0.getD z 0 + more ∧ R0.getD z 0 + more ≤ 1099511627776 ∧ R.getD z 0 = R0.getD z 0 + more)) ∧ ∀ z, j ≤ z → R.getD z 0 = R0.getD z 0)) (j + 1) (false) (R) (w)) rfl rfl rfl ?_ ?_
                      · exact ⟨by omega, hRl, hs, fun h => by cases h⟩
                      · omega
                    · obtain ⟨⟨m1, m2⟩, hA, hB2⟩ := hok rfl
                      have hRj := hB2 j (Nat.le_refl _)
                      have hcj := hRc j hlt
                      refine W_seq ?_
                      refine W_region ?_
                      first | refine L_lss rfl rfl rfl (dtrue (by omega)) ?_ | refine L_lss rfl rfl rfl (dfalse (by omega)) ?_ | refine L_lss rfl rfl rfl rfl ?_
                      refine RL_then ?_
                      refine W_seq ?_
                      refine W_if_true rfl ?_
                      refine W_skip' ?_
                      refine Nx_then ?_
                      refine W_seq ?_
                      refine W_block ?_
                      refine W_seq ?_
                      refine W_region ?_
                      refine L_move rfl rfl ?_
                      refine L_assign rfl rfl ?_
                      refine RL_then ?_
                      refine W_seq ?_
                      refine W_region ?_
                      refine L_move rfl rfl ?_
                      refine L_move rfl rfl ?_
                      refine L_idx1 rfl Try.underlying22 Try.ti38 rfl rfl (by with_reducible first | exact natc_k _ | exact natc_a1 _ | exact natc_0 | exact natc_1 | exact natc_2 | exact natc_s1 _ (by omega) | exact natc_a2 _ | exact natc_add _ _ | exact natc_mul _ _ | exact natc (by omega)) (by omega) rfl ?_
                      refine L_load rfl Try.one38 rfl (by first | exact hs.cellA (i := 0) rfl hvr' | exact hs.cellA (i := 1) rfl hgj) ?_
                      refine L_move rfl rfl ?_
                      refine L_idx1 rfl Try.underlying38 Try.ti2 rfl rfl (by with_reducible first | exact natc_k _ | exact natc_a1 _ | exact natc_0 | exact natc_1 | exact natc_2 | exact natc_s1 _ (by omega) | exact natc_a2 _ | exact natc_add _ _ | exact natc_mul _ _ | exact natc (by omega)) (by omega) rfl ?_
                      refine L_load rfl Try.one2 rfl (by first | exact hs.cellA (i := 0) rfl hvr' | exact hs.cellA (i := 1) rfl hgj) ?_
                      first | refine L_geq rfl rfl rfl (dtrue (by omega)) ?_ | refine L_geq rfl rfl rfl (dfalse (by omega)) ?_ | refine L_geq rfl rfl rfl rfl ?_
                      refine L_move rfl rfl ?_
                      first | (refine RL_want rfl rfl ?_; refine L_move rfl rfl ?_) | refine RL_skip rfl rfl rfl rfl ?_ | refine RL_skipU rfl rfl rfl ?_
                      first | refine L_pick_t rfl rfl rfl ?_ | refine L_pick_f rfl rfl rfl ?_
                      refine RL_then ?_
                      refine W_if_true rfl ?_
                      refine W_seq ?_
                      refine W_region ?_
                      refine L_move rfl rfl ?_
                      refine L_move rfl rfl ?_
                      refine L_idx1 rfl Try.underlying22 Try.ti38 rfl rfl (by with_reducible first | exact natc_k _ | exact natc_a1 _ | exact natc_0 | exact natc_1 | exact natc_2 | exact natc_s1 _ (by omega) | exact natc_a2 _ | exact natc_add _ _ | exact natc_mul _ _ | exact natc (by omega)) (by omega) rfl ?_
                      refine L_load rfl Try.one38 rfl (by first | exact hs.cellA (i := 0) rfl hvr' | exact hs.cellA (i := 1) rfl hgj) ?_
                      refine L_move rfl rfl ?_
                      refine L_idx1 rfl Try.underlying38 Try.ti2 rfl rfl (by with_reducible first | exact natc_k _ | exact natc_a1 _ | exact natc_0 | exact natc_1 | exact natc_2 | exact natc_s1 _ (by omega) | exact natc_a2 _ | exact natc_add _ _ | exact natc_mul _ _ | exact natc (by omega)) (by omega) rfl ?_
                      refine L_load rfl Try.one2 rfl (by first | exact hs.cellA (i := 0) rfl hvr' | exact hs.cellA (i := 1) rfl hgj) ?_
                      refine L_move rfl rfl ?_
                      first | refine L_add rfl rfl rfl (wrp_i64 (by omega)) ?_ | refine L_add rfl rfl rfl rfl ?_
                      refine L_idx1 rfl Try.underlying38 Try.ti2 rfl rfl (by with_reducible first | exact natc_k _ | exact natc_a1 _ | exact natc_0 | exact natc_1 | exact natc_2 | exact natc_s1 _ (by omega) | exact natc_a2 _ | exact natc_add _ _ | exact natc_mul _ _ | exact natc (by omega)) (by omega) rfl ?_
                      refine L_store hs (i := 1) rfl Try.ti2 rfl rfl (by first | rfl | exact add_lit0 _ _ | exact Addr.add_lit ..) (by simp; omega) rfl ?_
                      intro w hs
                      try dsimp only [List.set_cons_succ, List.set_cons_zero, List.cons_append, List.nil_append] at hs
                      refine RL_then ?_
                      refine W_region ?_
                      rw [il_set' _ _ _ _ (by omega)] at hs
                      have hRl' : (R.set j (R.getD j 0 + more)).length = n := by simp [hRl]
                      have hgj' : (il (R.set j (R.getD j 0 + more)) ++ .int .i64 77 :: sp)[j]? = some (.int .i64 (R.getD j 0 + more)) := by rw [il_get' (by omega), getD_set_eq (by omega)]
                      by_cases hc1 : 0 ≤ R.getD j 0 + more
                      · by_cases hc2 : R.getD j 0 + more ≤ 1099511627776
                        · refine L_move rfl rfl ?_
                          refine L_move rfl rfl ?_
                          refine L_idx1 rfl Try.underlying22 Try.ti38 rfl rfl (by with_reducible first | exact natc_k _ | exact natc_a1 _ | exact natc_0 | exact natc_1 | exact natc_2 | exact natc_s1 _ (by omega) | exact natc_a2 _ | exact natc_add _ _ | exact natc_mul _ _ | exact natc (by omega)) (by omega) rfl ?_
                          refine L_load rfl Try.one38 rfl (by first | exact hs.cellA (i := 0) rfl hvr' | exact hs.cellA (i := 1) rfl hgj') ?_
                          refine L_move rfl rfl ?_
                          refine L_idx1 rfl Try.underlying38 Try.ti2 rfl rfl (by with_reducible first | exact natc_k _ | exact natc_a1 _ | exact natc_0 | exact natc_1 | exact natc_2 | exact natc_s1 _ (by omega) | exact natc_a2 _ | exact natc_add _ _ | exact natc_mul _ _ | exact natc (by omega)) (by omega) rfl ?_
                          refine L_load rfl Try.one2 rfl (by first | exact hs.cellA (i := 0) rfl hvr' | exact hs.cellA (i := 1) rfl hgj') ?_
                          first | refine L_geq rfl rfl rfl (dtrue (by omega)) ?_ | refine L_geq rfl rfl rfl (dfalse (by omega)) ?_ | refine L_geq rfl rfl rfl rfl ?_
                          refine L_move rfl rfl ?_
                          first | (refine RL_want rfl rfl ?_; refine L_move rfl rfl ?_) | refine RL_skip rfl rfl rfl rfl ?_ | refine RL_skipU rfl rfl rfl ?_
                          first | (refine RL_want rfl rfl ?_; refine L_move rfl rfl ?_) | refine RL_skip rfl rfl rfl rfl ?_ | refine RL_skipU rfl rfl rfl ?_
                          first | (refine RL_want rfl rfl ?_; refine L_idx1 rfl Try.underlying22 Try.ti38 rfl rfl (by with_reducible first | exact natc_k _ | exact natc_a1 _ | exact natc_0 | exact natc_1 | exact natc_2 | exact natc_s1 _ (by omega) | exact natc_a2 _ | exact natc_add _ _ | exact natc_mul _ _ | exact natc (by omega)) (by omega) rfl ?_) | refine RL_skip rfl rfl rfl rfl ?_ | refine RL_skipU rfl rfl rfl ?_
                          first | (refine RL_want rfl rfl ?_; refine L_load rfl Try.one38 rfl (by first | exact hs.cellA (i := 0) rfl hvr' | exact hs.cellA (i := 1) rfl hgj') ?_) | refine RL_skip rfl rfl rfl rfl ?_ | refine RL_skipU rfl rfl rfl ?_
                          first | (refine RL_want rfl rfl ?_; refine L_move rfl rfl ?_) | refine RL_skip rfl rfl rfl rfl ?_ | refine RL_skipU rfl rfl rfl ?_
                          first | (refine RL_want rfl rfl ?_; refine L_idx1 rfl Try.underlying38 Try.ti2 rfl rfl (by with_reducible first | exact natc_k _ | exact natc_a1 _ | exact natc_0 | exact natc_1 | exact natc_2 | exact natc_s1 _ (by omega) | exact natc_a2 _ | exact natc_add _ _ | exact natc_mul _ _ | exact natc (by omega)) (by omega) rfl ?_) | refine RL_skip rfl rfl rfl rfl ?_ | refine RL_skipU rfl rfl rfl ?_
                          first | (refine RL_want rfl rfl ?_; refine L_load rfl Try.one2 rfl (by first | exact hs.cellA (i := 0) rfl hvr' | exact hs.cellA (i := 1) rfl hgj') ?_) | refine RL_skip rfl rfl rfl rfl ?_ | refine RL_skipU rfl rfl rfl ?_
                          first | (refine RL_want rfl rfl ?_; (first | refine L_leq rfl rfl rfl (dtrue (by omega)) ?_ | refine L_leq rfl rfl rfl (dfalse (by omega)) ?_ | refine L_leq rfl rfl rfl rfl ?_)) | refine RL_skip rfl rfl rfl rfl ?_ | refine RL_skipU rfl rfl rfl ?_
                          first | refine L_pick_t rfl rfl rfl ?_ | refine L_pick_f rfl rfl rfl ?_
                          refine L_assign rfl rfl ?_
                          refine RL_nil' ?_
                          refine Nx_block ?_
                          refine Nx_then ?_
                          refine W_region ?_
                          first | refine L_add rfl rfl rfl (wrp_i64 (by omega)) ?_ | refine L_add rfl rfl rfl rfl ?_
                          refine L_move rfl rfl ?_
                          refine RL_nil' ?_
                          refine Nx_loopP (j + 1, true, R.set j (R.getD j 0 + more), w) (is := [0, 1, 2, 3, 4, 5, 13, 14, 15, 16, 18, 21, 22, 99, 100]) (I' := (fun (j : Nat) (ok : Bool) (R : List Int) (w : World) => (j ≤ n) ∧ (R.length = n) ∧ (HS w5 w ((B, Row 38 (vs ++ spB)) :: (g, Row 2 (il R ++ .int .i64 77 :: sp)) :: Mr)) ∧ (ok = true → (-1099511627776 ≤ more ∧ more ≤ 1099511627776) ∧ (∀ z, z < j → (R0.getD z 0 < 0 ∧ R.getD z 0 = R0.getD z 0) ∨ (0 ≤ R0.getD z 0 ∧ 0 ≤ R0.getD z 0 + more ∧ R0.getD z 0 + more ≤ 1099511627776 ∧ R.getD z 0 = R0.getD z 0 + more)) ∧ ∀ z, j ≤ z → R.getD z 0 = R0.getD z 0)) (j + 1) (true) (R.set j (R.getD j 0 + more)) (w)) rfl rfl rfl ?_ ?_
                          · refine ⟨by omega, hRl', hs, fun _ => ⟨⟨m1, m2⟩, fun z hz => ?_, fun z hz => by rw [getD_set_ne2 (by omega)]; exact hB2 z (by omega)⟩⟩
                            by_cases hzj : z = j
                            · subst hzj
                              rw [getD_set_eq (by omega), hRj]
                              rw [hRj] at hc0 hc1 hc2
                              exact .inr ⟨hc0, hc1, hc2, rfl⟩
                            · rw [getD_set_ne2 hzj]; exact hA z (by omega)
                          · omega
                        · refine L_move rfl rfl ?_
                          refine L_move rfl rfl ?_
                          refine L_idx1 rfl Try.underlying22 Try.ti38 rfl rfl (by with_reducible first | exact natc_k _ | exact natc_a1 _ | exact natc_0 | exact natc_1 | exact natc_2 | exact natc_s1 _ (by omega) | exact natc_a2 _ | exact natc_add _ _ | exact natc_mul _ _ | exact natc (by omega)) (by omega) rfl ?_
                          refine L_load rfl Try.one38 rfl (by first | exact hs.cellA (i := 0) rfl hvr' | exact hs.cellA (i := 1) rfl hgj') ?_
                          refine L_move rfl rfl ?_
                          refine L_idx1 rfl Try.underlying38 Try.ti2 rfl rfl (by with_reducible first | exact natc_k _ | exact natc_a1 _ | exact natc_0 | exact natc_1 | exact natc_2 | exact natc_s1 _ (by omega) | exact natc_a2 _ | exact natc_add _ _ | exact natc_mul _ _ | exact natc (by omega)) (by omega) rfl ?_
                          refine L_load rfl Try.one2 rfl (by first | exact hs.cellA (i := 0) rfl hvr' | exact hs.cellA (i := 1) rfl hgj') ?_
                          first | refine L_geq rfl rfl rfl (dtrue (by omega)) ?_ | refine L_geq rfl rfl rfl (dfalse (by omega)) ?_ | refine L_geq rfl rfl rfl rfl ?_
                          refine L_move rfl rfl ?_
                          first | (refine RL_want rfl rfl ?_; refine L_move rfl rfl ?_) | refine RL_skip rfl rfl rfl rfl ?_ | refine RL_skipU rfl rfl rfl ?_
                          first | (refine RL_want rfl rfl ?_; refine L_move rfl rfl ?_) | refine RL_skip rfl rfl rfl rfl ?_ | refine RL_skipU rfl rfl rfl ?_
                          first | (refine RL_want rfl rfl ?_; refine L_idx1 rfl Try.underlying22 Try.ti38 rfl rfl (by with_reducible first | exact natc_k _ | exact natc_a1 _ | exact natc_0 | exact natc_1 | exact natc_2 | exact natc_s1 _ (by omega) | exact natc_a2 _ | exact natc_add _ _ | exact natc_mul _ _ | exact natc (by omega)) (by omega) rfl ?_) | refine RL_skip rfl rfl rfl rfl ?_ | refine RL_skipU rfl rfl rfl ?_
                          first | (refine RL_want rfl rfl ?_; refine L_load rfl Try.one38 rfl (by first | exact hs.cellA (i := 0) rfl hvr' | exact hs.cellA (i := 1) rfl hgj') ?_) | refine RL_skip rfl rfl rfl rfl ?_ | refine RL_skipU rfl rfl rfl ?_
                          first | (refine RL_want rfl rfl ?_; refine L_move rfl rfl ?_) | refine RL_skip rfl rfl rfl rfl ?_ | refine RL_skipU rfl rfl rfl ?_
                          first | (refine RL_want rfl rfl ?_; refine L_idx1 rfl Try.underlying38 Try.ti2 rfl rfl (by with_reducible first | exact natc_k _ | exact natc_a1 _ | exact natc_0 | exact natc_1 | exact natc_2 | exact natc_s1 _ (by omega) | exact natc_a2 _ | exact natc_add _ _ | exact natc_mul _ _ | exact natc (by omega)) (by omega) rfl ?_) | refine RL_skip rfl rfl rfl rfl ?_ | refine RL_skipU rfl rfl rfl ?_
                          first | (refine RL_want rfl rfl ?_; refine L_load rfl Try.one2 rfl (by first | exact hs.cellA (i := 0) rfl hvr' | exact hs.cellA (i := 1) rfl hgj') ?_) | refine RL_skip rfl rfl rfl rfl ?_ | refine RL_skipU rfl rfl rfl ?_
                          first | (refine RL_want rfl rfl ?_; (first | refine L_leq rfl rfl rfl (dtrue (by omega)) ?_ | refine L_leq rfl rfl rfl (dfalse (by omega)) ?_ | refine L_leq rfl rfl rfl rfl ?_)) | refine RL_skip rfl rfl rfl rfl ?_ | refine RL_skipU rfl rfl rfl ?_
                          first | refine L_pick_t rfl rfl rfl ?_ | refine L_pick_f rfl rfl rfl ?_
                          refine L_assign rfl rfl ?_
                          refine RL_nil' ?_
                          refine Nx_block ?_
                          refine Nx_then ?_
                          refine W_region ?_
                          first | refine L_add rfl rfl rfl (wrp_i64 (by omega)) ?_ | refine L_add rfl rfl rfl rfl ?_
                          refine L_move rfl rfl ?_
                          refine RL_nil' ?_
                          refine Nx_loopP (j + 1, false, R.set j (R.getD j 0 + more), w) (is := [0, 1, 2, 3, 4, 5, 13, 14, 15, 16, 18, 21, 22, 99, 100]) (I' := (fun (j : Nat) (ok : Bool) (R : List Int) (w : World) => (j ≤ n) ∧ (R.length = n) ∧ (HS w5 w ((B, Row 38 (vs ++ spB)) :: (g, Row 2 (il R ++ .int .i64 77 :: sp)) :: Mr)) ∧ (ok = true → (-1099511627776 ≤ more ∧ more ≤ 1099511627776) ∧ (∀ z, z < j → (R0.getD z 0 < 0 ∧ R.getD z 0 = R0.getD z 0) ∨ (0 ≤ R0.getD z 0 ∧ 0 ≤ R0.getD z 0 + more ∧ R0.getD z 0 + more ≤ 1099511627776 ∧ R.getD z 0 = R0.getD z 0 + more)) ∧ ∀ z, j ≤ z → R.getD z 0 = R0.getD z 0)) (j + 1) (false) (R.set j (R.getD j 0 + more)) (w)) rfl rfl rfl ?_ ?_
                          · exact ⟨by omega, hRl', hs, fun h => by cases h⟩
                          · omega
                      · refine L_move rfl rfl ?_
                        refine L_move rfl rfl ?_
                        refine L_idx1 rfl Try.underlying22 Try.ti38 rfl rfl (by with_reducible first | exact natc_k _ | exact natc_a1 _ | exact natc_0 | exact natc_1 | exact natc_2 | exact natc_s1 _ (by omega) | exact natc_a2 _ | exact natc_add _ _ | exact natc_mul _ _ | exact natc (by omega)) (by omega) rfl ?_
                        refine L_load rfl Try.one38 rfl (by first | exact hs.cellA (i := 0) rfl hvr' | exact hs.cellA (i := 1) rfl hgj') ?_
                        refine L_move rfl rfl ?_
                        refine L_idx1 rfl Try.underlying38 Try.ti2 rfl rfl (by with_reducible first | exact natc_k _ | exact natc_a1 _ | exact natc_0 | exact natc_1 | exact natc_2 | exact natc_s1 _ (by omega) | exact natc_a2 _ | exact natc_add _ _ | exact natc_mul _ _ | exact natc (by omega)) (by omega) rfl ?_
                        refine L_load rfl Try.one2 rfl (by first | exact hs.cellA (i := 0) rfl hvr' | exact hs.cellA (i := 1) rfl hgj') ?_
                        first | refine L_geq rfl rfl rfl (dtrue (by omega)) ?_ | refine L_geq rfl rfl rfl (dfalse (by omega)) ?_ | refine L_geq rfl rfl rfl rfl ?_
                        refine L_move rfl rfl ?_
                        first | (refine RL_want rfl rfl ?_; refine L_move rfl rfl ?_) | refine RL_skip rfl rfl rfl rfl ?_ | refine RL_skipU rfl rfl rfl ?_
                        first | (refine RL_want rfl rfl ?_; refine L_move rfl rfl ?_) | refine RL_skip rfl rfl rfl rfl ?_ | refine RL_skipU rfl rfl rfl ?_
                        first | (refine RL_want rfl rfl ?_; refine L_idx1 rfl Try.underlying22 Try.ti38 rfl rfl (by with_reducible first | exact natc_k _ | exact natc_a1 _ | exact natc_0 | exact natc_1 | exact natc_2 | exact natc_s1 _ (by omega) | exact natc_a2 _ | exact natc_add _ _ | exact natc_mul _ _ | exact natc (by omega)) (by omega) rfl ?_) | refine RL_skip rfl rfl rfl rfl ?_ | refine RL_skipU rfl rfl rfl ?_
                        first | (refine RL_want rfl rfl ?_; refine L_load rfl Try.one38 rfl (by first | exact hs.cellA (i := 0) rfl hvr' | exact hs.cellA (i := 1) rfl hgj') ?_) | refine RL_skip rfl rfl rfl rfl ?_ | refine RL_skipU rfl rfl rfl ?_
                        first | (refine RL_want rfl rfl ?_; refine L_move rfl rfl ?_) | refine RL_skip rfl rfl rfl rfl ?_ | refine RL_skipU rfl rfl rfl ?_
                        first | (refine RL_want rfl rfl ?_; refine L_idx1 rfl Try.underlying38 Try.ti2 rfl rfl (by with_reducible first | exact natc_k _ | exact natc_a1 _ | exact natc_0 | exact natc_1 | exact natc_2 | exact natc_s1 _ (by omega) | exact natc_a2 _ | exact natc_add _ _ | exact natc_mul _ _ | exact natc (by omega)) (by omega) rfl ?_) | refine RL_skip rfl rfl rfl rfl ?_ | refine RL_skipU rfl rfl rfl ?_
                        first | (refine RL_want rfl rfl ?_; refine L_load rfl Try.one2 rfl (by first | exact hs.cellA (i := 0) rfl hvr' | exact hs.cellA (i := 1) rfl hgj') ?_) | refine RL_skip rfl rfl rfl rfl ?_ | refine RL_skipU rfl rfl rfl ?_
                        first | (refine RL_want rfl rfl ?_; (first | refine L_leq rfl rfl rfl (dtrue (by omega)) ?_ | refine L_leq rfl rfl rfl (dfalse (by omega)) ?_ | refine L_leq rfl rfl rfl rfl ?_)) | refine RL_skip rfl rfl rfl rfl ?_ | refine RL_skipU rfl rfl rfl ?_
                        first | refine L_pick_t rfl rfl rfl ?_ | refine L_pick_f rfl rfl rfl ?_
                        refine L_assign rfl rfl ?_
                        refine RL_nil' ?_
                        refine Nx_block ?_
                        refine Nx_then ?_
                        refine W_region ?_
                        first | refine L_add rfl rfl rfl (wrp_i64 (by omega)) ?_ | refine L_add rfl rfl rfl rfl ?_
                        refine L_move rfl rfl ?_
                        refine RL_nil' ?_
                        refine Nx_loopP (j + 1, false, R.set j (R.getD j 0 + more), w) (is := [0, 1, 2, 3, 4, 5, 13, 14, 15, 16, 18, 21, 22, 99, 100]) (I' := (fun (j : Nat) (ok : Bool) (R : List Int) (w : World) => (j ≤ n) ∧ (R.length = n) ∧ (HS w5 w ((B, Row 38 (vs ++ spB)) :: (g, Row 2 (il R ++ .int .i64 77 :: sp)) :: Mr)) ∧ (ok = true → (-1099511627776 ≤ more ∧ more ≤ 1099511627776) ∧ (∀ z, z < j → (R0.getD z 0 < 0 ∧ R.getD z 0 = R0.getD z 0) ∨ (0 ≤ R0.getD z 0 ∧ 0 ≤ R0.getD z 0 + more ∧ R0.getD z 0 + more ≤ 1099511627776 ∧ R.getD z 0 = R0.getD z 0 + more)) ∧ ∀ z, j ≤ z → R.getD z 0 = R0.getD z 0)) (j + 1) (false) (R.set j (R.getD j 0 + more)) (w)) rfl rfl rfl ?_ ?_
                        · exact ⟨by omega, hRl', hs, fun h => by cases h⟩
                        · omega
                  · skip
                    refine W_seq ?_
                    refine W_region ?_
                    first | refine L_lss rfl rfl rfl (dtrue (by omega)) ?_ | refine L_lss rfl rfl rfl (dfalse (by omega)) ?_ | refine L_lss rfl rfl rfl rfl ?_
                    refine RL_then ?_
                    refine W_seq ?_
                    refine W_if_true rfl ?_
                    refine W_skip' ?_
                    refine Nx_then ?_
                    refine W_seq ?_
                    refine W_block ?_
                    refine W_seq ?_
                    refine W_region ?_
                    refine L_move rfl rfl ?_
                    refine L_assign rfl rfl ?_
                    refine RL_then ?_
                    refine W_seq ?_
                    refine W_region ?_
                    refine L_move rfl rfl ?_
                    refine L_move rfl rfl ?_
                    refine L_idx1 rfl Try.underlying22 Try.ti38 rfl rfl (by with_reducible first | exact natc_k _ | exact natc_a1 _ | exact natc_0 | exact natc_1 | exact natc_2 | exact natc_s1 _ (by omega) | exact natc_a2 _ | exact natc_add _ _ | exact natc_mul _ _ | exact natc (by omega)) (by omega) rfl ?_
                    refine L_load rfl Try.one38 rfl (by first | exact hs.cellA (i := 0) rfl hvr' | exact hs.cellA (i := 1) rfl hgj) ?_
                    refine L_move rfl rfl ?_
                    refine L_idx1 rfl Try.underlying38 Try.ti2 rfl rfl (by with_reducible first | exact natc_k _ | exact natc_a1 _ | exact natc_0 | exact natc_1 | exact natc_2 | exact natc_s1 _ (by omega) | exact natc_a2 _ | exact natc_add _ _ | exact natc_mul _ _ | exact natc (by omega)) (by omega) rfl ?_
                    refine L_load rfl Try.one2 rfl (by first | exact hs.cellA (i := 0) rfl hvr' | exact hs.cellA (i := 1) rfl hgj) ?_
                    first | refine L_geq rfl rfl rfl (dtrue (by omega)) ?_ | refine L_geq rfl rfl rfl (dfalse (by omega)) ?_ | refine L_geq rfl rfl rfl rfl ?_
                    refine L_move rfl rfl ?_
                    first | (refine RL_want rfl rfl ?_; refine L_move rfl rfl ?_) | refine RL_skip rfl rfl rfl rfl ?_ | refine RL_skipU rfl rfl rfl ?_
                    first | refine L_pick_t rfl rfl rfl ?_ | refine L_pick_f rfl rfl rfl ?_
                    refine RL_then ?_
                    refine W_if_false rfl ?_
                    refine W_skip' ?_
                    refine Nx_block ?_
                    refine Nx_then ?_
                    refine W_region ?_
                    first | refine L_add rfl rfl rfl (wrp_i64 (by omega)) ?_ | refine L_add rfl rfl rfl rfl ?_
                    refine L_move rfl rfl ?_
                    refine RL_nil' ?_
                    refine Nx_loopP (j + 1, ok, R, w) (is := [0, 1, 2, 3, 4, 5, 13, 14, 15, 16, 18, 21, 22, 99, 100]) (I' := (fun (j : Nat) (ok : Bool) (R : List Int) (w : World) => (j ≤ n) ∧ (R.length = n) ∧ (HS w5 w ((B, Row 38 (vs ++ spB)) :: (g, Row 2 (il R ++ .int .i64 77 :: sp)) :: Mr)) ∧ (ok = true → (-1099511627776 ≤ more ∧ more ≤ 1099511627776) ∧ (∀ z, z < j → (R0.getD z 0 < 0 ∧ R.getD z 0 = R0.getD z 0) ∨ (0 ≤ R0.getD z 0 ∧ 0 ≤ R0.getD z 0 + more ∧ R0.getD z 0 + more ≤ 1099511627776 ∧ R.getD z 0 = R0.getD z 0 + more)) ∧ ∀ z, j ≤ z → R.getD z 0 = R0.getD z 0)) (j + 1) (ok) (R) (w)) rfl rfl rfl ?_ ?_
                    · refine ⟨by omega, hRl, hs, fun h => ?_⟩
                      obtain ⟨hm, hA, hB2⟩ := hok h
                      refine ⟨hm, fun z hz => ?_, fun z hz => hB2 z (by omega)⟩
                      by_cases hzj : z = j
                      · subst hzj
                        have := hB2 z (Nat.le_refl _)
                        exact .inl ⟨by omega, this⟩
                      · exact hA z (by omega)
                    · omega
                · obtain rfl : n = j := by omega
                  cases ok
                  · refine W_seq ?_
                    refine W_region ?_
                    first | refine L_lss rfl rfl rfl (dtrue (by omega)) ?_ | refine L_lss rfl rfl rfl (dfalse (by omega)) ?_ | refine L_lss rfl rfl rfl rfl ?_
                    refine RL_then ?_
                    refine W_seq ?_
                    refine W_if_false rfl ?_
                    refine W_exit' ?_
                    refine Ex_then_exit ?_
                    refine Ex_loop_exit ?_
                    refine Ex_block_hit ?_
                    refine Nx_then ?_
                    refine W_seq ?_
                    refine W_region ?_
                    refine L_move rfl rfl ?_
                    refine RL_then ?_
                    refine W_if_false rfl ?_
                    refine W_skip' ?_
                    refine Nx_cutP (w) (is := [0, 1, 2, 3, 4, 5, 13, 14, 15, 16, 18]) (I' := (fun (w : World) => (HS w5 w [])) (w)) rfl rfl rfl ?_
                    exact hs.forget hO
                  · obtain ⟨⟨m1, m2⟩, hA, _⟩ := hok rfl
                    refine W_seq ?_
                    refine W_region ?_
                    first | refine L_lss rfl rfl rfl (dtrue (by omega)) ?_ | refine L_lss rfl rfl rfl (dfalse (by omega)) ?_ | refine L_lss rfl rfl rfl rfl ?_
                    refine RL_then ?_
                    refine W_seq ?_
                    refine W_if_false rfl ?_
                    refine W_exit' ?_
                    refine Ex_then_exit ?_
                    refine Ex_loop_exit ?_
                    refine Ex_block_hit ?_
                    refine Nx_then ?_
                    refine W_seq ?_
                    refine W_region ?_
                    refine L_move rfl rfl ?_
                    refine RL_then ?_
                    refine W_if_true rfl ?_
                    obtain ⟨Ms', hrb', hpm'⟩ := hset (.slice (some ⟨g, 0, none⟩) n cap) R [(g, Row 2 (il R ++ .int .i64 77 :: sp))] ⟨g, cap, sp, by rw [hRl], rfl, hg, by omega⟩
                    have hvs : vs.set r (.slice (some ⟨g, 0, none⟩) n cap) = vs := by
                      apply List.ext_getElem?
                      intro z
                      rw [List.getElem?_set]
                      by_cases hz : r = z
                      · subst hz; rw [if_pos rfl, if_pos (by omega), hvr]
                      · rw [if_neg hz]
                    rw [hvs] at hrb'
                    have hrB : RB (pB w5) vs (rows.set r R) Ms' := hrb'.imp fun _ _ _ h => p77.bl h
                    have hs3 : HS w5 w ([(B, Row 38 (vs ++ spB))] ++ Ms') := hs.mem_perm (List.Perm.cons _ ((List.perm_append_comm (l₁ := [_])).trans hpm'.symm))
                    have hSl : (rows.set r R).length = k := by simp [hk]
                    have hSw : ∀ i, i < k → ((rows.set r R).getD i []).length = n := fun i hi => by
                      by_cases hir : i = r
                      · subst hir; rw [getD_set_eq (by omega)]; exact hRl
                      · rw [getD_set_ne2 hir]; exact hw i hi
                    have hSo : ∀ i j, i < k → j < n → i ≠ r → el (rows.set r R) i j = el rows i j := fun i j hi hj hir => by
                      show ((rows.set r R).getD i []).getD j 0 = _
                      rw [getD_set_ne2 hir]
                    have hSr : ∀ j, j < n → (el rows r j < 0 ∧ el (rows.set r R) r j = el rows r j) ∨ (0 ≤ el rows r j ∧ 0 ≤ el rows r j + more ∧ el rows r j + more ≤ 1099511627776 ∧ el (rows.set r R) r j = el rows r j + more) := fun j hj => by
                      have e1 : el (rows.set r R) r j = R.getD j 0 := by
                        show ((rows.set r R).getD r []).getD j 0 = _
                        rw [getD_set_eq (by omega)]
                      have e2 : el rows r j = R0.getD j 0 := by rw [hR0]
                      rw [e1, e2]; exact hA j hj
                    have hSc : ∀ i j, i < k → j < n → el (rows.set r R) i j ≤ 1099511627776 := fun i j hi hj => by
                      by_cases hir : i = r
                      · subst hir
                        have := hcost i j hi hj
                        rcases hSr j hj with ⟨h1, h2⟩ | ⟨_, _, h1, h2⟩ <;> omega
                      · rw [hSo i j hi hj hir]; exact hcost i j hi hj
                    obtain ⟨hFS, hwS⟩ := mkFine hSl (by omega) (by omega) (by omega) hSw hSc
                    refine W_seq ?_
                    refine W_region ?_
                    refine L_move rfl rfl ?_
                    refine L_call rfl Try.fun10 rfl (least_ok (some ⟨B, 0, none⟩) k capB (rows.set r R) vs w (hrB.rowsI hs3 (SlC.of_row (hs3.get (i := 0) rfl)) (fun i hi => by rw [hSw i (by omega)]; omega)) hSl (by omega)) ?_
                    rintro _ w7 ⟨v7, N7, ms', t', e', rfl, hs7, hbl7, hans7⟩
                    obtain ⟨qm', cm', rfl, _⟩ := hbl7.slice
                    have hslm' : SlC w7 qm' (il ms') := hbl7.slc (L := []) hs7
                    have hslmw : SlC w7 qm (il ms) := (hslm.old hs hO).old (hs7.forget hbl7.own) Own.nil
                    replace hs := (hs.nil (hs7.forget hbl7.own)).forget hO
                    clear hs7 hbl7 hs3
                    have hLS' := ls_of hFS hans7
                    rw [hwS] at hLS'
                    obtain ⟨d1, d2⟩ := dear_laws (R := rows) (S := rows.set r R) (n := n) (d := more) (r := r) hrk hSo (fun j hj => (hSr j hj).imp id fun ⟨x1, x2, _, x3⟩ => ⟨x1, x2, x3⟩)
                    rw [← hk] at d1 d2
                    obtain ⟨hee, htt⟩ := hLS.dear hLS' (by simp) d1 d2
                    subst hee
                    refine L_move rfl rfl ?_
                    refine L_extract rfl rfl rfl ?_
                    refine L_extract rfl rfl rfl ?_
                    refine L_extract rfl rfl rfl ?_
                    refine L_assign rfl rfl ?_
                    refine L_assign rfl rfl ?_
                    refine L_assign rfl rfl ?_
                    refine RL_then ?_
                    refine W_seq ?_
                    refine W_region ?_
                    refine L_move rfl rfl ?_
                    refine L_move rfl rfl ?_
                    first | refine L_neq rfl rfl rfl (dtrue (by omega)) ?_ | refine L_neq rfl rfl rfl (dfalse (by omega)) ?_ | refine L_neq rfl rfl rfl rfl ?_
                    refine L_move rfl rfl ?_
                    by_cases he : e' = 0
                    · obtain ⟨ht', hms'⟩ := htt he
                      subst ht' hms'
                      have htb' := htb he
                      first | (refine RL_want rfl rfl ?_; refine L_move rfl rfl ?_) | refine RL_skip rfl rfl rfl rfl ?_ | refine RL_skipU rfl rfl rfl ?_
                      first | (refine RL_want rfl rfl ?_; (first | refine L_eql rfl rfl rfl (dtrue (by omega)) ?_ | refine L_eql rfl rfl rfl (dfalse (by omega)) ?_ | refine L_eql rfl rfl rfl rfl ?_)) | refine RL_skip rfl rfl rfl rfl ?_ | refine RL_skipU rfl rfl rfl ?_
                      first | (refine RL_want rfl rfl ?_; refine L_move rfl rfl ?_) | refine RL_skip rfl rfl rfl rfl ?_ | refine RL_skipU rfl rfl rfl ?_
                      first | (refine RL_want rfl rfl ?_; refine L_move rfl rfl ?_) | refine RL_skip rfl rfl rfl rfl ?_ | refine RL_skipU rfl rfl rfl ?_
                      first | (refine RL_want rfl rfl ?_; refine L_move rfl rfl ?_) | refine RL_skip rfl rfl rfl rfl ?_ | refine RL_skipU rfl rfl rfl ?_
                      first | (refine RL_want rfl rfl ?_; refine L_move rfl rfl ?_) | refine RL_skip rfl rfl rfl rfl ?_ | refine RL_skipU rfl rfl rfl ?_
                      first | (refine RL_want rfl rfl ?_; (first | refine L_add rfl rfl rfl (wrp_i64 (by omega)) ?_ | refine L_add rfl rfl rfl rfl ?_)) | refine RL_skip rfl rfl rfl rfl ?_ | refine RL_skipU rfl rfl rfl ?_
                      first | (refine RL_want rfl rfl ?_; (first | refine L_neq rfl rfl rfl (dtrue (by omega)) ?_ | refine L_neq rfl rfl rfl (dfalse (by omega)) ?_ | refine L_neq rfl rfl rfl rfl ?_)) | refine RL_skip rfl rfl rfl rfl ?_ | refine RL_skipU rfl rfl rfl ?_
                      first | (refine RL_want rfl rfl ?_; refine L_move rfl rfl ?_) | refine RL_skip rfl rfl rfl rfl ?_ | refine RL_skipU rfl rfl rfl ?_
                      first | (refine RL_want rfl rfl ?_; refine L_move rfl rfl ?_) | refine RL_skip rfl rfl rfl rfl ?_ | refine RL_skipU rfl rfl rfl ?_
                      first | (refine RL_want rfl rfl ?_; refine L_move rfl rfl ?_) | refine RL_skip rfl rfl rfl rfl ?_ | refine RL_skipU rfl rfl rfl ?_
                      refine RL_want rfl rfl ?_
                      refine L_call rfl Try.fun12 rfl (same_ok qm' qm ms'.length ms'.length cm' cm ms' ms' w7 hslm' hslmw rfl rfl (by omega)) ?_
                      rintro _ w8 ⟨rfl, hs8⟩
                      replace hs := hs.nil hs8
                      rw [decide_eq_true rfl]
                      first | (refine RL_want rfl rfl ?_; refine L_not rfl rfl ?_) | refine RL_skip rfl rfl rfl rfl ?_ | refine RL_skipU rfl rfl rfl ?_
                      first | (refine RL_want rfl rfl ?_; (first | refine L_pick_t rfl rfl rfl ?_ | refine L_pick_f rfl rfl rfl ?_)) | refine RL_skip rfl rfl rfl rfl ?_ | refine RL_skipU rfl rfl rfl ?_
                      first | (refine RL_want rfl rfl ?_; (first | refine L_pick_t rfl rfl rfl ?_ | refine L_pick_f rfl rfl rfl ?_)) | refine RL_skip rfl rfl rfl rfl ?_ | refine RL_skipU rfl rfl rfl ?_
                      first | refine L_pick_t rfl rfl rfl ?_ | refine L_pick_f rfl rfl rfl ?_
                      refine RL_then ?_
                      refine W_if_false rfl ?_
                      refine W_skip' ?_
                      refine Nx_cutP (w8) (is := [0, 1, 2, 3, 4, 5, 13, 14, 15, 16, 18]) (I' := (fun (w : World) => (HS w5 w [])) (w8)) rfl rfl rfl ?_
                      exact hs
                    · first | (refine RL_want rfl rfl ?_; refine L_move rfl rfl ?_) | refine RL_skip rfl rfl rfl rfl ?_ | refine RL_skipU rfl rfl rfl ?_
                      first | (refine RL_want rfl rfl ?_; (first | refine L_eql rfl rfl rfl (dtrue (by omega)) ?_ | refine L_eql rfl rfl rfl (dfalse (by omega)) ?_ | refine L_eql rfl rfl rfl rfl ?_)) | refine RL_skip rfl rfl rfl rfl ?_ | refine RL_skipU rfl rfl rfl ?_
                      first | (refine RL_want rfl rfl ?_; refine L_move rfl rfl ?_) | refine RL_skip rfl rfl rfl rfl ?_ | refine RL_skipU rfl rfl rfl ?_
                      first | (refine RL_want rfl rfl ?_; refine L_move rfl rfl ?_) | refine RL_skip rfl rfl rfl rfl ?_ | refine RL_skipU rfl rfl rfl ?_
                      first | (refine RL_want rfl rfl ?_; refine L_move rfl rfl ?_) | refine RL_skip rfl rfl rfl rfl ?_ | refine RL_skipU rfl rfl rfl ?_
                      first | (refine RL_want rfl rfl ?_; refine L_move rfl rfl ?_) | refine RL_skip rfl rfl rfl rfl ?_ | refine RL_skipU rfl rfl rfl ?_
                      first | (refine RL_want rfl rfl ?_; (first | refine L_add rfl rfl rfl (wrp_i64 (by omega)) ?_ | refine L_add rfl rfl rfl rfl ?_)) | refine RL_skip rfl rfl rfl rfl ?_ | refine RL_skipU rfl rfl rfl ?_
                      first | (refine RL_want rfl rfl ?_; (first | refine L_neq rfl rfl rfl (dtrue (by omega)) ?_ | refine L_neq rfl rfl rfl (dfalse (by omega)) ?_ | refine L_neq rfl rfl rfl rfl ?_)) | refine RL_skip rfl rfl rfl rfl ?_ | refine RL_skipU rfl rfl rfl ?_
                      first | (refine RL_want rfl rfl ?_; refine L_move rfl rfl ?_) | refine RL_skip rfl rfl rfl rfl ?_ | refine RL_skipU rfl rfl rfl ?_
                      first | (refine RL_want rfl rfl ?_; refine L_move rfl rfl ?_) | refine RL_skip rfl rfl rfl rfl ?_ | refine RL_skipU rfl rfl rfl ?_
                      first | (refine RL_want rfl rfl ?_; refine L_move rfl rfl ?_) | refine RL_skip rfl rfl rfl rfl ?_ | refine RL_skipU rfl rfl rfl ?_
                      first | refine RL_skip rfl rfl rfl rfl ?_ | refine RL_skipU rfl rfl rfl ?_
                      first | (refine RL_want rfl rfl ?_; refine L_not rfl rfl ?_) | refine RL_skip rfl rfl rfl rfl ?_ | refine RL_skipU rfl rfl rfl ?_
                      first | (refine RL_want rfl rfl ?_; (first | refine L_pick_t rfl rfl rfl ?_ | refine L_pick_f rfl rfl rfl ?_)) | refine RL_skip rfl rfl rfl rfl ?_ | refine RL_skipU rfl rfl rfl ?_
                      first | (refine RL_want rfl rfl ?_; (first | refine L_pick_t rfl rfl rfl ?_ | refine L_pick_f rfl rfl rfl ?_)) | refine RL_skip rfl rfl rfl rfl ?_ | refine RL_skipU rfl rfl rfl ?_
                      first | refine L_pick_t rfl rfl rfl ?_ | refine L_pick_f rfl rfl rfl ?_
                      refine RL_then ?_
                      refine W_if_false rfl ?_
                      refine W_skip' ?_
                      refine Nx_cutP (w7) (is := [0, 1, 2, 3, 4, 5, 13, 14, 15, 16, 18]) (I' := (fun (w : World) => (HS w5 w [])) (w7)) rfl rfl rfl ?_
                      exact hs
        · clear hok hs
          intro w hI
          show W _ _ _ _ [(0, .slice a k cp), (1, .int .i64 row), (2, .int .i64 more), (3, .int .i64 p), (4, .int .i64 q), (5, .slice ac kc cc), (13, .int .i64 n), (14, .slice qm ms.length cm), (15, .int .i64 t), (16, .int .i64 e), (18, .int .i64 cnt)] w
          have hs : HS w5 w [] := hI
          clear hI
          refine W_seq ?_
          refine W_seq ?_
          refine W_region ?_
          refine L_move rfl rfl ?_
          refine L_len rfl Try.underlying22 rfl ?_
          refine L_move rfl rfl ?_
          first | refine L_eql rfl rfl rfl (dtrue (by omega)) ?_ | refine L_eql rfl rfl rfl (dfalse (by omega)) ?_ | refine L_eql rfl rfl rfl rfl ?_
          refine RL_then ?_
          refine W_cut1 (fun (w : World) => [(0, .slice a k cp), (1, .int .i64 row), (2, .int .i64 more), (3, .int .i64 p), (4, .int .i64 q), (5, .slice ac kc cc), (13, .int .i64 n), (14, .slice qm ms.length cm), (15, .int .i64 t), (16, .int .i64 e), (18, .int .i64 cnt)]) (fun (w : World) => w) (fun (w : World) => (HS w5 w [])) ?_ ?_
          · by_cases hkn : k = n
            · refine W_set 173 (v' := .bool true) rfl (by rw [decide_eq_true (show (k : Int) = n by omega)]) ?_
              refine W_if_true rfl ?_
              refine W_seq ?_
              refine W_region ?_
              refine L_move rfl rfl ?_
              refine L_make1 rfl hs Try.underlying22 Try.ti38 rfl rfl (by with_reducible first | exact natc_k _ | exact natc_a1 _ | exact natc_0 | exact natc_1 | exact natc_2 | exact natc_s1 _ (by omega) | exact natc_a2 _ | exact natc_add _ _ | exact natc_mul _ _ | exact natc (by omega)) (by with_reducible first | exact natc_k _ | exact natc_a1 _ | exact natc_0 | exact natc_1 | exact natc_2 | exact natc_s1 _ (by omega) | exact natc_a2 _ | exact natc_add _ _ | exact natc_mul _ _ | exact natc (by omega)) (by omega) (by omega) (by omega) rfl ?_
              intro b175 w hb175 hnb175 hs
              try dsimp only [List.set_cons_succ, List.set_cons_zero, List.cons_append, List.nil_append] at hs
              refine L_assign rfl rfl ?_
              refine RL_then ?_
              refine W_seq ?_
              refine W_seq ?_
              refine W_region ?_
              refine L_move rfl rfl ?_
              refine L_len rfl Try.underlying22 rfl ?_
              refine L_move rfl rfl ?_
              refine RL_then ?_
              refine W_block ?_
              have hb := hb175
              have hO : ∀ {o : Obj} {L : List (Nat × Obj)}, Own w5 L → Own w5 ((b175, o) :: L) := fun h => Own.cons hb h
              refine W_loop5 (fun (i : Nat) (vs : List Value) (rs : List (List Int)) (Ms : List (Nat × Obj)) (w : World) => [(0, .slice a k cp), (1, .int .i64 row), (2, .int .i64 more), (3, .int .i64 p), (4, .int .i64 q), (5, .slice ac kc cc), (13, .int .i64 n), (14, .slice qm ms.length cm), (15, .int .i64 t), (16, .int .i64 e), (18, .int .i64 cnt), (27, .slice (some ⟨b175, 0, none⟩) n n), (177, .int .i64 n), (178, .int .i64 i)]) (fun (i : Nat) (vs : List Value) (rs : List (List Int)) (Ms : List (Nat × Obj)) (w : World) => w) (fun (i : Nat) (vs : List Value) (rs : List (List Int)) (Ms : List (Nat × Obj)) (w : World) => (i ≤ n) ∧ (rs.length = n) ∧ (∀ z, z < n → rs.getD z [] = colT rows z (if z < i then n else 0)) ∧ (HS w5 w ((b175, Row 38 vs) :: Ms)) ∧ (RB (pB w5) vs rs Ms)) (fun (i : Nat) (vs : List Value) (rs : List (List Int)) (Ms : List (Nat × Obj)) (w : World) => n - i) (0) (List.replicate n (.slice none 0 0)) (List.replicate n []) ([]) (w) (is := [0, 1, 2, 3, 4, 5, 13, 14, 15, 16, 18, 27, 177, 178]) rfl rfl ?_ ?_
              · exact ⟨Nat.zero_le _, by simp, fun z hz => by rw [if_neg (by omega)]; simp [List.getD, hz, colT], hs, RB.nils n⟩
              · clear hs
                intro i vs rs Ms w hI
                show W _ _ _ _ [(0, .slice a k cp), (1, .int .i64 row), (2, .int .i64 more), (3, .int .i64 p), (4, .int .i64 q), (5, .slice ac kc cc), (13, .int .i64 n), (14, .slice qm ms.length cm), (15, .int .i64 t), (16, .int .i64 e), (18, .int .i64 cnt), (27, .slice (some ⟨b175, 0, none⟩) n n), (177, .int .i64 n), (178, .int .i64 i)] w
                obtain ⟨hi, hrl2, hrs, hs, hrb⟩ := hI
                by_cases hlt : i < n
                · refine W_seq ?_
                  refine W_region ?_
                  first | refine L_lss rfl rfl rfl (dtrue (by omega)) ?_ | refine L_lss rfl rfl rfl (dfalse (by omega)) ?_ | refine L_lss rfl rfl rfl rfl ?_
                  refine RL_then ?_
                  refine W_seq ?_
                  refine W_if_true rfl ?_
                  refine W_skip' ?_
                  refine Nx_then ?_
                  refine W_seq ?_
                  refine W_block ?_
                  refine W_seq ?_
                  refine W_region ?_
                  refine L_move rfl rfl ?_
                  refine L_assign rfl rfl ?_
                  refine RL_then ?_
                  refine W_seq ?_
                  refine W_region ?_
                  refine L_move rfl rfl ?_
                  refine L_len rfl Try.underlying22 rfl ?_
                  refine L_move rfl rfl ?_
                  refine RL_then ?_
                  refine W_block ?_
                  refine W_loop5 (fun (j : Nat) (vs : List Value) (rs : List (List Int)) (Ms : List (Nat × Obj)) (w : World) => [(0, .slice a k cp), (1, .int .i64 row), (2, .int .i64 more), (3, .int .i64 p), (4, .int .i64 q), (5, .slice ac kc cc), (13, .int .i64 n), (14, .slice qm ms.length cm), (15, .int .i64 t), (16, .int .i64 e), (18, .int .i64 cnt), (27, .slice (some ⟨b175, 0, none⟩) n n), (28, .int .i64 i), (177, .int .i64 n), (178, .int .i64 i), (182, .int .i64 n), (183, .int .i64 j)]) (fun (j : Nat) (vs : List Value) (rs : List (List Int)) (Ms : List (Nat × Obj)) (w : World) => w) (fun (j : Nat) (vs : List Value) (rs : List (List Int)) (Ms : List (Nat × Obj)) (w : World) => (j ≤ n) ∧ (rs.length = n) ∧ (∀ z, z < n → rs.getD z [] = colT rows z (if z < i then n else if z = i then j else 0)) ∧ (HS w5 w ((b175, Row 38 vs) :: Ms)) ∧ (RB (pB w5) vs rs Ms)) (fun (j : Nat) (vs : List Value) (rs : List (List Int)) (Ms : List (Nat × Obj)) (w : World) => n - j) (0) (vs) (rs) (Ms) (w) (is := [0, 1, 2, 3, 4, 5, 13, 14, 15, 16, 18, 27, 28, 177, 178, 182, 183]) rfl rfl ?_ ?_
                  · refine ⟨Nat.zero_le _, hrl2, fun z hz => ?_, hs, hrb⟩
                    rw [hrs z hz]
                    by_cases h1 : z < i
                    · rw [if_pos h1, if_pos h1]
                    · rw [if_neg h1, if_neg h1]; split <;> rfl
                  · clear hs hrs hrb hrl2
                    intro j vs rs Ms w hI
                    show W _ _ _ _ [(0, .slice a k cp), (1, .int .i64 row), (2, .int .i64 more), (3, .int .i64 p), (4, .int .i64 q), (5, .slice ac kc cc), (13, .int .i64 n), (14, .slice qm ms.length cm), (15, .int .i64 t), (16, .int .i64 e), (18, .int .i64 cnt), (27, .slice (some ⟨b175, 0, none⟩) n n), (28, .int .i64 i), (177, .int .i64 n), (178, .int .i64 i), (182, .int .i64 n), (183, .int .i64 j)] w
                    obtain ⟨hj, hrl2, hrs, hs, hrb⟩ := hI
                    have hvl := hrb.len
                    by_cases hlt2 : j < n
                    · obtain ⟨v0, M0, Mr, hv0, hb0, hpm, hset⟩ := hrb.at i (by omega)
                      have hOm := hrb.own
                      have hOr : Own w5 Mr := fun x hx => hOm x (hpm.mem_iff.2 (List.mem_append_left _ hx))
                      unfold pB at hb0
                      rw [hrs i hlt, if_neg (Nat.lt_irrefl i), if_pos rfl, colT_len] at hb0
                      obtain ⟨ao0, cp0, rfl, _⟩ := hb0.slice
                      have hs : HS w5 w (((b175, Row 38 vs) :: Mr) ++ M0) := hs.mem_perm (List.Perm.cons _ hpm)
                      have hOx : Own w5 (((b175, Row 38 vs) :: Mr) ++ M0) := (hO hOr).app hb0.own
                      obtain ⟨aj, cj, g1, g2, g3, g4⟩ := hr.row j (by omega)
                      rw [hw j (by omega)] at g1 g2 g3
                      have hwj := hw j (by omega)
                      refine W_seq ?_
                      refine W_region ?_
                      first | refine L_lss rfl rfl rfl (dtrue (by omega)) ?_ | refine L_lss rfl rfl rfl (dfalse (by omega)) ?_ | refine L_lss rfl rfl rfl rfl ?_
                      refine RL_then ?_
                      refine W_seq ?_
                      refine W_if_true rfl ?_
                      refine W_skip' ?_
                      refine Nx_then ?_
                      refine W_seq ?_
                      refine W_block ?_
                      refine W_seq ?_
                      refine W_region ?_
                      refine L_move rfl rfl ?_
                      refine L_assign rfl rfl ?_
                      refine RL_then ?_
                      refine W_sg Try.mixed ?_
                      replace hs := hs.drewN 1
                      refine SG_stage [0, 1, 2, 3, 4, 6, 7, 8, 10] [] [] (fun _ _ _ => False) (g' := 8) (by kernel_rfl) (by kernel_rfl) (fun _ _ _ _ _ h => h) hs ?_
                      refine PL_val rfl (fun w => R_move rfl) ?_
                      refine PL_val rfl (fun w => R_move rfl) ?_
                      refine PL_val rfl (fun w => R_move rfl) ?_
                      refine PL_val rfl (fun w => R_move rfl) ?_
                      refine PL_val rfl (fun w => R_idx1 Try.underlying22 Try.ti38 rfl rfl (by with_reducible first | exact natc_k _ | exact natc_a1 _ | exact natc_0 | exact natc_1 | exact natc_2 | exact natc_s1 _ (by omega) | exact natc_a2 _ | exact natc_add _ _ | exact natc_mul _ _ | exact natc (by omega)) (by omega) rfl) ?_
                      refine PL_val rfl (fun w => R_move rfl) ?_
                      refine PL_val rfl (fun w => R_move rfl) ?_
                      refine PL_val rfl (fun w => R_idx1 Try.underlying22 Try.ti38 rfl rfl (by with_reducible first | exact natc_k _ | exact natc_a1 _ | exact natc_0 | exact natc_1 | exact natc_2 | exact natc_s1 _ (by omega) | exact natc_a2 _ | exact natc_add _ _ | exact natc_mul _ _ | exact natc (by omega)) (by omega) (hr.sl.ao (by omega))) ?_
                      refine PL_val rfl (fun w => R_move rfl) ?_
                      refine PL_end ?_
                      refine HL_tail ?_
                      intro w hs
                      refine RL_sg ?_
                      refine SG_join (g' := 2) (l' := #[true, true, true, true, true, true, true, true, true, true, true, true, true, true, true, false, false]) (fun S => ∀ (v200 : Value) (M200 : List (Nat × Obj)) (w : World), (HS w5 w (((b175, Row 38 vs) :: Mr) ++ M200)) ∧ (Bl w5 2 1 v200 (j + 1) (il (colT rows i j) ++ [.int .i64 (el rows j i)]) M200) → S [(0, .slice a k cp), (1, .int .i64 row), (2, .int .i64 more), (3, .int .i64 p), (4, .int .i64 q), (5, .slice ac kc cc), (13, .int .i64 n), (14, .slice qm ms.length cm), (15, .int .i64 t), (16, .int .i64 e), (18, .int .i64 cnt), (27, .slice (some ⟨b175, 0, none⟩) n n), (28, .int .i64 i), (177, .int .i64 n), (178, .int .i64 i), (182, .int .i64 n), (183, .int .i64 j), (186, .slice (some ⟨b175, 0, none⟩) n n), (187, .int .i64 i), (200, v200)] w) ?_ ?_
                      · intro fin
                        refine SG_pick2 (i := 5) (l1 := #[true, true, true, true, true, true, true, true, true, false, true, false, false, false, false, false, false]) (j := 9) (l2 := #[true, true, true, true, true, false, true, true, true, true, true, false, false, false, false, false, false]) (by kernel_rfl) (by kernel_rfl) (by kernel_rfl) (by kernel_rfl) ?_ ?_
                        · refine L_load rfl Try.one38 rfl (by exact hs.cellA (i := 0) rfl hv0) ?_
                          refine RL_sg ?_
                          refine SG_pick1 (i := 9) (l1 := #[true, true, true, true, true, true, true, true, true, true, true, false, false, false, false, false, false]) (by kernel_rfl) (by kernel_rfl) (by kernel_rfl) ?_
                          refine L_load rfl Try.one38 rfl (by exact (hr.sl.old hs hOx).get g1) ?_
                          refine RL_sg ?_
                          refine SG_pick1 (i := 11) (l1 := #[true, true, true, true, true, true, true, true, true, true, true, true, false, false, false, false, false]) (by kernel_rfl) (by kernel_rfl) (by kernel_rfl) ?_
                          refine L_idx1 rfl Try.underlying38 Try.ti2 rfl rfl (by with_reducible first | exact natc_k _ | exact natc_a1 _ | exact natc_0 | exact natc_1 | exact natc_2 | exact natc_s1 _ (by omega) | exact natc_a2 _ | exact natc_add _ _ | exact natc_mul _ _ | exact natc (by omega)) (by omega) (g4.ao (by rw [il_length]; omega)) ?_
                          refine RL_sg ?_
                          refine SG_pick1 (i := 12) (l1 := #[true, true, true, true, true, true, true, true, true, true, true, true, true, false, false, false, false]) (by kernel_rfl) (by kernel_rfl) (by kernel_rfl) ?_
                          refine L_load rfl Try.one2 rfl (by exact (g4.old hs hOx).get (il_get (by omega))) ?_
                          refine RL_sg ?_
                          refine SG_pick1 (i := 13) (l1 := #[true, true, true, true, true, true, true, true, true, true, true, true, true, true, false, false, false]) (by kernel_rfl) (by kernel_rfl) (by kernel_rfl) ?_
                          refine L_buildSlice1 rfl hs Try.underlying38 Try.ti2 rfl (by decide) rfl rfl ?_
                          intro b199 w hb199 hnb199 hs
                          simp only [List.map_cons, List.map_nil] at hs
                          try dsimp only [List.set_cons_succ, List.set_cons_zero, List.cons_append, List.nil_append] at hs
                          refine RL_sg ?_
                          refine SG_pick1 (i := 14) (l1 := #[true, true, true, true, true, true, true, true, true, true, true, true, true, true, true, false, false]) (by kernel_rfl) (by kernel_rfl) (by kernel_rfl) ?_
                          refine L_appendT (L := (b175, Row 38 vs) :: Mr) rfl Try.underlying38 Try.ti2 rfl hs (by assumption) hb0 rfl rfl rfl (by simp [Value.oneCell']) (by omega) (by omega) ?_; intro v200 w M200 hs hb200
                          refine RL_sg ?_
                          refine SG_env (fin v200 M200 w ⟨hs, hb200⟩) (looks_cons rfl (looks_cons rfl (looks_cons rfl (looks_cons rfl (looks_cons rfl (looks_cons rfl (looks_cons rfl (looks_cons rfl (looks_cons rfl (looks_cons rfl (looks_cons rfl (looks_cons rfl (looks_cons rfl (looks_cons rfl (looks_cons rfl (looks_cons rfl (looks_cons rfl (looks_cons rfl (looks_cons rfl (looks_cons rfl looks_nil))))))))))))))))))))
                        · refine L_load rfl Try.one38 rfl (by exact (hr.sl.old hs hOx).get g1) ?_
                          refine RL_sg ?_
                          refine SG_pick2 (i := 5) (l1 := #[true, true, true, true, true, true, true, true, true, true, true, false, false, false, false, false, false]) (j := 11) (l2 := #[true, true, true, true, true, false, true, true, true, true, true, true, false, false, false, false, false]) (by kernel_rfl) (by kernel_rfl) (by kernel_rfl) (by kernel_rfl) ?_ ?_
                          · refine L_load rfl Try.one38 rfl (by exact hs.cellA (i := 0) rfl hv0) ?_
                            refine RL_sg ?_
                            refine SG_pick1 (i := 11) (l1 := #[true, true, true, true, true, true, true, true, true, true, true, true, false, false, false, false, false]) (by kernel_rfl) (by kernel_rfl) (by kernel_rfl) ?_
                            refine L_idx1 rfl Try.underlying38 Try.ti2 rfl rfl (by with_reducible first | exact natc_k _ | exact natc_a1 _ | exact natc_0 | exact natc_1 | exact natc_2 | exact natc_s1 _ (by omega) | exact natc_a2 _ | exact natc_add _ _ | exact natc_mul _ _ | exact natc (by omega)) (by omega) (g4.ao (by rw [il_length]; omega)) ?_
                            refine RL_sg ?_
                            refine SG_pick1 (i := 12) (l1 := #[true, true, true, true, true, true, true, true, true, true, true, true, true, false, false, false, false]) (by kernel_rfl) (by kernel_rfl) (by kernel_rfl) ?_
                            refine L_load rfl Try.one2 rfl (by exact (g4.old hs hOx).get (il_get (by omega))) ?_
                            refine RL_sg ?_
                            refine SG_pick1 (i := 13) (l1 := #[true, true, true, true, true, true, true, true, true, true, true, true, true, true, false, false, false]) (by kernel_rfl) (by kernel_rfl) (by kernel_rfl) ?_
                            refine L_buildSlice1 rfl hs Try.underlying38 Try.ti2 rfl (by decide) rfl rfl ?_
                            intro b199 w hb199 hnb199 hs
                            simp only [List.map_cons, List.map_nil] at hs
                            try dsimp only [List.set_cons_succ, List.set_cons_zero, List.cons_append, List.nil_append] at hs
                            refine RL_sg ?_
                            refine SG_pick1 (i := 14) (l1 := #[true, true, true, true, true, true, true, true, true, true, true, true, true, true, true, false, false]) (by kernel_rfl) (by kernel_rfl) (by kernel_rfl) ?_
                            refine L_appendT (L := (b175, Row 38 vs) :: Mr) rfl Try.underlying38 Try.ti2 rfl hs (by assumption) hb0 rfl rfl rfl (by simp [Value.oneCell']) (by omega) (by omega) ?_; intro v200 w M200 hs hb200
                            refine RL_sg ?_
                            refine SG_env (fin v200 M200 w ⟨hs, hb200⟩) (looks_cons rfl (looks_cons rfl (looks_cons rfl (looks_cons rfl (looks_cons rfl (looks_cons rfl (looks_cons rfl (looks_cons rfl (looks_cons rfl (looks_cons rfl (looks_cons rfl (looks_cons rfl (looks_cons rfl (looks_cons rfl (looks_cons rfl (looks_cons rfl (looks_cons rfl (looks_cons rfl (looks_cons rfl (looks_cons rfl looks_nil))))))))))))))))))))
                          · refine L_idx1 rfl Try.underlying38 Try.ti2 rfl rfl (by with_reducible first | exact natc_k _ | exact natc_a1 _ | exact natc_0 | exact natc_1 | exact natc_2 | exact natc_s1 _ (by omega) | exact natc_a2 _ | exact natc_add _ _ | exact natc_mul _ _ | exact natc (by omega)) (by omega) (g4.ao (by rw [il_length]; omega)) ?_
                            refine RL_sg ?_
                            refine SG_pick2 (i := 5) (l1 := #[true, true, true, true, true, true, true, true, true, true, true, true, false, false, false, false, false]) (j := 12) (l2 := #[true, true, true, true, true, false, true, true, true, true, true, true, true, false, false, false, false]) (by kernel_rfl) (by kernel_rfl) (by kernel_rfl) (by kernel_rfl) ?_ ?_
                            · refine L_load rfl Try.one38 rfl (by exact hs.cellA (i := 0) rfl hv0) ?_
                              refine RL_sg ?_
                              refine SG_pick1 (i := 12) (l1 := #[true, true, true, true, true, true, true, true, true, true, true, true, true, false, false, false, false]) (by kernel_rfl) (by kernel_rfl) (by kernel_rfl) ?_
                              refine L_load rfl Try.one2 rfl (by exact (g4.old hs hOx).get (il_get (by omega))) ?_
                              refine RL_sg ?_
                              refine SG_pick1 (i := 13) (l1 := #[true, true, true, true, true, true, true, true, true, true, true, true, true, true, false, false, false]) (by kernel_rfl) (by kernel_rfl) (by kernel_rfl) ?_
                              refine L_buildSlice1 rfl hs Try.underlying38 Try.ti2 rfl (by decide) rfl rfl ?_
                              intro b199 w hb199 hnb199 hs
                              simp only [List.map_cons, List.map_nil] at hs
                              try dsimp only [List.set_cons_succ, List.set_cons_zero, List.cons_append, List.nil_append] at hs
                              refine RL_sg ?_
                              refine SG_pick1 (i := 14) (l1 := #[true, true, true, true, true, true, true, true, true, true, true, true, true, true, true, false, false]) (by kernel_rfl) (by kernel_rfl) (by kernel_rfl) ?_
                              refine L_appendT (L := (b175, Row 38 vs) :: Mr) rfl Try.underlying38 Try.ti2 rfl hs (by assumption) hb0 rfl rfl rfl (by simp [Value.oneCell']) (by omega) (by omega) ?_; intro v200 w M200 hs hb200
                              refine RL_sg ?_
                              refine SG_env (fin v200 M200 w ⟨hs, hb200⟩) (looks_cons rfl (looks_cons rfl (looks_cons rfl (looks_cons rfl (looks_cons rfl (looks_cons rfl (looks_cons rfl (looks_cons rfl (looks_cons rfl (looks_cons rfl (looks_cons rfl (looks_cons rfl (looks_cons rfl (looks_cons rfl (looks_cons rfl (looks_cons rfl (looks_cons rfl (looks_cons rfl (looks_cons rfl (looks_cons rfl looks_nil))))))))))))))))))))
                            · refine L_load rfl Try.one2 rfl (by exact (g4.old hs hOx).get (il_get (by omega))) ?_
                              refine RL_sg ?_
                              refine SG_pick2 (i := 5) (l1 := #[true, true, true, true, true, true, true, true, true, true, true, true, true, false, false, false, false]) (j := 13) (l2 := #[true, true, true, true, true, false, true, true, true, true, true, true, true, true, false, false, false]) (by kernel_rfl) (by kernel_rfl) (by kernel_rfl) (by kernel_rfl) ?_ ?_
                              · refine L_load rfl Try.one38 rfl (by exact hs.cellA (i := 0) rfl hv0) ?_
                                refine RL_sg ?_
                                refine SG_pick1 (i := 13) (l1 := #[true, true, true, true, true, true, true, true, true, true, true, true, true, true, false, false, false]) (by kernel_rfl) (by kernel_rfl) (by kernel_rfl) ?_
                                refine L_buildSlice1 rfl hs Try.underlying38 Try.ti2 rfl (by decide) rfl rfl ?_
                                intro b199 w hb199 hnb199 hs
                                simp only [List.map_cons, List.map_nil] at hs
                                try dsimp only [List.set_cons_succ, List.set_cons_zero, List.cons_append, List.nil_append] at hs
                                refine RL_sg ?_
                                refine SG_pick1 (i := 14) (l1 := #[true, true, true, true, true, true, true, true, true, true, true, true, true, true, true, false, false]) (by kernel_rfl) (by kernel_rfl) (by kernel_rfl) ?_
                                refine L_appendT (L := (b175, Row 38 vs) :: Mr) rfl Try.underlying38 Try.ti2 rfl hs (by assumption) hb0 rfl rfl rfl (by simp [Value.oneCell']) (by omega) (by omega) ?_; intro v200 w M200 hs hb200
                                refine RL_sg ?_
                                refine SG_env (fin v200 M200 w ⟨hs, hb200⟩) (looks_cons rfl (looks_cons rfl (looks_cons rfl (looks_cons rfl (looks_cons rfl (looks_cons rfl (looks_cons rfl (looks_cons rfl (looks_cons rfl (looks_cons rfl (looks_cons rfl (looks_cons rfl (looks_cons rfl (looks_cons rfl (looks_cons rfl (looks_cons rfl (looks_cons rfl (looks_cons rfl (looks_cons rfl (looks_cons rfl looks_nil))))))))))))))))))))
                              · refine L_buildSlice1 rfl hs Try.underlying38 Try.ti2 rfl (by decide) rfl rfl ?_
                                intro b199 w hb199 hnb199 hs
                                simp only [List.map_cons, List.map_nil] at hs
                                try dsimp only [List.set_cons_succ, List.set_cons_zero, List.cons_append, List.nil_append] at hs
                                refine RL_sg ?_
                                refine SG_pick1 (i := 5) (l1 := #[true, true, true, true, true, true, true, true, true, true, true, true, true, true, false, false, false]) (by kernel_rfl) (by kernel_rfl) (by kernel_rfl) ?_
                                refine L_load rfl Try.one38 rfl (by exact hs.cellA (i := 0) rfl hv0) ?_
                                refine RL_sg ?_
                                refine SG_pick1 (i := 14) (l1 := #[true, true, true, true, true, true, true, true, true, true, true, true, true, true, true, false, false]) (by kernel_rfl) (by kernel_rfl) (by kernel_rfl) ?_
                                refine L_appendT (L := (b175, Row 38 vs) :: Mr) rfl Try.underlying38 Try.ti2 rfl hs (by assumption) hb0 rfl rfl rfl (by simp [Value.oneCell']) (by omega) (by omega) ?_; intro v200 w M200 hs hb200
                                refine RL_sg ?_
                                refine SG_env (fin v200 M200 w ⟨hs, hb200⟩) (looks_cons rfl (looks_cons rfl (looks_cons rfl (looks_cons rfl (looks_cons rfl (looks_cons rfl (looks_cons rfl (looks_cons rfl (looks_cons rfl (looks_cons rfl (looks_cons rfl (looks_cons rfl (looks_cons rfl (looks_cons rfl (looks_cons rfl (looks_cons rfl (looks_cons rfl (looks_cons rfl (looks_cons rfl (looks_cons rfl looks_nil))))))))))))))))))))
                      · clear hs
                        intro v200 M200 w hI
                        show SG _ _ _ _ _ _ [(0, .slice a k cp), (1, .int .i64 row), (2, .int .i64 more), (3, .int .i64 p), (4, .int .i64 q), (5, .slice ac kc cc), (13, .int .i64 n), (14, .slice qm ms.length cm), (15, .int .i64 t), (16, .int .i64 e), (18, .int .i64 cnt), (27, .slice (some ⟨b175, 0, none⟩) n n), (28, .int .i64 i), (177, .int .i64 n), (178, .int .i64 i), (182, .int .i64 n), (183, .int .i64 j), (186, .slice (some ⟨b175, 0, none⟩) n n), (187, .int .i64 i), (200, v200)] w
                        obtain ⟨hs, hb2⟩ := hI
                        obtain ⟨ao2, cp2, rfl, _⟩ := hb2.slice
                        refine SG_pick1 (i := 15) (l1 := #[true, true, true, true, true, true, true, true, true, true, true, true, true, true, true, true, false]) (by kernel_rfl) (by kernel_rfl) (by kernel_rfl) ?_
                        refine L_idx1 rfl Try.underlying22 Try.ti38 rfl rfl (by with_reducible first | exact natc_k _ | exact natc_a1 _ | exact natc_0 | exact natc_1 | exact natc_2 | exact natc_s1 _ (by omega) | exact natc_a2 _ | exact natc_add _ _ | exact natc_mul _ _ | exact natc (by omega)) (by omega) rfl ?_
                        refine RL_sg ?_
                        refine SG_pick1 (i := 16) (l1 := #[true, true, true, true, true, true, true, true, true, true, true, true, true, true, true, true, true]) (by kernel_rfl) (by kernel_rfl) (by kernel_rfl) ?_
                        refine L_store hs (i := 0) rfl Try.ti38 rfl rfl (by first | rfl | exact add_lit0 _ _ | exact Addr.add_lit ..) (by omega) rfl ?_
                        intro w hs
                        try dsimp only [List.set_cons_succ, List.set_cons_zero, List.cons_append, List.nil_append] at hs
                        refine RL_sg ?_
                        refine SG_end (by kernel_rfl) ?_
                        refine Nx_block ?_
                        refine Nx_then ?_
                        refine W_region ?_
                        first | refine L_add rfl rfl rfl (wrp_i64 (by omega)) ?_ | refine L_add rfl rfl rfl rfl ?_
                        refine L_move rfl rfl ?_
                        refine RL_nil' ?_
                        obtain ⟨Ms', hrb', hpm'⟩ := hset (.slice ao2 (j + 1) cp2) (colT rows i (j + 1)) M200 (by show Bl _ _ _ _ _ _ _; rw [colT_len, ← colT_snoc, ← il_snoc]; exact hb2)
                        refine Nx_loopP (j + 1, vs.set i (.slice ao2 (j + 1) cp2), rs.set i (colT rows i (j + 1)), Ms', w) (is := [0, 1, 2, 3, 4, 5, 13, 14, 15, 16, 18, 27, 28, 177, 178, 182, 183]) (I' := (fun (j : Nat) (vs : List Value) (rs : List (List Int)) (Ms : List (Nat × Obj)) (w : World) => (j ≤ n) ∧ (rs.length = n) ∧ (∀ z, z < n → rs.getD z [] = colT rows z (if z < i then n else if z = i then j else 0)) ∧ (HS w5 w ((b175, Row 38 vs) :: Ms)) ∧ (RB (pB w5) vs rs Ms)) (j + 1) (vs.set i (.slice ao2 (j + 1) cp2)) (rs.set i (colT rows i (j + 1))) (Ms') (w)) rfl rfl rfl ?_ ?_
                        · refine ⟨by omega, by simp [hrl2], fun z hz => ?_, hs.mem_perm (List.Perm.cons _ hpm'.symm), hrb'⟩
                          by_cases hzi : z = i
                          · subst hzi; rw [getD_set_eq (by omega), if_neg (Nat.lt_irrefl z), if_pos rfl]
                          · rw [getD_set_ne2 hzi, hrs z hz, if_neg hzi, if_neg hzi]
                        · omega
                    · obtain rfl : n = j := by omega
                      refine W_seq ?_
                      refine W_region ?_
                      first | refine L_lss rfl rfl rfl (dtrue (by omega)) ?_ | refine L_lss rfl rfl rfl (dfalse (by omega)) ?_ | refine L_lss rfl rfl rfl rfl ?_
                      refine RL_then ?_
                      refine W_seq ?_
                      refine W_if_false rfl ?_
                      refine W_exit' ?_
                      refine Ex_then_exit ?_
                      refine Ex_loop_exit ?_
                      refine Ex_block_hit ?_
                      refine Nx_block ?_
                      refine Nx_then ?_
                      refine W_region ?_
                      first | refine L_add rfl rfl rfl (wrp_i64 (by omega)) ?_ | refine L_add rfl rfl rfl rfl ?_
                      refine L_move rfl rfl ?_
                      refine RL_nil' ?_
                      refine Nx_loopP (i + 1, vs, rs, Ms, w) (is := [0, 1, 2, 3, 4, 5, 13, 14, 15, 16, 18, 27, 177, 178]) (I' := (fun (i : Nat) (vs : List Value) (rs : List (List Int)) (Ms : List (Nat × Obj)) (w : World) => (i ≤ n) ∧ (rs.length = n) ∧ (∀ z, z < n → rs.getD z [] = colT rows z (if z < i then n else 0)) ∧ (HS w5 w ((b175, Row 38 vs) :: Ms)) ∧ (RB (pB w5) vs rs Ms)) (i + 1) (vs) (rs) (Ms) (w)) rfl rfl rfl ?_ ?_
                      · refine ⟨by omega, hrl2, fun z hz => ?_, hs, hrb⟩
                        rw [hrs z hz]
                        by_cases h1 : z < i
                        · rw [if_pos h1, if_pos (by omega)]
                        · by_cases h2 : z = i
                          · rw [if_neg h1, if_pos h2, if_pos (by omega)]
                          · rw [if_neg h1, if_neg h2, if_neg (by omega)]
                      · omega
                · obtain rfl : n = i := by omega
                  have hSe : ∀ i j, i < n → j < n → el rs i j = el rows j i := fun i j hi hj => by
                    show (rs.getD i []).getD j 0 = _
                    rw [hrs i hi, if_pos hi, colT_get hj]
                  have hSw : ∀ i, i < n → (rs.getD i []).length = n := fun i hi => by rw [hrs i hi, if_pos hi, colT_len]
                  obtain ⟨hFS, hwS⟩ := mkFine hrl2 (by omega) (by omega) (by omega) hSw (fun i j hi hj => by rw [hSe i j hi hj]; exact hcost j i (by omega) hi)
                  have hs3 : HS w5 w ([(b175, Row 38 vs)] ++ Ms) := hs
                  refine W_seq ?_
                  refine W_region ?_
                  first | refine L_lss rfl rfl rfl (dtrue (by omega)) ?_ | refine L_lss rfl rfl rfl (dfalse (by omega)) ?_ | refine L_lss rfl rfl rfl rfl ?_
                  refine RL_then ?_
                  refine W_seq ?_
                  refine W_if_false rfl ?_
                  refine W_exit' ?_
                  refine Ex_then_exit ?_
                  refine Ex_loop_exit ?_
                  refine Ex_block_hit ?_
                  refine Nx_then ?_
                  refine W_seq ?_
                  refine W_region ?_
                  refine L_move rfl rfl ?_
                  refine L_call rfl Try.fun10 rfl (least_ok (some ⟨b175, 0, none⟩) n n rs vs w (hrb.rowsI hs3 (SlC.of_row (sp := []) (by rw [List.append_nil]; exact hs3.get (i := 0) rfl)) (fun i hi => by rw [hSw i (by omega)]; omega)) hrl2 (by omega)) ?_
                  rintro _ w7 ⟨v7, N7, ms', t', e', rfl, hs7, hbl7, hans7⟩
                  replace hs := (hs.nil (hs7.forget hbl7.own)).forget (hO hrb.own)
                  have hLS' := ls_of hFS hans7
                  rw [hwS] at hLS'
                  obtain ⟨hee, htt⟩ := hLS.both hLS' (emb_turn (by omega) hrl2 hSe) (emb_turn hrl2 (by omega) (fun i j hi hj => (hSe j i hj hi).symm))
                  subst hee htt
                  refine L_move rfl rfl ?_
                  refine L_extract rfl rfl rfl ?_
                  refine L_extract rfl rfl rfl ?_
                  refine L_extract rfl rfl rfl ?_
                  refine L_assign rfl rfl ?_
                  refine L_assign rfl rfl ?_
                  refine L_assign rfl rfl ?_
                  refine RL_then ?_
                  refine W_seq ?_
                  refine W_region ?_
                  refine L_move rfl rfl ?_
                  refine L_move rfl rfl ?_
                  first | refine L_neq rfl rfl rfl (dtrue (by omega)) ?_ | refine L_neq rfl rfl rfl (dfalse (by omega)) ?_ | refine L_neq rfl rfl rfl rfl ?_
                  refine L_move rfl rfl ?_
                  first | (refine RL_want rfl rfl ?_; refine L_move rfl rfl ?_) | refine RL_skip rfl rfl rfl rfl ?_ | refine RL_skipU rfl rfl rfl ?_
                  first | (refine RL_want rfl rfl ?_; refine L_move rfl rfl ?_) | refine RL_skip rfl rfl rfl rfl ?_ | refine RL_skipU rfl rfl rfl ?_
                  first | (refine RL_want rfl rfl ?_; (first | refine L_neq rfl rfl rfl (dtrue (by omega)) ?_ | refine L_neq rfl rfl rfl (dfalse (by omega)) ?_ | refine L_neq rfl rfl rfl rfl ?_)) | refine RL_skip rfl rfl rfl rfl ?_ | refine RL_skipU rfl rfl rfl ?_
                  first | refine L_pick_t rfl rfl rfl ?_ | refine L_pick_f rfl rfl rfl ?_
                  refine RL_then ?_
                  refine W_if_false rfl ?_
                  refine W_skip' ?_
                  refine Nx_cutP (w7) (is := [0, 1, 2, 3, 4, 5, 13, 14, 15, 16, 18]) (I' := (fun (w : World) => (HS w5 w [])) (w7)) rfl rfl rfl ?_
                  exact hs
            · refine W_set 173 (v' := .bool false) rfl (by rw [decide_eq_false (show ¬(k : Int) = n by omega)]) ?_
              refine W_if_false rfl ?_
              refine W_skip' ?_
              refine Nx_cutP (w) (is := [0, 1, 2, 3, 4, 5, 13, 14, 15, 16, 18]) (I' := (fun (w : World) => (HS w5 w [])) (w)) rfl rfl rfl ?_
              exact hs
          · clear hs
            intro w hI
            show W _ _ _ _ [(0, .slice a k cp), (1, .int .i64 row), (2, .int .i64 more), (3, .int .i64 p), (4, .int .i64 q), (5, .slice ac kc cc), (13, .int .i64 n), (14, .slice qm ms.length cm), (15, .int .i64 t), (16, .int .i64 e), (18, .int .i64 cnt)] w
            have hs : HS w5 w [] := hI
            clear hI
            refine W_seq ?_
            refine W_seq ?_
            refine W_cut2 (fun (ok : Bool) (w : World) => [(0, .slice a k cp), (1, .int .i64 row), (2, .int .i64 more), (3, .int .i64 p), (4, .int .i64 q), (5, .slice ac kc cc), (13, .int .i64 n), (14, .slice qm ms.length cm), (15, .int .i64 t), (16, .int .i64 e), (18, .int .i64 cnt), (233, .bool ok)]) (fun (ok : Bool) (w : World) => w) (fun (ok : Bool) (w : World) => (HS w5 w []) ∧ (ok = true → 0 ≤ p ∧ 0 ≤ q ∧ p < n ∧ q < n)) ?_ ?_
            · by_cases h1 : 0 ≤ p
              · by_cases h2 : 0 ≤ q
                · by_cases h3 : p < n
                  · by_cases h4 : q < n
                    · refine W_region ?_
                      refine L_move rfl rfl ?_
                      first | refine L_geq rfl rfl rfl (dtrue (by omega)) ?_ | refine L_geq rfl rfl rfl (dfalse (by omega)) ?_ | refine L_geq rfl rfl rfl rfl ?_
                      refine L_move rfl rfl ?_
                      first | (refine RL_want rfl rfl ?_; refine L_move rfl rfl ?_) | refine RL_skip rfl rfl rfl rfl ?_ | refine RL_skipU rfl rfl rfl ?_
                      first | (refine RL_want rfl rfl ?_; (first | refine L_geq rfl rfl rfl (dtrue (by omega)) ?_ | refine L_geq rfl rfl rfl (dfalse (by omega)) ?_ | refine L_geq rfl rfl rfl rfl ?_)) | refine RL_skip rfl rfl rfl rfl ?_ | refine RL_skipU rfl rfl rfl ?_
                      first | refine L_pick_t rfl rfl rfl ?_ | refine L_pick_f rfl rfl rfl ?_
                      refine L_move rfl rfl ?_
                      first | (refine RL_want rfl rfl ?_; refine L_move rfl rfl ?_) | refine RL_skip rfl rfl rfl rfl ?_ | refine RL_skipU rfl rfl rfl ?_
                      first | (refine RL_want rfl rfl ?_; refine L_move rfl rfl ?_) | refine RL_skip rfl rfl rfl rfl ?_ | refine RL_skipU rfl rfl rfl ?_
                      first | (refine RL_want rfl rfl ?_; (first | refine L_lss rfl rfl rfl (dtrue (by omega)) ?_ | refine L_lss rfl rfl rfl (dfalse (by omega)) ?_ | refine L_lss rfl rfl rfl rfl ?_)) | refine RL_skip rfl rfl rfl rfl ?_ | refine RL_skipU rfl rfl rfl ?_
                      first | refine L_pick_t rfl rfl rfl ?_ | refine L_pick_f rfl rfl rfl ?_
                      refine L_move rfl rfl ?_
                      first | (refine RL_want rfl rfl ?_; refine L_move rfl rfl ?_) | refine RL_skip rfl rfl rfl rfl ?_ | refine RL_skipU rfl rfl rfl ?_
                      first | (refine RL_want rfl rfl ?_; refine L_move rfl rfl ?_) | refine RL_skip rfl rfl rfl rfl ?_ | refine RL_skipU rfl rfl rfl ?_
                      first | (refine RL_want rfl rfl ?_; (first | refine L_lss rfl rfl rfl (dtrue (by omega)) ?_ | refine L_lss rfl rfl rfl (dfalse (by omega)) ?_ | refine L_lss rfl rfl rfl rfl ?_)) | refine RL_skip rfl rfl rfl rfl ?_ | refine RL_skipU rfl rfl rfl ?_
                      first | refine L_pick_t rfl rfl rfl ?_ | refine L_pick_f rfl rfl rfl ?_
                      refine RL_nil' ?_
                      refine Nx_cutP (true, w) (is := [0, 1, 2, 3, 4, 5, 13, 14, 15, 16, 18, 233]) (I' := (fun (ok : Bool) (w : World) => (HS w5 w []) ∧ (ok = true → 0 ≤ p ∧ 0 ≤ q ∧ p < n ∧ q < n)) (true) (w)) rfl rfl rfl ?_
                      exact ⟨hs, fun _ => ⟨h1, h2, h3, h4⟩⟩
                    · refine W_region ?_
                      refine L_move rfl rfl ?_
                      first | refine L_geq rfl rfl rfl (dtrue (by omega)) ?_ | refine L_geq rfl rfl rfl (dfalse (by omega)) ?_ | refine L_geq rfl rfl rfl rfl ?_
                      refine L_move rfl rfl ?_
                      first | (refine RL_want rfl rfl ?_; refine L_move rfl rfl ?_) | refine RL_skip rfl rfl rfl rfl ?_ | refine RL_skipU rfl rfl rfl ?_
                      first | (refine RL_want rfl rfl ?_; (first | refine L_geq rfl rfl rfl (dtrue (by omega)) ?_ | refine L_geq rfl rfl rfl (dfalse (by omega)) ?_ | refine L_geq rfl rfl rfl rfl ?_)) | refine RL_skip rfl rfl rfl rfl ?_ | refine RL_skipU rfl rfl rfl ?_
                      first | refine L_pick_t rfl rfl rfl ?_ | refine L_pick_f rfl rfl rfl ?_
                      refine L_move rfl rfl ?_
                      first | (refine RL_want rfl rfl ?_; refine L_move rfl rfl ?_) | refine RL_skip rfl rfl rfl rfl ?_ | refine RL_skipU rfl rfl rfl ?_
                      first | (refine RL_want rfl rfl ?_; refine L_move rfl rfl ?_) | refine RL_skip rfl rfl rfl rfl ?_ | refine RL_skipU rfl rfl rfl ?_
                      first | (refine RL_want rfl rfl ?_; (first | refine L_lss rfl rfl rfl (dtrue (by omega)) ?_ | refine L_lss rfl rfl rfl (dfalse (by omega)) ?_ | refine L_lss rfl rfl rfl rfl ?_)) | refine RL_skip rfl rfl rfl rfl ?_ | refine RL_skipU rfl rfl rfl ?_
                      first | refine L_pick_t rfl rfl rfl ?_ | refine L_pick_f rfl rfl rfl ?_
                      refine L_move rfl rfl ?_
                      first | (refine RL_want rfl rfl ?_; refine L_move rfl rfl ?_) | refine RL_skip rfl rfl rfl rfl ?_ | refine RL_skipU rfl rfl rfl ?_
                      first | (refine RL_want rfl rfl ?_; refine L_move rfl rfl ?_) | refine RL_skip rfl rfl rfl rfl ?_ | refine RL_skipU rfl rfl rfl ?_
                      first | (refine RL_want rfl rfl ?_; (first | refine L_lss rfl rfl rfl (dtrue (by omega)) ?_ | refine L_lss rfl rfl rfl (dfalse (by omega)) ?_ | refine L_lss rfl rfl rfl rfl ?_)) | refine RL_skip rfl rfl rfl rfl ?_ | refine RL_skipU rfl rfl rfl ?_
                      first | refine L_pick_t rfl rfl rfl ?_ | refine L_pick_f rfl rfl rfl ?_
                      refine RL_nil' ?_
                      refine Nx_cutP (false, w) (is := [0, 1, 2, 3, 4, 5, 13, 14, 15, 16, 18, 233]) (I' := (fun (ok : Bool) (w : World) => (HS w5 w []) ∧ (ok = true → 0 ≤ p ∧ 0 ≤ q ∧ p < n ∧ q < n)) (false) (w)) rfl rfl rfl ?_
                      exact ⟨hs, fun h => by cases h⟩
                  · refine W_region ?_
                    refine L_move rfl rfl ?_
                    first | refine L_geq rfl rfl rfl (dtrue (by omega)) ?_ | refine L_geq rfl rfl rfl (dfalse (by omega)) ?_ | refine L_geq rfl rfl rfl rfl ?_
                    refine L_move rfl rfl ?_
                    first | (refine RL_want rfl rfl ?_; refine L_move rfl rfl ?_) | refine RL_skip rfl rfl rfl rfl ?_ | refine RL_skipU rfl rfl rfl ?_
                    first | (refine RL_want rfl rfl ?_; (first | refine L_geq rfl rfl rfl (dtrue (by omega)) ?_ | refine L_geq rfl rfl rfl (dfalse (by omega)) ?_ | refine L_geq rfl rfl rfl rfl ?_)) | refine RL_skip rfl rfl rfl rfl ?_ | refine RL_skipU rfl rfl rfl ?_
                    first | refine L_pick_t rfl rfl rfl ?_ | refine L_pick_f rfl rfl rfl ?_
                    refine L_move rfl rfl ?_
                    first | (refine RL_want rfl rfl ?_; refine L_move rfl rfl ?_) | refine RL_skip rfl rfl rfl rfl ?_ | refine RL_skipU rfl rfl rfl ?_
                    first | (refine RL_want rfl rfl ?_; refine L_move rfl rfl ?_) | refine RL_skip rfl rfl rfl rfl ?_ | refine RL_skipU rfl rfl rfl ?_
                    first | (refine RL_want rfl rfl ?_; (first | refine L_lss rfl rfl rfl (dtrue (by omega)) ?_ | refine L_lss rfl rfl rfl (dfalse (by omega)) ?_ | refine L_lss rfl rfl rfl rfl ?_)) | refine RL_skip rfl rfl rfl rfl ?_ | refine RL_skipU rfl rfl rfl ?_
                    first | refine L_pick_t rfl rfl rfl ?_ | refine L_pick_f rfl rfl rfl ?_
                    refine L_move rfl rfl ?_
                    first | (refine RL_want rfl rfl ?_; refine L_move rfl rfl ?_) | refine RL_skip rfl rfl rfl rfl ?_ | refine RL_skipU rfl rfl rfl ?_
                    first | (refine RL_want rfl rfl ?_; refine L_move rfl rfl ?_) | refine RL_skip rfl rfl rfl rfl ?_ | refine RL_skipU rfl rfl rfl ?_
                    first | (refine RL_want rfl rfl ?_; (first | refine L_lss rfl rfl rfl (dtrue (by omega)) ?_ | refine L_lss rfl rfl rfl (dfalse (by omega)) ?_ | refine L_lss rfl rfl rfl rfl ?_)) | refine RL_skip rfl rfl rfl rfl ?_ | refine RL_skipU rfl rfl rfl ?_
                    first | refine L_pick_t rfl rfl rfl ?_ | refine L_pick_f rfl rfl rfl ?_
                    refine RL_nil' ?_
                    refine Nx_cutP (false, w) (is := [0, 1, 2, 3, 4, 5, 13, 14, 15, 16, 18, 233]) (I' := (fun (ok : Bool) (w : World) => (HS w5 w []) ∧ (ok = true → 0 ≤ p ∧ 0 ≤ q ∧ p < n ∧ q < n)) (false) (w)) rfl rfl rfl ?_
                    exact ⟨hs, fun h => by cases h⟩
                · refine W_region ?_
                  refine L_move rfl rfl ?_
                  first | refine L_geq rfl rfl rfl (dtrue (by omega)) ?_ | refine L_geq rfl rfl rfl (dfalse (by omega)) ?_ | refine L_geq rfl rfl rfl rfl ?_
                  refine L_move rfl rfl ?_
                  first | (refine RL_want rfl rfl ?_; refine L_move rfl rfl ?_) | refine RL_skip rfl rfl rfl rfl ?_ | refine RL_skipU rfl rfl rfl ?_
                  first | (refine RL_want rfl rfl ?_; (first | refine L_geq rfl rfl rfl (dtrue (by omega)) ?_ | refine L_geq rfl rfl rfl (dfalse (by omega)) ?_ | refine L_geq rfl rfl rfl rfl ?_)) | refine RL_skip rfl rfl rfl rfl ?_ | refine RL_skipU rfl rfl rfl ?_
                  first | refine L_pick_t rfl rfl rfl ?_ | refine L_pick_f rfl rfl rfl ?_
                  refine L_move rfl rfl ?_
                  first | (refine RL_want rfl rfl ?_; refine L_move rfl rfl ?_) | refine RL_skip rfl rfl rfl rfl ?_ | refine RL_skipU rfl rfl rfl ?_
                  first | (refine RL_want rfl rfl ?_; refine L_move rfl rfl ?_) | refine RL_skip rfl rfl rfl rfl ?_ | refine RL_skipU rfl rfl rfl ?_
                  first | (refine RL_want rfl rfl ?_; (first | refine L_lss rfl rfl rfl (dtrue (by omega)) ?_ | refine L_lss rfl rfl rfl (dfalse (by omega)) ?_ | refine L_lss rfl rfl rfl rfl ?_)) | refine RL_skip rfl rfl rfl rfl ?_ | refine RL_skipU rfl rfl rfl ?_
                  first | refine L_pick_t rfl rfl rfl ?_ | refine L_pick_f rfl rfl rfl ?_
                  refine L_move rfl rfl ?_
                  first | (refine RL_want rfl rfl ?_; refine L_move rfl rfl ?_) | refine RL_skip rfl rfl rfl rfl ?_ | refine RL_skipU rfl rfl rfl ?_
                  first | (refine RL_want rfl rfl ?_; refine L_move rfl rfl ?_) | refine RL_skip rfl rfl rfl rfl ?_ | refine RL_skipU rfl rfl rfl ?_
                  first | (refine RL_want rfl rfl ?_; (first | refine L_lss rfl rfl rfl (dtrue (by omega)) ?_ | refine L_lss rfl rfl rfl (dfalse (by omega)) ?_ | refine L_lss rfl rfl rfl rfl ?_)) | refine RL_skip rfl rfl rfl rfl ?_ | refine RL_skipU rfl rfl rfl ?_
                  first | refine L_pick_t rfl rfl rfl ?_ | refine L_pick_f rfl rfl rfl ?_
                  refine RL_nil' ?_
                  refine Nx_cutP (false, w) (is := [0, 1, 2, 3, 4, 5, 13, 14, 15, 16, 18, 233]) (I' := (fun (ok : Bool) (w : World) => (HS w5 w []) ∧ (ok = true → 0 ≤ p ∧ 0 ≤ q ∧ p < n ∧ q < n)) (false) (w)) rfl rfl rfl ?_
                  exact ⟨hs, fun h => by cases h⟩
              · refine W_region ?_
                refine L_move rfl rfl ?_
                first | refine L_geq rfl rfl rfl (dtrue (by omega)) ?_ | refine L_geq rfl rfl rfl (dfalse (by omega)) ?_ | refine L_geq rfl rfl rfl rfl ?_
                refine L_move rfl rfl ?_
                first | (refine RL_want rfl rfl ?_; refine L_move rfl rfl ?_) | refine RL_skip rfl rfl rfl rfl ?_ | refine RL_skipU rfl rfl rfl ?_
                first | (refine RL_want rfl rfl ?_; (first | refine L_geq rfl rfl rfl (dtrue (by omega)) ?_ | refine L_geq rfl rfl rfl (dfalse (by omega)) ?_ | refine L_geq rfl rfl rfl rfl ?_)) | refine RL_skip rfl rfl rfl rfl ?_ | refine RL_skipU rfl rfl rfl ?_
                first | refine L_pick_t rfl rfl rfl ?_ | refine L_pick_f rfl rfl rfl ?_
                refine L_move rfl rfl ?_
                first | (refine RL_want rfl rfl ?_; refine L_move rfl rfl ?_) | refine RL_skip rfl rfl rfl rfl ?_ | refine RL_skipU rfl rfl rfl ?_
                first | (refine RL_want rfl rfl ?_; refine L_move rfl rfl ?_) | refine RL_skip rfl rfl rfl rfl ?_ | refine RL_skipU rfl rfl rfl ?_
                first | (refine RL_want rfl rfl ?_; (first | refine L_lss rfl rfl rfl (dtrue (by omega)) ?_ | refine L_lss rfl rfl rfl (dfalse (by omega)) ?_ | refine L_lss rfl rfl rfl rfl ?_)) | refine RL_skip rfl rfl rfl rfl ?_ | refine RL_skipU rfl rfl rfl ?_
                first | refine L_pick_t rfl rfl rfl ?_ | refine L_pick_f rfl rfl rfl ?_
                refine L_move rfl rfl ?_
                first | (refine RL_want rfl rfl ?_; refine L_move rfl rfl ?_) | refine RL_skip rfl rfl rfl rfl ?_ | refine RL_skipU rfl rfl rfl ?_
                first | (refine RL_want rfl rfl ?_; refine L_move rfl rfl ?_) | refine RL_skip rfl rfl rfl rfl ?_ | refine RL_skipU rfl rfl rfl ?_
                first | (refine RL_want rfl rfl ?_; (first | refine L_lss rfl rfl rfl (dtrue (by omega)) ?_ | refine L_lss rfl rfl rfl (dfalse (by omega)) ?_ | refine L_lss rfl rfl rfl rfl ?_)) | refine RL_skip rfl rfl rfl rfl ?_ | refine RL_skipU rfl rfl rfl ?_
                first | refine L_pick_t rfl rfl rfl ?_ | refine L_pick_f rfl rfl rfl ?_
                refine RL_nil' ?_
                refine Nx_cutP (false, w) (is := [0, 1, 2, 3, 4, 5, 13, 14, 15, 16, 18, 233]) (I' := (fun (ok : Bool) (w : World) => (HS w5 w []) ∧ (ok = true → 0 ≤ p ∧ 0 ≤ q ∧ p < n ∧ q < n)) (false) (w)) rfl rfl rfl ?_
                exact ⟨hs, fun h => by cases h⟩
            · clear hs
              intro ok w hI
              show W _ _ _ _ [(0, .slice a k cp), (1, .int .i64 row), (2, .int .i64 more), (3, .int .i64 p), (4, .int .i64 q), (5, .slice ac kc cc), (13, .int .i64 n), (14, .slice qm ms.length cm), (15, .int .i64 t), (16, .int .i64 e), (18, .int .i64 cnt), (233, .bool ok)] w
              obtain ⟨hs, hok⟩ := hI
              refine W_cut1 (fun (w : World) => [(0, .slice a k cp), (1, .int .i64 row), (2, .int .i64 more), (3, .int .i64 p), (4, .int .i64 q), (5, .slice ac kc cc), (13, .int .i64 n), (14, .slice qm ms.length cm), (15, .int .i64 t), (16, .int .i64 e), (18, .int .i64 cnt)]) (fun (w : World) => w) (fun (w : World) => (HS w5 w [])) ?_ ?_
              · cases ok
                · refine W_if_false rfl ?_
                  refine W_skip' ?_
                  refine Nx_cutP (w) (is := [0, 1, 2, 3, 4, 5, 13, 14, 15, 16, 18]) (I' := (fun (w : World) => (HS w5 w [])) (w)) rfl rfl rfl ?_
                  exact hs
                · obtain ⟨h1, h2, h3, h4⟩ := hok rfl
                  obtain ⟨p', rfl⟩ := Int.eq_ofNat_of_zero_le h1
                  obtain ⟨q', rfl⟩ := Int.eq_ofNat_of_zero_le h2
                  have hpn : p' < n := by omega
                  have hqn : q' < n := by omega
                  refine W_if_true rfl ?_
                  refine W_seq ?_
                  refine W_region ?_
                  refine L_move rfl rfl ?_
                  refine L_call rfl Try.fun14 rfl (own_ok a k cp rows rvs w (hr.old hs Own.nil) hk (by omega) hlen6) ?_
                  rintro v6 w6 ⟨vs, Mo, Ms, hs1, hbo, hrb⟩
                  have hsz := hs.size
                  replace hs := hs.call hs1 (hbo.own.app (hrb.imp fun _ _ _ h => p77.bl h).own)
                  rw [List.nil_append] at hs
                  replace hbo := hbo.mono hsz
                  replace hrb := hrb.imp (q := p77 w5) fun _ _ _ h => p77.mono h hsz
                  clear hs1 hsz hok h1 h2
                  obtain ⟨B, capB, spB, rfl, rfl, hB, _⟩ := hbo.own_row (by omega)
                  have hvl := hrb.len
                  have hOs : ∀ {rs : List (List Int)} {Ms : List (Nat × Obj)}, RB (p77 w5) vs rs Ms → Own w5 ((B, Row 38 (vs ++ spB)) :: Ms) := fun h => Own.cons hB (h.imp fun _ _ _ h => p77.bl h).own
                  refine L_assign rfl rfl ?_
                  refine RL_then ?_
                  refine W_seq ?_
                  refine W_seq ?_
                  refine W_region ?_
                  refine L_move rfl rfl ?_
                  refine L_len rfl Try.underlying22 rfl ?_
                  refine L_move rfl rfl ?_
                  refine RL_then ?_
                  refine W_block ?_
                  refine W_loop4 (fun (i : Nat) (rs : List (List Int)) (Ms : List (Nat × Obj)) (w : World) => [(0, .slice a k cp), (1, .int .i64 row), (2, .int .i64 more), (3, .int .i64 (p' : Int)), (4, .int .i64 (q' : Int)), (5, .slice ac kc cc), (13, .int .i64 n), (14, .slice qm ms.length cm), (15, .int .i64 t), (16, .int .i64 e), (18, .int .i64 cnt), (33, .slice (some ⟨B, 0, none⟩) k capB), (237, .int .i64 k), (238, .int .i64 i)]) (fun (i : Nat) (rs : List (List Int)) (Ms : List (Nat × Obj)) (w : World) => w) (fun (i : Nat) (rs : List (List Int)) (Ms : List (Nat × Obj)) (w : World) => (i ≤ k) ∧ (rs.length = k) ∧ (∀ z, z < k → rs.getD z [] = if z < i then swl (rows.getD z []) p' q' else rows.getD z []) ∧ (HS w5 w ((B, Row 38 (vs ++ spB)) :: Ms)) ∧ (RB (p77 w5) vs rs Ms)) (fun (i : Nat) (rs : List (List Int)) (Ms : List (Nat × Obj)) (w : World) => k - i) (0) (rows) (Ms) (w6) (is := [0, 1, 2, 3, 4, 5, 13, 14, 15, 16, 18, 33, 237, 238]) rfl rfl ?_ ?_
                  · exact ⟨Nat.zero_le _, hk, fun z _ => by rw [if_neg (Nat.not_lt_zero _)], hs, hrb⟩
                  · clear hs hrb
                    intro i rs Ms w hI
                    show W _ _ _ _ [(0, .slice a k cp), (1, .int .i64 row), (2, .int .i64 more), (3, .int .i64 (p' : Int)), (4, .int .i64 (q' : Int)), (5, .slice ac kc cc), (13, .int .i64 n), (14, .slice qm ms.length cm), (15, .int .i64 t), (16, .int .i64 e), (18, .int .i64 cnt), (33, .slice (some ⟨B, 0, none⟩) k capB), (237, .int .i64 k), (238, .int .i64 i)] w
                    obtain ⟨hi, hrl2, hrs, hs, hrb⟩ := hI
                    by_cases hlt : i < k
                    · obtain ⟨v, M, Mr, hvr, ⟨g, cap, sp, rfl, rfl, hg, hcap⟩, hpm, hset⟩ := hrb.at i (by omega)
                      have hri : rs.getD i [] = rows.getD i [] := by rw [hrs i hlt, if_neg (Nat.lt_irrefl i)]
                      rw [hri, hw i hlt] at hvr hcap
                      rw [hri] at hpm
                      obtain ⟨R, hR⟩ : ∃ R, R = rows.getD i [] := ⟨_, rfl⟩
                      have hRl : R.length = n := by rw [hR]; exact hw i hlt
                      rw [← hR] at hpm
                      replace hs := hs.mem_perm (L' := (B, Row 38 (vs ++ spB)) :: (g, Row 2 (il R ++ .int .i64 77 :: sp)) :: Mr) (List.Perm.cons _ (hpm.trans (List.perm_append_comm (l₂ := [_]))))
                      have hvr' : (vs ++ spB)[i]? = some (.slice (some ⟨g, 0, none⟩) n cap) := by rw [List.getElem?_append_left (by omega)]; exact hvr
                      have hgp : (il R ++ .int .i64 77 :: sp)[p']? = some (.int .i64 (R.getD p' 0)) := il_get' (by omega)
                      have hgq : (il R ++ .int .i64 77 :: sp)[q']? = some (.int .i64 (R.getD q' 0)) := il_get' (by omega)
                      refine W_seq ?_
                      refine W_region ?_
                      first | refine L_lss rfl rfl rfl (dtrue (by omega)) ?_ | refine L_lss rfl rfl rfl (dfalse (by omega)) ?_ | refine L_lss rfl rfl rfl rfl ?_
                      refine RL_then ?_
                      refine W_seq ?_
                      refine W_if_true rfl ?_
                      refine W_skip' ?_
                      refine Nx_then ?_
                      refine W_seq ?_
                      refine W_block ?_
                      refine W_seq ?_
                      refine W_region ?_
                      refine L_move rfl rfl ?_
                      refine L_assign rfl rfl ?_
                      refine RL_then ?_
                      refine W_pht [0, 1, 2, 4, 5, 6, 7, 9, 10, 11, 12, 14, 17, 18, 19, 21] [3, 8, 13, 15, 16, 20, 22, 23, 24] [25, 26, 27] (fun _ _ _ => False) Try.mixed (chkAll_of (by kernel_rfl)) (fun _ _ _ _ _ h => h) hs ?_
                      refine PL_val rfl (fun w => R_move rfl) ?_
                      refine PL_val rfl (fun w => R_move rfl) ?_
                      refine PL_val rfl (fun w => R_idx1 Try.underlying22 Try.ti38 rfl rfl (by with_reducible first | exact natc_k _ | exact natc_a1 _ | exact natc_0 | exact natc_1 | exact natc_2 | exact natc_s1 _ (by omega) | exact natc_a2 _ | exact natc_add _ _ | exact natc_mul _ _ | exact natc (by omega)) (by omega) rfl) ?_
                      refine PL_val rfl (fun w => R_move rfl) ?_
                      refine PL_val rfl (fun w => R_move rfl) ?_
                      refine PL_val rfl (fun w => R_move rfl) ?_
                      refine PL_val rfl (fun w => R_idx1 Try.underlying22 Try.ti38 rfl rfl (by with_reducible first | exact natc_k _ | exact natc_a1 _ | exact natc_0 | exact natc_1 | exact natc_2 | exact natc_s1 _ (by omega) | exact natc_a2 _ | exact natc_add _ _ | exact natc_mul _ _ | exact natc (by omega)) (by omega) rfl) ?_
                      refine PL_val rfl (fun w => R_move rfl) ?_
                      refine PL_val rfl (fun w => R_move rfl) ?_
                      refine PL_val rfl (fun w => R_move rfl) ?_
                      refine PL_val rfl (fun w => R_idx1 Try.underlying22 Try.ti38 rfl rfl (by with_reducible first | exact natc_k _ | exact natc_a1 _ | exact natc_0 | exact natc_1 | exact natc_2 | exact natc_s1 _ (by omega) | exact natc_a2 _ | exact natc_add _ _ | exact natc_mul _ _ | exact natc (by omega)) (by omega) rfl) ?_
                      refine PL_val rfl (fun w => R_move rfl) ?_
                      refine PL_val rfl (fun w => R_move rfl) ?_
                      refine PL_val rfl (fun w => R_move rfl) ?_
                      refine PL_val rfl (fun w => R_idx1 Try.underlying22 Try.ti38 rfl rfl (by with_reducible first | exact natc_k _ | exact natc_a1 _ | exact natc_0 | exact natc_1 | exact natc_2 | exact natc_s1 _ (by omega) | exact natc_a2 _ | exact natc_add _ _ | exact natc_mul _ _ | exact natc (by omega)) (by omega) rfl) ?_
                      refine PL_val rfl (fun w => R_move rfl) ?_
                      refine PL_end ?_
                      refine HL_val rfl (fun w hs => R_load Try.one38 rfl (by exact hs.cellA (i := 0) rfl hvr')) ?_
                      refine HL_val rfl (fun w hs => R_load Try.one38 rfl (by exact hs.cellA (i := 0) rfl hvr')) ?_
                      refine HL_val rfl (fun w hs => R_load Try.one38 rfl (by exact hs.cellA (i := 0) rfl hvr')) ?_
                      refine HL_val rfl (fun w hs => R_idx1 Try.underlying38 Try.ti2 rfl rfl (by with_reducible first | exact natc_k _ | exact natc_a1 _ | exact natc_0 | exact natc_1 | exact natc_2 | exact natc_s1 _ (by omega) | exact natc_a2 _ | exact natc_add _ _ | exact natc_mul _ _ | exact natc (by omega)) (by omega) rfl) ?_
                      refine HL_val rfl (fun w hs => R_load Try.one2 rfl (by exact hs.cellA (i := 1) rfl hgq)) ?_
                      refine HL_val rfl (fun w hs => R_load Try.one38 rfl (by exact hs.cellA (i := 0) rfl hvr')) ?_
                      refine HL_val rfl (fun w hs => R_idx1 Try.underlying38 Try.ti2 rfl rfl (by with_reducible first | exact natc_k _ | exact natc_a1 _ | exact natc_0 | exact natc_1 | exact natc_2 | exact natc_s1 _ (by omega) | exact natc_a2 _ | exact natc_add _ _ | exact natc_mul _ _ | exact natc (by omega)) (by omega) rfl) ?_
                      refine HL_val rfl (fun w hs => R_load Try.one2 rfl (by exact hs.cellA (i := 1) rfl hgp)) ?_
                      refine HL_val rfl (fun w hs => R_idx1 Try.underlying38 Try.ti2 rfl rfl (by with_reducible first | exact natc_k _ | exact natc_a1 _ | exact natc_0 | exact natc_1 | exact natc_2 | exact natc_s1 _ (by omega) | exact natc_a2 _ | exact natc_add _ _ | exact natc_mul _ _ | exact natc (by omega)) (by omega) rfl) ?_
                      refine HL_tail ?_
                      intro w hs
                      refine L_store hs (i := 1) rfl Try.ti2 rfl rfl (by first | rfl | exact add_lit0 _ _ | exact Addr.add_lit ..) (by simp; omega) rfl ?_
                      intro w hs
                      try dsimp only [List.set_cons_succ, List.set_cons_zero, List.cons_append, List.nil_append] at hs
                      refine L_idx1 rfl Try.underlying38 Try.ti2 rfl rfl (by with_reducible first | exact natc_k _ | exact natc_a1 _ | exact natc_0 | exact natc_1 | exact natc_2 | exact natc_s1 _ (by omega) | exact natc_a2 _ | exact natc_add _ _ | exact natc_mul _ _ | exact natc (by omega)) (by omega) rfl ?_
                      refine L_store hs (i := 1) rfl Try.ti2 rfl rfl (by first | rfl | exact add_lit0 _ _ | exact Addr.add_lit ..) (by simp; omega) rfl ?_
                      intro w hs
                      try dsimp only [List.set_cons_succ, List.set_cons_zero, List.cons_append, List.nil_append] at hs
                      refine RL_nil' ?_
                      refine Nx_block ?_
                      refine Nx_then ?_
                      refine W_region ?_
                      first | refine L_add rfl rfl rfl (wrp_i64 (by omega)) ?_ | refine L_add rfl rfl rfl rfl ?_
                      refine L_move rfl rfl ?_
                      refine RL_nil' ?_
                      rw [il_set' _ _ _ _ (by omega), il_set' _ _ _ _ (by simp; omega)] at hs
                      have hRs : (R.set p' (R.getD q' 0)).set q' (R.getD p' 0) = swl R p' q' := rfl
                      rw [hRs] at hs
                      have hsl : (swl R p' q').length = n := by simp [swl, hRl]
                      obtain ⟨Ms', hrb', hpm'⟩ := hset (.slice (some ⟨g, 0, none⟩) n cap) (swl R p' q') [(g, Row 2 (il (swl R p' q') ++ .int .i64 77 :: sp))] ⟨g, cap, sp, by rw [hsl], rfl, hg, by omega⟩
                      have hvs : vs.set i (.slice (some ⟨g, 0, none⟩) n cap) = vs := by
                        apply List.ext_getElem?
                        intro z
                        rw [List.getElem?_set]
                        by_cases hz : i = z
                        · subst hz; rw [if_pos rfl, if_pos (by omega), hvr]
                        · rw [if_neg hz]
                      rw [hvs] at hrb'
                      refine Nx_loopP (i + 1, rs.set i (swl R p' q'), Ms', w) (is := [0, 1, 2, 3, 4, 5, 13, 14, 15, 16, 18, 33, 237, 238]) (I' := (fun (i : Nat) (rs : List (List Int)) (Ms : List (Nat × Obj)) (w : World) => (i ≤ k) ∧ (rs.length = k) ∧ (∀ z, z < k → rs.getD z [] = if z < i then swl (rows.getD z []) p' q' else rows.getD z []) ∧ (HS w5 w ((B, Row 38 (vs ++ spB)) :: Ms)) ∧ (RB (p77 w5) vs rs Ms)) (i + 1) (rs.set i (swl R p' q')) (Ms') (w)) rfl rfl rfl ?_ ?_
                      · refine ⟨by omega, by simp [hrl2], fun z hz => ?_, hs.mem_perm (List.Perm.cons _ ((List.perm_append_comm (l₁ := [_])).trans hpm'.symm)), hrb'⟩
                        by_cases hzi : z = i
                        · subst hzi; rw [getD_set_eq (by omega), if_pos (by omega), hR]
                        · rw [getD_set_ne2 hzi, hrs z hz]
                          by_cases h5 : z < i
                          · rw [if_pos h5, if_pos (by omega)]
                          · rw [if_neg h5, if_neg (by omega)]
                      · omega
                    · obtain rfl : k = i := by omega
                      have hrs' : ∀ z, z < k → rs.getD z [] = swl (rows.getD z []) p' q' := fun z hz => by rw [hrs z hz, if_pos hz]
                      have hSw : ∀ i, i < k → (rs.getD i []).length = n := fun i hi => by rw [hrs' i hi]; show (swl _ _ _).length = n; unfold swl; rw [List.length_set, List.length_set]; exact hw i hi
                      have hSe : ∀ i j, i < k → j < n → el rs i j = el rows i (if j = q' then p' else if j = p' then q' else j) := fun i j hi hj => by
                        show (rs.getD i []).getD j 0 = _
                        rw [hrs' i hi, swl_get (hw i hi) hpn hqn]
                      have hsn : ∀ j, j < n → (if j = q' then p' else if j = p' then q' else j) < n ∧ (if (if j = q' then p' else if j = p' then q' else j) = q' then p' else if (if j = q' then p' else if j = p' then q' else j) = p' then q' else (if j = q' then p' else if j = p' then q' else j)) = j := fun j hj => by
                        by_cases h1 : j = q'
                        · subst h1
                          simp only [if_true]
                          refine ⟨hpn, ?_⟩
                          by_cases h2 : p' = j
                          · rw [if_pos h2, h2]
                          · rw [if_neg h2]
                        · by_cases h2 : j = p'
                          · subst h2
                            simp only [if_neg h1, if_true]
                            exact ⟨hqn, trivial⟩
                          · simp only [if_neg h1, if_neg h2]; exact ⟨hj, trivial⟩
                      obtain ⟨hFS, hwS⟩ := mkFine hrl2 (by omega) (by omega) (by omega) hSw (fun i j hi hj => by rw [hSe i j hi hj]; exact hcost i _ hi (hsn j hj).1)
                      have hs3 : HS w5 w ([(B, Row 38 (vs ++ spB))] ++ Ms) := hs
                      have hrB : RB (pB w5) vs rs Ms := hrb.imp fun _ _ _ h => p77.bl h
                      refine W_seq ?_
                      refine W_region ?_
                      first | refine L_lss rfl rfl rfl (dtrue (by omega)) ?_ | refine L_lss rfl rfl rfl (dfalse (by omega)) ?_ | refine L_lss rfl rfl rfl rfl ?_
                      refine RL_then ?_
                      refine W_seq ?_
                      refine W_if_false rfl ?_
                      refine W_exit' ?_
                      refine Ex_then_exit ?_
                      refine Ex_loop_exit ?_
                      refine Ex_block_hit ?_
                      refine Nx_then ?_
                      refine W_seq ?_
                      refine W_region ?_
                      refine L_move rfl rfl ?_
                      refine L_call rfl Try.fun10 rfl (least_ok (some ⟨B, 0, none⟩) k capB rs vs w (hrB.rowsI hs3 (SlC.of_row (hs3.get (i := 0) rfl)) (fun i hi => by rw [hSw i (by omega)]; omega)) hrl2 (by omega)) ?_
                      rintro _ w7 ⟨v7, N7, ms', t', e', rfl, hs7, hbl7, hans7⟩
                      replace hs := (hs.nil (hs7.forget hbl7.own)).forget (hOs hrb)
                      have hLS' := ls_of hFS hans7
                      rw [hwS] at hLS'
                      obtain ⟨hee, htt⟩ := hLS.both hLS' (emb_cols (by omega) hsn (fun i j hi hj => hSe i j (by omega) hj)) (emb_cols (by omega) hsn (fun i j hi hj => by rw [hSe i _ (by omega) (hsn j hj).1, (hsn j hj).2]))
                      subst hee htt
                      refine L_move rfl rfl ?_
                      refine L_extract rfl rfl rfl ?_
                      refine L_extract rfl rfl rfl ?_
                      refine L_extract rfl rfl rfl ?_
                      refine L_assign rfl rfl ?_
                      refine L_assign rfl rfl ?_
                      refine L_assign rfl rfl ?_
                      refine RL_then ?_
                      refine W_seq ?_
                      refine W_region ?_
                      refine L_move rfl rfl ?_
                      refine L_move rfl rfl ?_
                      first | refine L_neq rfl rfl rfl (dtrue (by omega)) ?_ | refine L_neq rfl rfl rfl (dfalse (by omega)) ?_ | refine L_neq rfl rfl rfl rfl ?_
                      refine L_move rfl rfl ?_
                      first | (refine RL_want rfl rfl ?_; refine L_move rfl rfl ?_) | refine RL_skip rfl rfl rfl rfl ?_ | refine RL_skipU rfl rfl rfl ?_
                      first | (refine RL_want rfl rfl ?_; refine L_move rfl rfl ?_) | refine RL_skip rfl rfl rfl rfl ?_ | refine RL_skipU rfl rfl rfl ?_
                      first | (refine RL_want rfl rfl ?_; (first | refine L_neq rfl rfl rfl (dtrue (by omega)) ?_ | refine L_neq rfl rfl rfl (dfalse (by omega)) ?_ | refine L_neq rfl rfl rfl rfl ?_)) | refine RL_skip rfl rfl rfl rfl ?_ | refine RL_skipU rfl rfl rfl ?_
                      first | refine L_pick_t rfl rfl rfl ?_ | refine L_pick_f rfl rfl rfl ?_
                      refine RL_then ?_
                      refine W_if_false rfl ?_
                      refine W_skip' ?_
                      refine Nx_cutP (w7) (is := [0, 1, 2, 3, 4, 5, 13, 14, 15, 16, 18]) (I' := (fun (w : World) => (HS w5 w [])) (w7)) rfl rfl rfl ?_
                      exact hs
              · clear hok hs
                intro w hI
                show W _ _ _ _ [(0, .slice a k cp), (1, .int .i64 row), (2, .int .i64 more), (3, .int .i64 p), (4, .int .i64 q), (5, .slice ac kc cc), (13, .int .i64 n), (14, .slice qm ms.length cm), (15, .int .i64 t), (16, .int .i64 e), (18, .int .i64 cnt)] w
                have hs : HS w5 w [] := hI
                clear hI
                refine W_seq ?_
                refine W_region ?_
                refine L_move rfl rfl ?_
                refine L_len rfl Try.underlying22 rfl ?_
                refine L_make1 rfl hs Try.underlying22 Try.ti38 rfl rfl (by with_reducible first | exact natc_k _ | exact natc_a1 _ | exact natc_0 | exact natc_1 | exact natc_2 | exact natc_s1 _ (by omega) | exact natc_a2 _ | exact natc_add _ _ | exact natc_mul _ _ | exact natc (by omega)) (by with_reducible first | exact natc_k _ | exact natc_a1 _ | exact natc_0 | exact natc_1 | exact natc_2 | exact natc_s1 _ (by omega) | exact natc_a2 _ | exact natc_add _ _ | exact natc_mul _ _ | exact natc (by omega)) (by omega) (by omega) (by omega) rfl ?_
                intro b284 w hb284 hnb284 hs
                try dsimp only [List.set_cons_succ, List.set_cons_zero, List.cons_append, List.nil_append] at hs
                refine L_assign rfl rfl ?_
                refine RL_then ?_
                refine W_seq ?_
                refine W_seq ?_
                refine W_region ?_
                refine L_move rfl rfl ?_
                refine L_len rfl Try.underlying22 rfl ?_
                refine L_move rfl rfl ?_
                refine RL_then ?_
                refine W_block ?_
                have hb := hb284
                have hO : ∀ {o : Obj} {L : List (Nat × Obj)}, Own w5 L → Own w5 ((b284, o) :: L) := fun h => Own.cons hb h
                refine W_loop5 (fun (i : Nat) (vs : List Value) (rs : List (List Int)) (Ms : List (Nat × Obj)) (w : World) => [(0, .slice a k cp), (1, .int .i64 row), (2, .int .i64 more), (3, .int .i64 p), (4, .int .i64 q), (5, .slice ac kc cc), (13, .int .i64 n), (14, .slice qm ms.length cm), (15, .int .i64 t), (16, .int .i64 e), (18, .int .i64 cnt), (38, .slice (some ⟨b284, 0, none⟩) k k), (286, .int .i64 k), (287, .int .i64 i)]) (fun (i : Nat) (vs : List Value) (rs : List (List Int)) (Ms : List (Nat × Obj)) (w : World) => w) (fun (i : Nat) (vs : List Value) (rs : List (List Int)) (Ms : List (Nat × Obj)) (w : World) => (i ≤ k) ∧ (rs.length = k) ∧ (∀ z, z < i → ∃ c, c ≤ 1099511627776 ∧ rs.getD z [] = rows.getD z [] ++ [c]) ∧ (∀ z, i ≤ z → z < k → rs.getD z [] = []) ∧ (HS w5 w ((b284, Row 38 vs) :: Ms)) ∧ (RB (pB w5) vs rs Ms)) (fun (i : Nat) (vs : List Value) (rs : List (List Int)) (Ms : List (Nat × Obj)) (w : World) => k - i) (0) (List.replicate k (.slice none 0 0)) (List.replicate k []) ([]) (w) (is := [0, 1, 2, 3, 4, 5, 13, 14, 15, 16, 18, 38, 286, 287]) rfl rfl ?_ ?_
                · exact ⟨Nat.zero_le _, by simp, fun z hz => absurd hz (Nat.not_lt_zero _), fun z _ hz => by simp [List.getD, hz], hs, RB.nils k⟩
                · clear hs
                  intro i vs rs Ms w hI
                  show W _ _ _ _ [(0, .slice a k cp), (1, .int .i64 row), (2, .int .i64 more), (3, .int .i64 p), (4, .int .i64 q), (5, .slice ac kc cc), (13, .int .i64 n), (14, .slice qm ms.length cm), (15, .int .i64 t), (16, .int .i64 e), (18, .int .i64 cnt), (38, .slice (some ⟨b284, 0, none⟩) k k), (286, .int .i64 k), (287, .int .i64 i)] w
                  obtain ⟨hi, hrl2, hrs, hrn, hs, hrb⟩ := hI
                  have hvl := hrb.len
                  by_cases hlt : i < k
                  · obtain ⟨v0, M0, Mr, hv0, hb0, hpm, hset⟩ := hrb.at i (by omega)
                    have hOm := hrb.own
                    have hOr : Own w5 Mr := fun x hx => hOm x (hpm.mem_iff.2 (List.mem_append_left _ hx))
                    unfold pB at hb0
                    rw [hrn i (Nat.le_refl _) hlt] at hb0
                    replace hb0 : Bl w5 2 1 v0 0 [] M0 := hb0
                    obtain ⟨ao0, cp0, rfl, _⟩ := hb0.slice
                    have hs : HS w5 w (((b284, Row 38 vs) :: Mr) ++ M0) := hs.mem_perm (List.Perm.cons _ hpm)
                    have hOx : Own w5 (((b284, Row 38 vs) :: Mr) ++ M0) := (hO hOr).app hb0.own
                    obtain ⟨ai, ci, g1, g2, g3, g4⟩ := hr.row i (by omega)
                    rw [hw i hlt] at g1 g2 g3
                    obtain ⟨R0, hR0⟩ : ∃ R0, R0 = rows.getD i [] := ⟨_, rfl⟩
                    have hR0l : R0.length = n := by rw [hR0]; exact hw i hlt
                    rw [← hR0] at g4
                    refine W_seq ?_
                    refine W_region ?_
                    first | refine L_lss rfl rfl rfl (dtrue (by omega)) ?_ | refine L_lss rfl rfl rfl (dfalse (by omega)) ?_ | refine L_lss rfl rfl rfl rfl ?_
                    refine RL_then ?_
                    refine W_seq ?_
                    refine W_if_true rfl ?_
                    refine W_skip' ?_
                    refine Nx_then ?_
                    refine W_seq ?_
                    refine W_cut4 (fun (vs : List Value) (rs : List (List Int)) (Ms : List (Nat × Obj)) (w : World) => [(0, .slice a k cp), (1, .int .i64 row), (2, .int .i64 more), (3, .int .i64 p), (4, .int .i64 q), (5, .slice ac kc cc), (13, .int .i64 n), (14, .slice qm ms.length cm), (15, .int .i64 t), (16, .int .i64 e), (18, .int .i64 cnt), (38, .slice (some ⟨b284, 0, none⟩) k k), (286, .int .i64 k), (287, .int .i64 i)]) (fun (vs : List Value) (rs : List (List Int)) (Ms : List (Nat × Obj)) (w : World) => w) (fun (vs : List Value) (rs : List (List Int)) (Ms : List (Nat × Obj)) (w : World) => (rs.length = k) ∧ (∀ z, z < i + 1 → ∃ c, c ≤ 1099511627776 ∧ rs.getD z [] = rows.getD z [] ++ [c]) ∧ (∀ z, i + 1 ≤ z → z < k → rs.getD z [] = []) ∧ (HS w5 w ((b284, Row 38 vs) :: Ms)) ∧ (RB (pB w5) vs rs Ms)) ?_ ?_
                    · skip
                      refine W_block ?_
                      refine W_seq ?_
                      refine W_region ?_
                      refine L_move rfl rfl ?_
                      refine L_assign rfl rfl ?_
                      refine RL_then ?_
                      refine W_seq ?_
                      refine W_sg Try.mixed ?_
                      replace hs := hs.drewN 1
                      refine SG_stage [0, 1, 2, 3, 4, 6, 7, 8] [] [] (fun _ _ _ => False) (g' := 7) (by kernel_rfl) (by kernel_rfl) (fun _ _ _ _ _ h => h) hs ?_
                      refine PL_val rfl (fun w => R_move rfl) ?_
                      refine PL_val rfl (fun w => R_move rfl) ?_
                      refine PL_val rfl (fun w => R_move rfl) ?_
                      refine PL_val rfl (fun w => R_move rfl) ?_
                      refine PL_val rfl (fun w => R_idx1 Try.underlying22 Try.ti38 rfl rfl (by with_reducible first | exact natc_k _ | exact natc_a1 _ | exact natc_0 | exact natc_1 | exact natc_2 | exact natc_s1 _ (by omega) | exact natc_a2 _ | exact natc_add _ _ | exact natc_mul _ _ | exact natc (by omega)) (by omega) rfl) ?_
                      refine PL_val rfl (fun w => R_move rfl) ?_
                      refine PL_val rfl (fun w => R_move rfl) ?_
                      refine PL_val rfl (fun w => R_idx1 Try.underlying22 Try.ti38 rfl rfl (by with_reducible first | exact natc_k _ | exact natc_a1 _ | exact natc_0 | exact natc_1 | exact natc_2 | exact natc_s1 _ (by omega) | exact natc_a2 _ | exact natc_add _ _ | exact natc_mul _ _ | exact natc (by omega)) (by omega) (hr.sl.ao (by omega))) ?_
                      refine PL_end ?_
                      refine HL_tail ?_
                      intro w hs
                      refine RL_sg ?_
                      refine SG_join (g' := 2) (l' := #[true, true, true, true, true, true, true, true, true, true, true, true, true, false, false]) (fun S => ∀ (v302 : Value) (M302 : List (Nat × Obj)) (w : World), (HS w5 w (((b284, Row 38 vs) :: Mr) ++ M302)) ∧ (Bl w5 2 1 v302 (n + 1) (il R0 ++ [.int .i64 (-1)]) M302) → S [(0, .slice a k cp), (1, .int .i64 row), (2, .int .i64 more), (3, .int .i64 p), (4, .int .i64 q), (5, .slice ac kc cc), (13, .int .i64 n), (14, .slice qm ms.length cm), (15, .int .i64 t), (16, .int .i64 e), (18, .int .i64 cnt), (38, .slice (some ⟨b284, 0, none⟩) k k), (39, .int .i64 i), (286, .int .i64 k), (287, .int .i64 i), (290, .slice (some ⟨b284, 0, none⟩) k k), (291, .int .i64 i), (302, v302)] w) ?_ ?_
                      · intro fin
                        refine SG_pick3 (i := 5) (l1 := #[true, true, true, true, true, true, true, true, true, false, false, false, false, false, false]) (j := 9) (l2 := #[true, true, true, true, true, false, true, true, true, true, false, false, false, false, false]) (m := 11) (l3 := #[true, true, true, true, true, false, true, true, true, false, false, true, false, false, false]) (by kernel_rfl) (by kernel_rfl) (by kernel_rfl) (by kernel_rfl) (by kernel_rfl) ?_ ?_ ?_
                        · refine L_load rfl Try.one38 rfl (by exact hs.cellA (i := 0) rfl hv0) ?_
                          refine RL_sg ?_
                          refine SG_pick2 (i := 9) (l1 := #[true, true, true, true, true, true, true, true, true, true, false, false, false, false, false]) (j := 11) (l2 := #[true, true, true, true, true, true, true, true, true, false, false, true, false, false, false]) (by kernel_rfl) (by kernel_rfl) (by kernel_rfl) (by kernel_rfl) ?_ ?_
                          · refine L_load rfl Try.one38 rfl (by first | exact (hr.sl.old hs hOx).get g1 | exact (hr.sl.old hs (hOx.app (Own.cons hb301 Own.nil))).get g1) ?_
                            refine RL_sg ?_
                            refine SG_pick2 (i := 10) (l1 := #[true, true, true, true, true, true, true, true, true, true, true, false, false, false, false]) (j := 11) (l2 := #[true, true, true, true, true, true, true, true, true, true, false, true, false, false, false]) (by kernel_rfl) (by kernel_rfl) (by kernel_rfl) (by kernel_rfl) ?_ ?_
                            · (first | refine L_appendS (L := (b284, Row 38 vs) :: Mr) (news := il R0) rfl Try.underlying38 Try.ti2 rfl (by decide) hs hb0 rfl rfl (by rw [il_length, hR0l, Nat.mul_one]) (g4.old hs hOx) (il_one _) (by omega) (by omega) ?_ | refine L_appendS (L := ((b284, Row 38 vs) :: Mr) ++ [(b301, Row 2 [.int .i64 (-1)])]) (news := il R0) rfl Try.underlying38 Try.ti2 rfl (by decide) hs.swap hb0 rfl rfl (by rw [il_length, hR0l, Nat.mul_one]) (g4.old hs (hOx.app (Own.cons hb301 Own.nil))) (il_one _) (by omega) (by omega) ?_); intro v300 w M300 hs hb300; rw [List.nil_append, Nat.zero_add] at hb300
                              refine RL_sg ?_
                              refine SG_pick1 (i := 11) (l1 := #[true, true, true, true, true, true, true, true, true, true, true, true, false, false, false]) (by kernel_rfl) (by kernel_rfl) (by kernel_rfl) ?_
                              refine L_buildSlice1 rfl hs Try.underlying38 Try.ti2 rfl (by decide) rfl rfl ?_
                              intro b301 w hb301 hnb301 hs
                              simp only [List.map_cons, List.map_nil] at hs
                              try dsimp only [List.set_cons_succ, List.set_cons_zero, List.cons_append, List.nil_append] at hs
                              refine RL_sg ?_
                              refine SG_pick1 (i := 12) (l1 := #[true, true, true, true, true, true, true, true, true, true, true, true, true, false, false]) (by kernel_rfl) (by kernel_rfl) (by kernel_rfl) ?_
                              refine L_appendT (L := (b284, Row 38 vs) :: Mr) (M := M300) rfl Try.underlying38 Try.ti2 rfl (by first | exact hs | exact hs.swap) hb301 hb300 rfl rfl rfl (by simp [Value.oneCell']) (by omega) (by omega) ?_; intro v302 w M302 hs hb302
                              refine RL_sg ?_
                              refine SG_env (fin v302 M302 w ⟨hs, hb302⟩) (looks_cons rfl (looks_cons rfl (looks_cons rfl (looks_cons rfl (looks_cons rfl (looks_cons rfl (looks_cons rfl (looks_cons rfl (looks_cons rfl (looks_cons rfl (looks_cons rfl (looks_cons rfl (looks_cons rfl (looks_cons rfl (looks_cons rfl (looks_cons rfl (looks_cons rfl (looks_cons rfl looks_nil))))))))))))))))))
                            · refine L_buildSlice1 rfl hs Try.underlying38 Try.ti2 rfl (by decide) rfl rfl ?_
                              intro b301 w hb301 hnb301 hs
                              simp only [List.map_cons, List.map_nil] at hs
                              try dsimp only [List.set_cons_succ, List.set_cons_zero, List.cons_append, List.nil_append] at hs
                              refine RL_sg ?_
                              refine SG_pick1 (i := 10) (l1 := #[true, true, true, true, true, true, true, true, true, true, true, true, false, false, false]) (by kernel_rfl) (by kernel_rfl) (by kernel_rfl) ?_
                              (first | refine L_appendS (L := (b284, Row 38 vs) :: Mr) (news := il R0) rfl Try.underlying38 Try.ti2 rfl (by decide) hs hb0 rfl rfl (by rw [il_length, hR0l, Nat.mul_one]) (g4.old hs hOx) (il_one _) (by omega) (by omega) ?_ | refine L_appendS (L := ((b284, Row 38 vs) :: Mr) ++ [(b301, Row 2 [.int .i64 (-1)])]) (news := il R0) rfl Try.underlying38 Try.ti2 rfl (by decide) hs.swap hb0 rfl rfl (by rw [il_length, hR0l, Nat.mul_one]) (g4.old hs (hOx.app (Own.cons hb301 Own.nil))) (il_one _) (by omega) (by omega) ?_); intro v300 w M300 hs hb300; rw [List.nil_append, Nat.zero_add] at hb300
                              refine RL_sg ?_
                              refine SG_pick1 (i := 12) (l1 := #[true, true, true, true, true, true, true, true, true, true, true, true, true, false, false]) (by kernel_rfl) (by kernel_rfl) (by kernel_rfl) ?_
                              refine L_appendT (L := (b284, Row 38 vs) :: Mr) (M := M300) rfl Try.underlying38 Try.ti2 rfl (by first | exact hs | exact hs.swap) hb301 hb300 rfl rfl rfl (by simp [Value.oneCell']) (by omega) (by omega) ?_; intro v302 w M302 hs hb302
                              refine RL_sg ?_
                              refine SG_env (fin v302 M302 w ⟨hs, hb302⟩) (looks_cons rfl (looks_cons rfl (looks_cons rfl (looks_cons rfl (looks_cons rfl (looks_cons rfl (looks_cons rfl (looks_cons rfl (looks_cons rfl (looks_cons rfl (looks_cons rfl (looks_cons rfl (looks_cons rfl (looks_cons rfl (looks_cons rfl (looks_cons rfl (looks_cons rfl (looks_cons rfl looks_nil))))))))))))))))))
                          · refine L_buildSlice1 rfl hs Try.underlying38 Try.ti2 rfl (by decide) rfl rfl ?_
                            intro b301 w hb301 hnb301 hs
                            simp only [List.map_cons, List.map_nil] at hs
                            try dsimp only [List.set_cons_succ, List.set_cons_zero, List.cons_append, List.nil_append] at hs
                            refine RL_sg ?_
                            refine SG_pick1 (i := 9) (l1 := #[true, true, true, true, true, true, true, true, true, true, false, true, false, false, false]) (by kernel_rfl) (by kernel_rfl) (by kernel_rfl) ?_
                            refine L_load rfl Try.one38 rfl (by first | exact (hr.sl.old hs hOx).get g1 | exact (hr.sl.old hs (hOx.app (Own.cons hb301 Own.nil))).get g1) ?_
                            refine RL_sg ?_
                            refine SG_pick1 (i := 10) (l1 := #[true, true, true, true, true, true, true, true, true, true, true, true, false, false, false]) (by kernel_rfl) (by kernel_rfl) (by kernel_rfl) ?_
                            (first | refine L_appendS (L := (b284, Row 38 vs) :: Mr) (news := il R0) rfl Try.underlying38 Try.ti2 rfl (by decide) hs hb0 rfl rfl (by rw [il_length, hR0l, Nat.mul_one]) (g4.old hs hOx) (il_one _) (by omega) (by omega) ?_ | refine L_appendS (L := ((b284, Row 38 vs) :: Mr) ++ [(b301, Row 2 [.int .i64 (-1)])]) (news := il R0) rfl Try.underlying38 Try.ti2 rfl (by decide) hs.swap hb0 rfl rfl (by rw [il_length, hR0l, Nat.mul_one]) (g4.old hs (hOx.app (Own.cons hb301 Own.nil))) (il_one _) (by omega) (by omega) ?_); intro v300 w M300 hs hb300; rw [List.nil_append, Nat.zero_add] at hb300
                            refine RL_sg ?_
                            refine SG_pick1 (i := 12) (l1 := #[true, true, true, true, true, true, true, true, true, true, true, true, true, false, false]) (by kernel_rfl) (by kernel_rfl) (by kernel_rfl) ?_
                            refine L_appendT (L := (b284, Row 38 vs) :: Mr) (M := M300) rfl Try.underlying38 Try.ti2 rfl (by first | exact hs | exact hs.swap) hb301 hb300 rfl rfl rfl (by simp [Value.oneCell']) (by omega) (by omega) ?_; intro v302 w M302 hs hb302
                            refine RL_sg ?_
                            refine SG_env (fin v302 M302 w ⟨hs, hb302⟩) (looks_cons rfl (looks_cons rfl (looks_cons rfl (looks_cons rfl (looks_cons rfl (looks_cons rfl (looks_cons rfl (looks_cons rfl (looks_cons rfl (looks_cons rfl (looks_cons rfl (looks_cons rfl (looks_cons rfl (looks_cons rfl (looks_cons rfl (looks_cons rfl (looks_cons rfl (looks_cons rfl looks_nil))))))))))))))))))
                        · refine L_load rfl Try.one38 rfl (by first | exact (hr.sl.old hs hOx).get g1 | exact (hr.sl.old hs (hOx.app (Own.cons hb301 Own.nil))).get g1) ?_
                          refine RL_sg ?_
                          refine SG_pick2 (i := 5) (l1 := #[true, true, true, true, true, true, true, true, true, true, false, false, false, false, false]) (j := 11) (l2 := #[true, true, true, true, true, false, true, true, true, true, false, true, false, false, false]) (by kernel_rfl) (by kernel_rfl) (by kernel_rfl) (by kernel_rfl) ?_ ?_
                          · refine L_load rfl Try.one38 rfl (by exact hs.cellA (i := 0) rfl hv0) ?_
                            refine RL_sg ?_
                            refine SG_pick2 (i := 10) (l1 := #[true, true, true, true, true, true, true, true, true, true, true, false, false, false, false]) (j := 11) (l2 := #[true, true, true, true, true, true, true, true, true, true, false, true, false, false, false]) (by kernel_rfl) (by kernel_rfl) (by kernel_rfl) (by kernel_rfl) ?_ ?_
                            · (first | refine L_appendS (L := (b284, Row 38 vs) :: Mr) (news := il R0) rfl Try.underlying38 Try.ti2 rfl (by decide) hs hb0 rfl rfl (by rw [il_length, hR0l, Nat.mul_one]) (g4.old hs hOx) (il_one _) (by omega) (by omega) ?_ | refine L_appendS (L := ((b284, Row 38 vs) :: Mr) ++ [(b301, Row 2 [.int .i64 (-1)])]) (news := il R0) rfl Try.underlying38 Try.ti2 rfl (by decide) hs.swap hb0 rfl rfl (by rw [il_length, hR0l, Nat.mul_one]) (g4.old hs (hOx.app (Own.cons hb301 Own.nil))) (il_one _) (by omega) (by omega) ?_); intro v300 w M300 hs hb300; rw [List.nil_append, Nat.zero_add] at hb300
                              refine RL_sg ?_
                              refine SG_pick1 (i := 11) (l1 := #[true, true, true, true, true, true, true, true, true, true, true, true, false, false, false]) (by kernel_rfl) (by kernel_rfl) (by kernel_rfl) ?_
                              refine L_buildSlice1 rfl hs Try.underlying38 Try.ti2 rfl (by decide) rfl rfl ?_
                              intro b301 w hb301 hnb301 hs
                              simp only [List.map_cons, List.map_nil] at hs
                              try dsimp only [List.set_cons_succ, List.set_cons_zero, List.cons_append, List.nil_append] at hs
                              refine RL_sg ?_
                              refine SG_pick1 (i := 12) (l1 := #[true, true, true, true, true, true, true, true, true, true, true, true, true, false, false]) (by kernel_rfl) (by kernel_rfl) (by kernel_rfl) ?_
                              refine L_appendT (L := (b284, Row 38 vs) :: Mr) (M := M300) rfl Try.underlying38 Try.ti2 rfl (by first | exact hs | exact hs.swap) hb301 hb300 rfl rfl rfl (by simp [Value.oneCell']) (by omega) (by omega) ?_; intro v302 w M302 hs hb302
                              refine RL_sg ?_
                              refine SG_env (fin v302 M302 w ⟨hs, hb302⟩) (looks_cons rfl (looks_cons rfl (looks_cons rfl (looks_cons rfl (looks_cons rfl (looks_cons rfl (looks_cons rfl (looks_cons rfl (looks_cons rfl (looks_cons rfl (looks_cons rfl (looks_cons rfl (looks_cons rfl (looks_cons rfl (looks_cons rfl (looks_cons rfl (looks_cons rfl (looks_cons rfl looks_nil))))))))))))))))))
                            · refine L_buildSlice1 rfl hs Try.underlying38 Try.ti2 rfl (by decide) rfl rfl ?_
                              intro b301 w hb301 hnb301 hs
                              simp only [List.map_cons, List.map_nil] at hs
                              try dsimp only [List.set_cons_succ, List.set_cons_zero, List.cons_append, List.nil_append] at hs
                              refine RL_sg ?_
                              refine SG_pick1 (i := 10) (l1 := #[true, true, true, true, true, true, true, true, true, true, true, true, false, false, false]) (by kernel_rfl) (by kernel_rfl) (by kernel_rfl) ?_
                              (first | refine L_appendS (L := (b284, Row 38 vs) :: Mr) (news := il R0) rfl Try.underlying38 Try.ti2 rfl (by decide) hs hb0 rfl rfl (by rw [il_length, hR0l, Nat.mul_one]) (g4.old hs hOx) (il_one _) (by omega) (by omega) ?_ | refine L_appendS (L := ((b284, Row 38 vs) :: Mr) ++ [(b301, Row 2 [.int .i64 (-1)])]) (news := il R0) rfl Try.underlying38 Try.ti2 rfl (by decide) hs.swap hb0 rfl rfl (by rw [il_length, hR0l, Nat.mul_one]) (g4.old hs (hOx.app (Own.cons hb301 Own.nil))) (il_one _) (by omega) (by omega) ?_); intro v300 w M300 hs hb300; rw [List.nil_append, Nat.zero_add] at hb300
                              refine RL_sg ?_
                              refine SG_pick1 (i := 12) (l1 := #[true, true, true, true, true, true, true, true, true, true, true, true, true, false, false]) (by kernel_rfl) (by kernel_rfl) (by kernel_rfl) ?_
                              refine L_appendT (L := (b284, Row 38 vs) :: Mr) (M := M300) rfl Try.underlying38 Try.ti2 rfl (by first | exact hs | exact hs.swap) hb301 hb300 rfl rfl rfl (by simp [Value.oneCell']) (by omega) (by omega) ?_; intro v302 w M302 hs hb302
                              refine RL_sg ?_
                              refine SG_env (fin v302 M302 w ⟨hs, hb302⟩) (looks_cons rfl (looks_cons rfl (looks_cons rfl (looks_cons rfl (looks_cons rfl (looks_cons rfl (looks_cons rfl (looks_cons rfl (looks_cons rfl (looks_cons rfl (looks_cons rfl (looks_cons rfl (looks_cons rfl (looks_cons rfl (looks_cons rfl (looks_cons rfl (looks_cons rfl (looks_cons rfl looks_nil))))))))))))))))))
                          · refine L_buildSlice1 rfl hs Try.underlying38 Try.ti2 rfl (by decide) rfl rfl ?_
                            intro b301 w hb301 hnb301 hs
                            simp only [List.map_cons, List.map_nil] at hs
                            try dsimp only [List.set_cons_succ, List.set_cons_zero, List.cons_append, List.nil_append] at hs
                            refine RL_sg ?_
                            refine SG_pick1 (i := 5) (l1 := #[true, true, true, true, true, true, true, true, true, true, false, true, false, false, false]) (by kernel_rfl) (by kernel_rfl) (by kernel_rfl) ?_
                            refine L_load rfl Try.one38 rfl (by exact hs.cellA (i := 0) rfl hv0) ?_
                            refine RL_sg ?_
                            refine SG_pick1 (i := 10) (l1 := #[true, true, true, true, true, true, true, true, true, true, true, true, false, false, false]) (by kernel_rfl) (by kernel_rfl) (by kernel_rfl) ?_
                            (first | refine L_appendS (L := (b284, Row 38 vs) :: Mr) (news := il R0) rfl Try.underlying38 Try.ti2 rfl (by decide) hs hb0 rfl rfl (by rw [il_length, hR0l, Nat.mul_one]) (g4.old hs hOx) (il_one _) (by omega) (by omega) ?_ | refine L_appendS (L := ((b284, Row 38 vs) :: Mr) ++ [(b301, Row 2 [.int .i64 (-1)])]) (news := il R0) rfl Try.underlying38 Try.ti2 rfl (by decide) hs.swap hb0 rfl rfl (by rw [il_length, hR0l, Nat.mul_one]) (g4.old hs (hOx.app (Own.cons hb301 Own.nil))) (il_one _) (by omega) (by omega) ?_); intro v300 w M300 hs hb300; rw [List.nil_append, Nat.zero_add] at hb300
                            refine RL_sg ?_
                            refine SG_pick1 (i := 12) (l1 := #[true, true, true, true, true, true, true, true, true, true, true, true, true, false, false]) (by kernel_rfl) (by kernel_rfl) (by kernel_rfl) ?_
                            refine L_appendT (L := (b284, Row 38 vs) :: Mr) (M := M300) rfl Try.underlying38 Try.ti2 rfl (by first | exact hs | exact hs.swap) hb301 hb300 rfl rfl rfl (by simp [Value.oneCell']) (by omega) (by omega) ?_; intro v302 w M302 hs hb302
                            refine RL_sg ?_
                            refine SG_env (fin v302 M302 w ⟨hs, hb302⟩) (looks_cons rfl (looks_cons rfl (looks_cons rfl (looks_cons rfl (looks_cons rfl (looks_cons rfl (looks_cons rfl (looks_cons rfl (looks_cons rfl (looks_cons rfl (looks_cons rfl (looks_cons rfl (looks_cons rfl (looks_cons rfl (looks_cons rfl (looks_cons rfl (looks_cons rfl (looks_cons rfl looks_nil))))))))))))))))))
                        · refine L_buildSlice1 rfl hs Try.underlying38 Try.ti2 rfl (by decide) rfl rfl ?_
                          intro b301 w hb301 hnb301 hs
                          simp only [List.map_cons, List.map_nil] at hs
                          try dsimp only [List.set_cons_succ, List.set_cons_zero, List.cons_append, List.nil_append] at hs
                          refine RL_sg ?_
                          refine SG_pick2 (i := 5) (l1 := #[true, true, true, true, true, true, true, true, true, false, false, true, false, false, false]) (j := 9) (l2 := #[true, true, true, true, true, false, true, true, true, true, false, true, false, false, false]) (by kernel_rfl) (by kernel_rfl) (by kernel_rfl) (by kernel_rfl) ?_ ?_
                          · refine L_load rfl Try.one38 rfl (by exact hs.cellA (i := 0) rfl hv0) ?_
                            refine RL_sg ?_
                            refine SG_pick1 (i := 9) (l1 := #[true, true, true, true, true, true, true, true, true, true, false, true, false, false, false]) (by kernel_rfl) (by kernel_rfl) (by kernel_rfl) ?_
                            refine L_load rfl Try.one38 rfl (by first | exact (hr.sl.old hs hOx).get g1 | exact (hr.sl.old hs (hOx.app (Own.cons hb301 Own.nil))).get g1) ?_
                            refine RL_sg ?_
                            refine SG_pick1 (i := 10) (l1 := #[true, true, true, true, true, true, true, true, true, true, true, true, false, false, false]) (by kernel_rfl) (by kernel_rfl) (by kernel_rfl) ?_
                            (first | refine L_appendS (L := (b284, Row 38 vs) :: Mr) (news := il R0) rfl Try.underlying38 Try.ti2 rfl (by decide) hs hb0 rfl rfl (by rw [il_length, hR0l, Nat.mul_one]) (g4.old hs hOx) (il_one _) (by omega) (by omega) ?_ | refine L_appendS (L := ((b284, Row 38 vs) :: Mr) ++ [(b301, Row 2 [.int .i64 (-1)])]) (news := il R0) rfl Try.underlying38 Try.ti2 rfl (by decide) hs.swap hb0 rfl rfl (by rw [il_length, hR0l, Nat.mul_one]) (g4.old hs (hOx.app (Own.cons hb301 Own.nil))) (il_one _) (by omega) (by omega) ?_); intro v300 w M300 hs hb300; rw [List.nil_append, Nat.zero_add] at hb300
                            refine RL_sg ?_
                            refine SG_pick1 (i := 12) (l1 := #[true, true, true, true, true, true, true, true, true, true, true, true, true, false, false]) (by kernel_rfl) (by kernel_rfl) (by kernel_rfl) ?_
                            refine L_appendT (L := (b284, Row 38 vs) :: Mr) (M := M300) rfl Try.underlying38 Try.ti2 rfl (by first | exact hs | exact hs.swap) hb301 hb300 rfl rfl rfl (by simp [Value.oneCell']) (by omega) (by omega) ?_; intro v302 w M302 hs hb302
                            refine RL_sg ?_
                            refine SG_env (fin v302 M302 w ⟨hs, hb302⟩) (looks_cons rfl (looks_cons rfl (looks_cons rfl (looks_cons rfl (looks_cons rfl (looks_cons rfl (looks_cons rfl (looks_cons rfl (looks_cons rfl (looks_cons rfl (looks_cons rfl (looks_cons rfl (looks_cons rfl (looks_cons rfl (looks_cons rfl (looks_cons rfl (looks_cons rfl (looks_cons rfl looks_nil))))))))))))))))))
                          · refine L_load rfl Try.one38 rfl (by first | exact (hr.sl.old hs hOx).get g1 | exact (hr.sl.old hs (hOx.app (Own.cons hb301 Own.nil))).get g1) ?_
                            refine RL_sg ?_
                            refine SG_pick1 (i := 5) (l1 := #[true, true, true, true, true, true, true, true, true, true, false, true, false, false, false]) (by kernel_rfl) (by kernel_rfl) (by kernel_rfl) ?_
                            refine L_load rfl Try.one38 rfl (by exact hs.cellA (i := 0) rfl hv0) ?_
                            refine RL_sg ?_
                            refine SG_pick1 (i := 10) (l1 := #[true, true, true, true, true, true, true, true, true, true, true, true, false, false, false]) (by kernel_rfl) (by kernel_rfl) (by kernel_rfl) ?_
                            (first | refine L_appendS (L := (b284, Row 38 vs) :: Mr) (news := il R0) rfl Try.underlying38 Try.ti2 rfl (by decide) hs hb0 rfl rfl (by rw [il_length, hR0l, Nat.mul_one]) (g4.old hs hOx) (il_one _) (by omega) (by omega) ?_ | refine L_appendS (L := ((b284, Row 38 vs) :: Mr) ++ [(b301, Row 2 [.int .i64 (-1)])]) (news := il R0) rfl Try.underlying38 Try.ti2 rfl (by decide) hs.swap hb0 rfl rfl (by rw [il_length, hR0l, Nat.mul_one]) (g4.old hs (hOx.app (Own.cons hb301 Own.nil))) (il_one _) (by omega) (by omega) ?_); intro v300 w M300 hs hb300; rw [List.nil_append, Nat.zero_add] at hb300
                            refine RL_sg ?_
                            refine SG_pick1 (i := 12) (l1 := #[true, true, true, true, true, true, true, true, true, true, true, true, true, false, false]) (by kernel_rfl) (by kernel_rfl) (by kernel_rfl) ?_
                            refine L_appendT (L := (b284, Row 38 vs) :: Mr) (M := M300) rfl Try.underlying38 Try.ti2 rfl (by first | exact hs | exact hs.swap) hb301 hb300 rfl rfl rfl (by simp [Value.oneCell']) (by omega) (by omega) ?_; intro v302 w M302 hs hb302
                            refine RL_sg ?_
                            refine SG_env (fin v302 M302 w ⟨hs, hb302⟩) (looks_cons rfl (looks_cons rfl (looks_cons rfl (looks_cons rfl (looks_cons rfl (looks_cons rfl (looks_cons rfl (looks_cons rfl (looks_cons rfl (looks_cons rfl (looks_cons rfl (looks_cons rfl (looks_cons rfl (looks_cons rfl (looks_cons rfl (looks_cons rfl (looks_cons rfl (looks_cons rfl looks_nil))))))))))))))))))
                      · clear hs
                        intro v302 M302 w hI
                        show SG _ _ _ _ _ _ [(0, .slice a k cp), (1, .int .i64 row), (2, .int .i64 more), (3, .int .i64 p), (4, .int .i64 q), (5, .slice ac kc cc), (13, .int .i64 n), (14, .slice qm ms.length cm), (15, .int .i64 t), (16, .int .i64 e), (18, .int .i64 cnt), (38, .slice (some ⟨b284, 0, none⟩) k k), (39, .int .i64 i), (286, .int .i64 k), (287, .int .i64 i), (290, .slice (some ⟨b284, 0, none⟩) k k), (291, .int .i64 i), (302, v302)] w
                        obtain ⟨hs, hb2⟩ := hI
                        obtain ⟨g, cap, sp, rfl, rfl, hg, hcap, hcap2⟩ := hb2.own_row (by omega)
                        refine SG_pick1 (i := 13) (l1 := #[true, true, true, true, true, true, true, true, true, true, true, true, true, true, false]) (by kernel_rfl) (by kernel_rfl) (by kernel_rfl) ?_
                        refine L_idx1 rfl Try.underlying22 Try.ti38 rfl rfl (by with_reducible first | exact natc_k _ | exact natc_a1 _ | exact natc_0 | exact natc_1 | exact natc_2 | exact natc_s1 _ (by omega) | exact natc_a2 _ | exact natc_add _ _ | exact natc_mul _ _ | exact natc (by omega)) (by omega) rfl ?_
                        refine RL_sg ?_
                        refine SG_pick1 (i := 14) (l1 := #[true, true, true, true, true, true, true, true, true, true, true, true, true, true, true]) (by kernel_rfl) (by kernel_rfl) (by kernel_rfl) ?_
                        refine L_store hs (i := 0) rfl Try.ti38 rfl rfl (by first | rfl | exact add_lit0 _ _ | exact Addr.add_lit ..) (by omega) rfl ?_
                        intro w hs
                        try dsimp only [List.set_cons_succ, List.set_cons_zero, List.cons_append, List.nil_append] at hs
                        refine RL_sg ?_
                        refine SG_end (by kernel_rfl) ?_
                        refine Nx_then ?_
                        refine W_seq ?_
                        replace hs := hs.mem_perm (L' := (b284, Row 38 (vs.set i (.slice (some ⟨g, 0, none⟩) (n + 1) cap))) :: (g, Row 2 (il (R0 ++ [-1]) ++ sp)) :: Mr) (List.Perm.cons _ (by rw [← il_snoc]; exact List.perm_append_comm (l₂ := [_])))
                        have hOg : ∀ {o o' : Obj}, Own w5 ((b284, o) :: (g, o') :: Mr) := hO (Own.cons hg hOr)
                        refine W_cut2 (fun (ok : Bool) (w : World) => [(0, .slice a k cp), (1, .int .i64 row), (2, .int .i64 more), (3, .int .i64 p), (4, .int .i64 q), (5, .slice ac kc cc), (13, .int .i64 n), (14, .slice qm ms.length cm), (15, .int .i64 t), (16, .int .i64 e), (18, .int .i64 cnt), (38, .slice (some ⟨b284, 0, none⟩) k k), (39, .int .i64 i), (286, .int .i64 k), (287, .int .i64 i), (314, .bool ok)]) (fun (ok : Bool) (w : World) => w) (fun (ok : Bool) (w : World) => (HS w5 w ((b284, Row 38 (vs.set i (.slice (some ⟨g, 0, none⟩) (n + 1) cap))) :: (g, Row 2 (il (R0 ++ [-1]) ++ sp)) :: Mr)) ∧ (ok = true → i < kc ∧ col.getD i 0 ≤ 1099511627776)) ?_ ?_
                        · by_cases h1 : i < kc
                          · by_cases h2 : col.getD i 0 ≤ 1099511627776
                            · skip
                              refine W_region ?_
                              refine L_move rfl rfl ?_
                              refine L_move rfl rfl ?_
                              refine L_len rfl Try.underlying38 rfl ?_
                              first | refine L_lss rfl rfl rfl (dtrue (by omega)) ?_ | refine L_lss rfl rfl rfl (dfalse (by omega)) ?_ | refine L_lss rfl rfl rfl rfl ?_
                              refine L_move rfl rfl ?_
                              first | (refine RL_want rfl rfl ?_; refine L_move rfl rfl ?_) | refine RL_skip rfl rfl rfl rfl ?_ | refine RL_skipU rfl rfl rfl ?_
                              first | (refine RL_want rfl rfl ?_; refine L_move rfl rfl ?_) | refine RL_skip rfl rfl rfl rfl ?_ | refine RL_skipU rfl rfl rfl ?_
                              first | (refine RL_want rfl rfl ?_; refine L_idx1 rfl Try.underlying38 Try.ti2 rfl rfl (by with_reducible first | exact natc_k _ | exact natc_a1 _ | exact natc_0 | exact natc_1 | exact natc_2 | exact natc_s1 _ (by omega) | exact natc_a2 _ | exact natc_add _ _ | exact natc_mul _ _ | exact natc (by omega)) (by omega) (hcol.ao (by rw [il_length]; omega)) ?_) | refine RL_skip rfl rfl rfl rfl ?_ | refine RL_skipU rfl rfl rfl ?_
                              first | (refine RL_want rfl rfl ?_; refine L_load rfl Try.one2 rfl (by exact (hcol.old hs hOg).get (il_get (by omega))) ?_) | refine RL_skip rfl rfl rfl rfl ?_ | refine RL_skipU rfl rfl rfl ?_
                              first | (refine RL_want rfl rfl ?_; (first | refine L_leq rfl rfl rfl (dtrue (by omega)) ?_ | refine L_leq rfl rfl rfl (dfalse (by omega)) ?_ | refine L_leq rfl rfl rfl rfl ?_)) | refine RL_skip rfl rfl rfl rfl ?_ | refine RL_skipU rfl rfl rfl ?_
                              first | refine L_pick_t rfl rfl rfl ?_ | refine L_pick_f rfl rfl rfl ?_
                              refine RL_nil' ?_
                              refine Nx_cutP (true, w) (is := [0, 1, 2, 3, 4, 5, 13, 14, 15, 16, 18, 38, 39, 286, 287, 314]) (I' := (fun (ok : Bool) (w : World) => (HS w5 w ((b284, Row 38 (vs.set i (.slice (some ⟨g, 0, none⟩) (n + 1) cap))) :: (g, Row 2 (il (R0 ++ [-1]) ++ sp)) :: Mr)) ∧ (ok = true → i < kc ∧ col.getD i 0 ≤ 1099511627776)) (true) (w)) rfl rfl rfl ?_
                              exact ⟨hs, fun _ => ⟨h1, h2⟩⟩
                            · refine W_region ?_
                              refine L_move rfl rfl ?_
                              refine L_move rfl rfl ?_
                              refine L_len rfl Try.underlying38 rfl ?_
                              first | refine L_lss rfl rfl rfl (dtrue (by omega)) ?_ | refine L_lss rfl rfl rfl (dfalse (by omega)) ?_ | refine L_lss rfl rfl rfl rfl ?_
                              refine L_move rfl rfl ?_
                              first | (refine RL_want rfl rfl ?_; refine L_move rfl rfl ?_) | refine RL_skip rfl rfl rfl rfl ?_ | refine RL_skipU rfl rfl rfl ?_
                              first | (refine RL_want rfl rfl ?_; refine L_move rfl rfl ?_) | refine RL_skip rfl rfl rfl rfl ?_ | refine RL_skipU rfl rfl rfl ?_
                              first | (refine RL_want rfl rfl ?_; refine L_idx1 rfl Try.underlying38 Try.ti2 rfl rfl (by with_reducible first | exact natc_k _ | exact natc_a1 _ | exact natc_0 | exact natc_1 | exact natc_2 | exact natc_s1 _ (by omega) | exact natc_a2 _ | exact natc_add _ _ | exact natc_mul _ _ | exact natc (by omega)) (by omega) (hcol.ao (by rw [il_length]; omega)) ?_) | refine RL_skip rfl rfl rfl rfl ?_ | refine RL_skipU rfl rfl rfl ?_
                              first | (refine RL_want rfl rfl ?_; refine L_load rfl Try.one2 rfl (by exact (hcol.old hs hOg).get (il_get (by omega))) ?_) | refine RL_skip rfl rfl rfl rfl ?_ | refine RL_skipU rfl rfl rfl ?_
                              first | (refine RL_want rfl rfl ?_; (first | refine L_leq rfl rfl rfl (dtrue (by omega)) ?_ | refine L_leq rfl rfl rfl (dfalse (by omega)) ?_ | refine L_leq rfl rfl rfl rfl ?_)) | refine RL_skip rfl rfl rfl rfl ?_ | refine RL_skipU rfl rfl rfl ?_
                              first | refine L_pick_t rfl rfl rfl ?_ | refine L_pick_f rfl rfl rfl ?_
                              refine RL_nil' ?_
                              refine Nx_cutP (false, w) (is := [0, 1, 2, 3, 4, 5, 13, 14, 15, 16, 18, 38, 39, 286, 287, 314]) (I' := (fun (ok : Bool) (w : World) => (HS w5 w ((b284, Row 38 (vs.set i (.slice (some ⟨g, 0, none⟩) (n + 1) cap))) :: (g, Row 2 (il (R0 ++ [-1]) ++ sp)) :: Mr)) ∧ (ok = true → i < kc ∧ col.getD i 0 ≤ 1099511627776)) (false) (w)) rfl rfl rfl ?_
                              exact ⟨hs, fun h => by cases h⟩
                          · refine W_region ?_
                            refine L_move rfl rfl ?_
                            refine L_move rfl rfl ?_
                            refine L_len rfl Try.underlying38 rfl ?_
                            first | refine L_lss rfl rfl rfl (dtrue (by omega)) ?_ | refine L_lss rfl rfl rfl (dfalse (by omega)) ?_ | refine L_lss rfl rfl rfl rfl ?_
                            refine L_move rfl rfl ?_
                            first | (refine RL_want rfl rfl ?_; refine L_move rfl rfl ?_) | refine RL_skip rfl rfl rfl rfl ?_ | refine RL_skipU rfl rfl rfl ?_
                            first | (refine RL_want rfl rfl ?_; refine L_move rfl rfl ?_) | refine RL_skip rfl rfl rfl rfl ?_ | refine RL_skipU rfl rfl rfl ?_
                            first | (refine RL_want rfl rfl ?_; refine L_idx1 rfl Try.underlying38 Try.ti2 rfl rfl (by with_reducible first | exact natc_k _ | exact natc_a1 _ | exact natc_0 | exact natc_1 | exact natc_2 | exact natc_s1 _ (by omega) | exact natc_a2 _ | exact natc_add _ _ | exact natc_mul _ _ | exact natc (by omega)) (by omega) (hcol.ao (by rw [il_length]; omega)) ?_) | refine RL_skip rfl rfl rfl rfl ?_ | refine RL_skipU rfl rfl rfl ?_
                            first | (refine RL_want rfl rfl ?_; refine L_load rfl Try.one2 rfl (by exact (hcol.old hs hOg).get (il_get (by omega))) ?_) | refine RL_skip rfl rfl rfl rfl ?_ | refine RL_skipU rfl rfl rfl ?_
                            first | (refine RL_want rfl rfl ?_; (first | refine L_leq rfl rfl rfl (dtrue (by omega)) ?_ | refine L_leq rfl rfl rfl (dfalse (by omega)) ?_ | refine L_leq rfl rfl rfl rfl ?_)) | refine RL_skip rfl rfl rfl rfl ?_ | refine RL_skipU rfl rfl rfl ?_
                            first | refine L_pick_t rfl rfl rfl ?_ | refine L_pick_f rfl rfl rfl ?_
                            refine RL_nil' ?_
                            refine Nx_cutP (false, w) (is := [0, 1, 2, 3, 4, 5, 13, 14, 15, 16, 18, 38, 39, 286, 287, 314]) (I' := (fun (ok : Bool) (w : World) => (HS w5 w ((b284, Row 38 (vs.set i (.slice (some ⟨g, 0, none⟩) (n + 1) cap))) :: (g, Row 2 (il (R0 ++ [-1]) ++ sp)) :: Mr)) ∧ (ok = true → i < kc ∧ col.getD i 0 ≤ 1099511627776)) (false) (w)) rfl rfl rfl ?_
                            exact ⟨hs, fun h => by cases h⟩
                        · clear hs
                          intro ok w hI
                          show W _ _ _ _ [(0, .slice a k cp), (1, .int .i64 row), (2, .int .i64 more), (3, .int .i64 p), (4, .int .i64 q), (5, .slice ac kc cc), (13, .int .i64 n), (14, .slice qm ms.length cm), (15, .int .i64 t), (16, .int .i64 e), (18, .int .i64 cnt), (38, .slice (some ⟨b284, 0, none⟩) k k), (39, .int .i64 i), (286, .int .i64 k), (287, .int .i64 i), (314, .bool ok)] w
                          obtain ⟨hs, hok⟩ := hI
                          have hfin : ∀ (c : Int) (w : World), c ≤ 1099511627776 → HS w5 w ((b284, Row 38 (vs.set i (.slice (some ⟨g, 0, none⟩) (n + 1) cap))) :: (g, Row 2 (il (R0 ++ [c]) ++ sp)) :: Mr) → ∃ Ms', (rs.set i (R0 ++ [c])).length = k ∧ (∀ z, z < i + 1 → ∃ c', c' ≤ 1099511627776 ∧ (rs.set i (R0 ++ [c])).getD z [] = rows.getD z [] ++ [c']) ∧ (∀ z, i + 1 ≤ z → z < k → (rs.set i (R0 ++ [c])).getD z [] = []) ∧ HS w5 w ((b284, Row 38 (vs.set i (.slice (some ⟨g, 0, none⟩) (n + 1) cap))) :: Ms') ∧ RB (pB w5) (vs.set i (.slice (some ⟨g, 0, none⟩) (n + 1) cap)) (rs.set i (R0 ++ [c])) Ms' := fun c w hc2 hs => by
                            obtain ⟨Ms', hrb', hpm'⟩ := hset (.slice (some ⟨g, 0, none⟩) (n + 1) cap) (R0 ++ [c]) [(g, Row 2 (il (R0 ++ [c]) ++ sp))] (by
                              have hl1 : (R0 ++ [c]).length = n + 1 := by simp [hR0l]
                              show Bl _ _ _ _ _ _ _
                              rw [hl1]
                              exact .row hg (by simp [hR0l]) (by simp [hR0l] at hcap ⊢; omega) hcap2)
                            refine ⟨Ms', by simp [hrl2], fun z hz => ?_, fun z hz hzk => by rw [getD_set_ne2 (by omega)]; exact hrn z (by omega) hzk, hs.mem_perm (List.Perm.cons _ ((List.perm_append_comm (l₁ := [_])).trans hpm'.symm)), hrb'⟩
                            by_cases hzi : z = i
                            · subst hzi; exact ⟨c, hc2, by rw [getD_set_eq (by omega), hR0]⟩
                            · rw [getD_set_ne2 hzi]; exact hrs z (by omega)
                          cases ok
                          · refine W_if_false rfl ?_
                            refine W_skip' ?_
                            refine Nx_block ?_
                            obtain ⟨Ms', x1, x2, x3, x4, x5⟩ := hfin (-1) w (by omega) hs
                            refine Nx_cutP (vs.set i (.slice (some ⟨g, 0, none⟩) (n + 1) cap), rs.set i (R0 ++ [-1]), Ms', w) (is := [0, 1, 2, 3, 4, 5, 13, 14, 15, 16, 18, 38, 286, 287]) (I' := (fun (vs : List Value) (rs : List (List Int)) (Ms : List (Nat × Obj)) (w : World) => (rs.length = k) ∧ (∀ z, z < i + 1 → ∃ c, c ≤ 1099511627776 ∧ rs.getD z [] = rows.getD z [] ++ [c]) ∧ (∀ z, i + 1 ≤ z → z < k → rs.getD z [] = []) ∧ (HS w5 w ((b284, Row 38 vs) :: Ms)) ∧ (RB (pB w5) vs rs Ms)) (vs.set i (.slice (some ⟨g, 0, none⟩) (n + 1) cap)) (rs.set i (R0 ++ [-1])) (Ms') (w)) rfl rfl rfl ?_
                            exact ⟨x1, x2, x3, x4, x5⟩
                          · obtain ⟨h1, h2⟩ := hok rfl
                            have hvi' : (vs.set i (.slice (some ⟨g, 0, none⟩) (n + 1) cap))[i]? = some (.slice (some ⟨g, 0, none⟩) (n + 1) cap) := by rw [List.getElem?_set, if_pos rfl, if_pos (by omega)]
                            have hlc : (il (R0 ++ [-1]) ++ sp).length = n + 1 + sp.length := by simp [hR0l]
                            refine W_if_true rfl ?_
                            refine W_pht [0, 1, 2, 4, 5, 6, 7] [3, 8, 9] [10] (fun _ _ _ => False) Try.mixed (chkAll_of (by kernel_rfl)) (fun _ _ _ _ _ h => h) hs ?_
                            refine PL_val rfl (fun w => R_move rfl) ?_
                            refine PL_val rfl (fun w => R_move rfl) ?_
                            refine PL_val rfl (fun w => R_idx1 Try.underlying22 Try.ti38 rfl rfl (by with_reducible first | exact natc_k _ | exact natc_a1 _ | exact natc_0 | exact natc_1 | exact natc_2 | exact natc_s1 _ (by omega) | exact natc_a2 _ | exact natc_add _ _ | exact natc_mul _ _ | exact natc (by omega)) (by omega) rfl) ?_
                            refine PL_val rfl (fun w => R_move rfl) ?_
                            refine PL_val rfl (fun w => R_move rfl) ?_
                            refine PL_val rfl (fun w => R_move rfl) ?_
                            refine PL_val rfl (fun w => R_idx1 Try.underlying38 Try.ti2 rfl rfl (by with_reducible first | exact natc_k _ | exact natc_a1 _ | exact natc_0 | exact natc_1 | exact natc_2 | exact natc_s1 _ (by omega) | exact natc_a2 _ | exact natc_add _ _ | exact natc_mul _ _ | exact natc (by omega)) (by omega) (hcol.ao (by rw [il_length]; omega))) ?_
                            refine PL_end ?_
                            refine HL_val rfl (fun w hs => R_load Try.one38 rfl (by exact hs.cellA (i := 0) rfl hvi')) ?_
                            refine HL_val rfl (fun w hs => R_load Try.one2 rfl (by exact (hcol.old hs hOg).get (il_get (by omega)))) ?_
                            refine HL_val rfl (fun w hs => R_idx1 Try.underlying38 Try.ti2 rfl rfl (by with_reducible first | exact natc_k _ | exact natc_a1 _ | exact natc_0 | exact natc_1 | exact natc_2 | exact natc_s1 _ (by omega) | exact natc_a2 _ | exact natc_add _ _ | exact natc_mul _ _ | exact natc (by omega)) (by omega) rfl) ?_
                            refine HL_tail ?_
                            intro w hs
                            refine L_store hs (i := 1) rfl Try.ti2 rfl rfl (by first | rfl | exact add_lit0 _ _ | exact Addr.add_lit ..) (by omega) rfl ?_
                            intro w hs
                            try dsimp only [List.set_cons_succ, List.set_cons_zero, List.cons_append, List.nil_append] at hs
                            refine RL_nil' ?_
                            refine Nx_block ?_
                            have hse : (R0 ++ [-1]).set n (col.getD i 0) = R0 ++ [col.getD i 0] := by rw [List.set_append_right _ _ (by omega), hR0l, Nat.sub_self]; rfl
                            rw [il_set' _ _ _ _ (by simp; omega), hse] at hs
                            obtain ⟨Ms', x1, x2, x3, x4, x5⟩ := hfin (col.getD i 0) w h2 hs
                            refine Nx_cutP (vs.set i (.slice (some ⟨g, 0, none⟩) (n + 1) cap), rs.set i (R0 ++ [col.getD i 0]), Ms', w) (is := [0, 1, 2, 3, 4, 5, 13, 14, 15, 16, 18, 38, 286, 287]) (I' := (fun (vs : List Value) (rs : List (List Int)) (Ms : List (Nat × Obj)) (w : World) => (rs.length = k) ∧ (∀ z, z < i + 1 → ∃ c, c ≤ 1099511627776 ∧ rs.getD z [] = rows.getD z [] ++ [c]) ∧ (∀ z, i + 1 ≤ z → z < k → rs.getD z [] = []) ∧ (HS w5 w ((b284, Row 38 vs) :: Ms)) ∧ (RB (pB w5) vs rs Ms)) (vs.set i (.slice (some ⟨g, 0, none⟩) (n + 1) cap)) (rs.set i (R0 ++ [col.getD i 0])) (Ms') (w)) rfl rfl rfl ?_
                            exact ⟨x1, x2, x3, x4, x5⟩
                    · clear hs hb0 hpm hset hv0 hOx hrb hrs hrn hrl2 hvl
                      intro vs rs Ms w hI
                      show W _ _ _ _ [(0, .slice a k cp), (1, .int .i64 row), (2, .int .i64 more), (3, .int .i64 p), (4, .int .i64 q), (5, .slice ac kc cc), (13, .int .i64 n), (14, .slice qm ms.length cm), (15, .int .i64 t), (16, .int .i64 e), (18, .int .i64 cnt), (38, .slice (some ⟨b284, 0, none⟩) k k), (286, .int .i64 k), (287, .int .i64 i)] w
                      obtain ⟨hrl2, hrs, hrn, hs, hrb⟩ := hI
                      refine W_region ?_
                      first | refine L_add rfl rfl rfl (wrp_i64 (by omega)) ?_ | refine L_add rfl rfl rfl rfl ?_
                      refine L_move rfl rfl ?_
                      refine RL_nil' ?_
                      refine Nx_loopP (i + 1, vs, rs, Ms, w) (is := [0, 1, 2, 3, 4, 5, 13, 14, 15, 16, 18, 38, 286, 287]) (I' := (fun (i : Nat) (vs : List Value) (rs : List (List Int)) (Ms : List (Nat × Obj)) (w : World) => (i ≤ k) ∧ (rs.length = k) ∧ (∀ z, z < i → ∃ c, c ≤ 1099511627776 ∧ rs.getD z [] = rows.getD z [] ++ [c]) ∧ (∀ z, i ≤ z → z < k → rs.getD z [] = []) ∧ (HS w5 w ((b284, Row 38 vs) :: Ms)) ∧ (RB (pB w5) vs rs Ms)) (i + 1) (vs) (rs) (Ms) (w)) rfl rfl rfl ?_ ?_
                      · exact ⟨by omega, hrl2, hrs, hrn, hs, hrb⟩
                      · omega
                  · obtain rfl : k = i := by omega
                    have hSw : ∀ i, i < k → (rs.getD i []).length = n + 1 := fun i hi => by
                      obtain ⟨c, _, h2⟩ := hrs i hi
                      rw [h2, List.length_append, hw i hi]; rfl
                    have hSe : ∀ i j, i < k → j < n → el rs i j = el rows i j := fun i j hi hj => by
                      obtain ⟨c, _, h2⟩ := hrs i hi
                      show (rs.getD i []).getD j 0 = _
                      rw [h2]
                      simp only [List.getD]
                      rw [List.getElem?_append_left (by have := hw i hi; simp only [List.getD] at this; omega)]
                    obtain ⟨hFS, hwS⟩ := mkFine hrl2 (by omega) (show n + 1 ≤ 256 by omega) (by omega) hSw (fun i j hi hj => by
                      by_cases hjn : j < n
                      · rw [hSe i j hi hjn]; exact hcost i j hi hjn
                      · obtain rfl : n = j := by omega
                        obtain ⟨c, h1, h2⟩ := hrs i hi
                        show (rs.getD i []).getD n 0 ≤ _
                        rw [h2]
                        simp only [List.getD]
                        rw [List.getElem?_append_right (by have := hw i hi; simp only [List.getD] at this; omega)]
                        have := hw i hi
                        simp only [List.getD] at this
                        rw [this, Nat.sub_self]
                        exact h1)
                    have hs3 : HS w5 w ([(b284, Row 38 vs)] ++ Ms) := hs
                    have hrI := hrb.rowsI hs3 (SlC.of_row (sp := []) (by rw [List.append_nil]; exact hs3.get (i := 0) rfl)) (fun i hi => by rw [hSw i (by omega)]; omega)
                    refine W_seq ?_
                    refine W_region ?_
                    first | refine L_lss rfl rfl rfl (dtrue (by omega)) ?_ | refine L_lss rfl rfl rfl (dfalse (by omega)) ?_ | refine L_lss rfl rfl rfl rfl ?_
                    refine RL_then ?_
                    refine W_seq ?_
                    refine W_if_false rfl ?_
                    refine W_exit' ?_
                    refine Ex_then_exit ?_
                    refine Ex_loop_exit ?_
                    refine Ex_block_hit ?_
                    refine Nx_then ?_
                    refine W_seq ?_
                    refine W_region ?_
                    refine L_move rfl rfl ?_
                    refine L_call rfl Try.fun10 rfl (least_ok (some ⟨b284, 0, none⟩) k k rs vs w hrI hrl2 (by omega)) ?_
                    rintro _ w7 ⟨v7, N7, ms', t', e', rfl, hs7, hbl7, hans7⟩
                    replace hs := hs.nil (hs7.forget hbl7.own)
                    refine L_move rfl rfl ?_
                    refine L_extract rfl rfl rfl ?_
                    refine L_extract rfl rfl rfl ?_
                    refine L_extract rfl rfl rfl ?_
                    refine L_assign rfl rfl ?_
                    refine L_assign rfl rfl ?_
                    refine L_assign rfl rfl ?_
                    refine RL_then ?_
                    refine W_seq ?_
                    refine W_region ?_
                    refine L_move rfl rfl ?_
                    refine L_call rfl Try.fun13 rfl (most_ok (some ⟨b284, 0, none⟩) k k rs vs w7 (hrI.old (hs7.forget hbl7.own) Own.nil) hrl2 (by omega)) ?_
                    rintro _ w8 ⟨v8, N8, A', cnt', u', f', rfl, hs8, hbl8, hans8⟩
                    obtain ⟨_, rfl⟩ := told_of hFS hans7 hans8
                    obtain ⟨hTop', hp', _⟩ := top_most hFS rfl hans7 hans8
                    replace hs := (hs.nil (hs8.forget hbl8.own)).forget (hO hrb.own)
                    have hLS' := ls_of hFS hans7
                    rw [hwS] at hLS' hTop'
                    rw [hrl2] at hTop' hp'
                    rw [hk] at hTop hp
                    have hpp := more_pairs (R := rows) (S := rs) (n := n) (m := n + 1) (by omega) hSe hTop hTop'
                    have hle := hLS.emb hLS' (emb_more (by omega) (by omega) (fun i j hi hj => hSe i j (by omega) hj))
                    refine L_move rfl rfl ?_
                    refine L_extract rfl rfl rfl ?_
                    refine L_extract rfl rfl rfl ?_
                    refine L_extract rfl rfl rfl ?_
                    refine L_extract rfl rfl rfl ?_
                    refine L_assign rfl rfl ?_
                    refine L_assign rfl rfl ?_
                    refine L_assign rfl rfl ?_
                    refine L_assign rfl rfl ?_
                    refine RL_then ?_
                    refine W_seq ?_
                    refine W_region ?_
                    refine L_move rfl rfl ?_
                    first | refine L_eql rfl rfl rfl (dtrue (by omega)) ?_ | refine L_eql rfl rfl rfl (dfalse (by omega)) ?_ | refine L_eql rfl rfl rfl rfl ?_
                    refine L_move rfl rfl ?_
                    first | (refine RL_want rfl rfl ?_; refine L_move rfl rfl ?_) | refine RL_skip rfl rfl rfl rfl ?_ | refine RL_skipU rfl rfl rfl ?_
                    first | (refine RL_want rfl rfl ?_; refine L_move rfl rfl ?_) | refine RL_skip rfl rfl rfl rfl ?_ | refine RL_skipU rfl rfl rfl ?_
                    first | (refine RL_want rfl rfl ?_; (first | refine L_geq rfl rfl rfl (dtrue (by omega)) ?_ | refine L_geq rfl rfl rfl (dfalse (by omega)) ?_ | refine L_geq rfl rfl rfl rfl ?_)) | refine RL_skip rfl rfl rfl rfl ?_ | refine RL_skipU rfl rfl rfl ?_
                    first | refine L_pick_t rfl rfl rfl ?_ | refine L_pick_f rfl rfl rfl ?_
                    refine L_move rfl rfl ?_
                    by_cases he : e = 0
                    · obtain ⟨he', ht'⟩ := hle he
                      first | (refine RL_want rfl rfl ?_; refine L_move rfl rfl ?_) | refine RL_skip rfl rfl rfl rfl ?_ | refine RL_skipU rfl rfl rfl ?_
                      first | (refine RL_want rfl rfl ?_; (first | refine L_neq rfl rfl rfl (dtrue (by omega)) ?_ | refine L_neq rfl rfl rfl (dfalse (by omega)) ?_ | refine L_neq rfl rfl rfl rfl ?_)) | refine RL_skip rfl rfl rfl rfl ?_ | refine RL_skipU rfl rfl rfl ?_
                      first | (refine RL_want rfl rfl ?_; refine L_move rfl rfl ?_) | refine RL_skip rfl rfl rfl rfl ?_ | refine RL_skipU rfl rfl rfl ?_
                      first | (refine RL_want rfl rfl ?_; refine L_move rfl rfl ?_) | refine RL_skip rfl rfl rfl rfl ?_ | refine RL_skipU rfl rfl rfl ?_
                      first | (refine RL_want rfl rfl ?_; (first | refine L_eql rfl rfl rfl (dtrue (by omega)) ?_ | refine L_eql rfl rfl rfl (dfalse (by omega)) ?_ | refine L_eql rfl rfl rfl rfl ?_)) | refine RL_skip rfl rfl rfl rfl ?_ | refine RL_skipU rfl rfl rfl ?_
                      first | (refine RL_want rfl rfl ?_; refine L_move rfl rfl ?_) | refine RL_skip rfl rfl rfl rfl ?_ | refine RL_skipU rfl rfl rfl ?_
                      first | (refine RL_want rfl rfl ?_; refine L_move rfl rfl ?_) | refine RL_skip rfl rfl rfl rfl ?_ | refine RL_skipU rfl rfl rfl ?_
                      first | (refine RL_want rfl rfl ?_; refine L_move rfl rfl ?_) | refine RL_skip rfl rfl rfl rfl ?_ | refine RL_skipU rfl rfl rfl ?_
                      first | (refine RL_want rfl rfl ?_; (first | refine L_leq rfl rfl rfl (dtrue (by omega)) ?_ | refine L_leq rfl rfl rfl (dfalse (by omega)) ?_ | refine L_leq rfl rfl rfl rfl ?_)) | refine RL_skip rfl rfl rfl rfl ?_ | refine RL_skipU rfl rfl rfl ?_
                      first | (refine RL_want rfl rfl ?_; (first | refine L_pick_t rfl rfl rfl ?_ | refine L_pick_f rfl rfl rfl ?_)) | refine RL_skip rfl rfl rfl rfl ?_ | refine RL_skipU rfl rfl rfl ?_
                      first | (refine RL_want rfl rfl ?_; (first | refine L_pick_t rfl rfl rfl ?_ | refine L_pick_f rfl rfl rfl ?_)) | refine RL_skip rfl rfl rfl rfl ?_ | refine RL_skipU rfl rfl rfl ?_
                      first | refine L_pick_t rfl rfl rfl ?_ | refine L_pick_f rfl rfl rfl ?_
                      refine L_assign rfl rfl ?_
                      refine RL_then ?_
                      refine W_ret' ?_
                      refine Ex_done1 rfl rfl ?_
                      exact ⟨_, rfl, rfl, hbase.nil hs⟩
                    · first | (refine RL_want rfl rfl ?_; refine L_move rfl rfl ?_) | refine RL_skip rfl rfl rfl rfl ?_ | refine RL_skipU rfl rfl rfl ?_
                      first | (refine RL_want rfl rfl ?_; (first | refine L_neq rfl rfl rfl (dtrue (by omega)) ?_ | refine L_neq rfl rfl rfl (dfalse (by omega)) ?_ | refine L_neq rfl rfl rfl rfl ?_)) | refine RL_skip rfl rfl rfl rfl ?_ | refine RL_skipU rfl rfl rfl ?_
                      first | (refine RL_want rfl rfl ?_; refine L_move rfl rfl ?_) | refine RL_skip rfl rfl rfl rfl ?_ | refine RL_skipU rfl rfl rfl ?_
                      first | (refine RL_want rfl rfl ?_; refine L_move rfl rfl ?_) | refine RL_skip rfl rfl rfl rfl ?_ | refine RL_skipU rfl rfl rfl ?_
                      first | (refine RL_want rfl rfl ?_; (first | refine L_eql rfl rfl rfl (dtrue (by omega)) ?_ | refine L_eql rfl rfl rfl (dfalse (by omega)) ?_ | refine L_eql rfl rfl rfl rfl ?_)) | refine RL_skip rfl rfl rfl rfl ?_ | refine RL_skipU rfl rfl rfl ?_
                      first | (refine RL_want rfl rfl ?_; refine L_move rfl rfl ?_) | refine RL_skip rfl rfl rfl rfl ?_ | refine RL_skipU rfl rfl rfl ?_
                      first | (refine RL_want rfl rfl ?_; refine L_move rfl rfl ?_) | refine RL_skip rfl rfl rfl rfl ?_ | refine RL_skipU rfl rfl rfl ?_
                      first | (refine RL_want rfl rfl ?_; refine L_move rfl rfl ?_) | refine RL_skip rfl rfl rfl rfl ?_ | refine RL_skipU rfl rfl rfl ?_
                      first | (refine RL_want rfl rfl ?_; (first | refine L_leq rfl rfl rfl (dtrue (by omega)) ?_ | refine L_leq rfl rfl rfl (dfalse (by omega)) ?_ | refine L_leq rfl rfl rfl rfl ?_)) | refine RL_skip rfl rfl rfl rfl ?_ | refine RL_skipU rfl rfl rfl ?_
                      first | (refine RL_want rfl rfl ?_; (first | refine L_pick_t rfl rfl rfl ?_ | refine L_pick_f rfl rfl rfl ?_)) | refine RL_skip rfl rfl rfl rfl ?_ | refine RL_skipU rfl rfl rfl ?_
                      first | (refine RL_want rfl rfl ?_; (first | refine L_pick_t rfl rfl rfl ?_ | refine L_pick_f rfl rfl rfl ?_)) | refine RL_skip rfl rfl rfl rfl ?_ | refine RL_skipU rfl rfl rfl ?_
                      first | refine L_pick_t rfl rfl rfl ?_ | refine L_pick_f rfl rfl rfl ?_
                      refine L_assign rfl rfl ?_
                      refine RL_then ?_
                      refine W_ret' ?_
                      refine Ex_done1 rfl rfl ?_
                      exact ⟨_, rfl, rfl, hbase.nil hs⟩
end Go.Proofs.Ytcfdmenmlemahaa
