/-
  A part of the proof: what functions that the statement reaches do, or a plain law on what they do. Each theorem holds under its own premises alone.
-/
import Derived.Test.YtoiobncojfeoiaaKitY
import Derived.Test.YtoiobncojfeoiaaTUK
namespace Go.Proofs.Ytoiobncojfeoiaa
open Go Go.Lk
/-! ### Drop -/
theorem zcs_take : ∀ (zs : List Zn) (i : Nat), (zcs zs).take (i * 3) = zcs (zs.take i)
  | [], i => by simp [zcs]
  | z :: zs, 0 => by simp [zcs]
  | z :: zs, i + 1 => by
    show (z.cells ++ zcs zs).take ((i + 1) * 3) = z.cells ++ zcs (zs.take i)
    have hl : z.cells.length = 3 := rfl
    rw [List.take_append, hl, show (i + 1) * 3 - 3 = i * 3 by omega, zcs_take zs i, List.take_of_length_le (by rw [hl]; omega)]
theorem zcs_drop : ∀ (zs : List Zn) (i : Nat), (zcs zs).drop (i * 3) = zcs (zs.drop i)
  | [], i => by simp [zcs]
  | z :: zs, 0 => by simp [zcs]
  | z :: zs, i + 1 => by
    show (z.cells ++ zcs zs).drop ((i + 1) * 3) = zcs (zs.drop i)
    have hl : z.cells.length = 3 := rfl
    rw [List.drop_append, hl, show (i + 1) * 3 - 3 = i * 3 by omega, zcs_drop zs i, List.drop_eq_nil_of_le (by rw [hl]; omega), List.nil_append]
theorem zcs_erase (zs : List Zn) (i : Nat) : zcs (zs.eraseIdx i) = (zcs zs).take (i * 3) ++ (zcs zs).drop ((i + 1) * 3) := by
  rw [zcs_take, zcs_drop, ← zcs_app, List.eraseIdx_eq_take_drop_succ]
set_option maxHeartbeats 1000000 in
theorem delete_ok (w0 w : World) (L : Bks) (ix g k c i : Nat) (zs : List Zn) (sp : List Value) (hs : HS w0 w L) (hL : L[ix]? = some (g, Row 90 (zcs zs ++ sp))) (hk : zs.length = k) (hi : i < k) (hc : (zcs zs ++ sp).length = c * 3) (hkc : k ≤ c) (hk2 : k ≤ 1000000) (h1 : ∀ u ∈ zcs zs, u.oneCell' = true) :
    Ret Try.prog 48 [.slice (some ⟨g, 0, none⟩) k c, .int .i64 i, .int .i64 ((i : Int) + 1)] w fun v w' => v = .slice (some ⟨g, 0, none⟩) (k - 1) c ∧ ∃ sp', (zcs (zs.eraseIdx i) ++ sp').length = c * 3 ∧ HS w0 w' (L.set ix (g, Row 90 (zcs (zs.eraseIdx i) ++ sp'))) := by
  have hzl := zcs_len zs
  rw [List.length_append] at hc
  refine calls_of_W Try.func48 rfl rfl rfl ?_
  refine W_seq ?_
  refine W_region ?_
  refine L_assign rfl rfl ?_
  refine RL_then ?_
  refine W_seq ?_
  refine W_region ?_
  refine L_move rfl rfl ?_
  refine L_move rfl rfl ?_
  refine L_move rfl rfl ?_
  refine L_move rfl rfl ?_
  refine L_len rfl Try.underlying85 rfl ?_
  refine RL_val rfl (R_slice111 Try.underlying85 Try.ti90 rfl rfl rfl rfl (by with_reducible first | exact natc_k _ | exact natc_a1 _ | exact natc_0 | exact natc_1 | exact natc_2 | exact natc_s1 _ (by omega) | exact natc_a2 _ | exact natc_add _ _ | exact natc_mul _ _ | exact natc (by omega)) (by with_reducible first | exact natc_k _ | exact natc_a1 _ | exact natc_0 | exact natc_1 | exact natc_2 | exact natc_s1 _ (by omega) | exact natc_a2 _ | exact natc_add _ _ | exact natc_mul _ _ | exact natc (by omega)) (by with_reducible first | exact natc_k _ | exact natc_a1 _ | exact natc_0 | exact natc_1 | exact natc_2 | exact natc_s1 _ (by omega) | exact natc_a2 _ | exact natc_add _ _ | exact natc_mul _ _ | exact natc (by omega)) (by omega)) ?_
  refine RL_then ?_
  refine W_seq ?_
  refine W_seq ?_
  refine W_region ?_
  refine L_move rfl rfl ?_
  refine L_move rfl rfl ?_
  first | refine L_eql rfl rfl rfl (dtrue (by omega)) ?_ | refine L_eql rfl rfl rfl (dfalse (by omega)) ?_ | refine L_eql rfl rfl rfl rfl ?_
  refine RL_then ?_
  refine W_if_false rfl ?_
  obtain ⟨ad, had, hnews⟩ : ∃ ad, slA (some ⟨g, 0, none⟩) (i + 1) c 3 = some ad ∧ ∀ w1, HS w0 w1 L → CellsAt w1 ad ((zcs zs).drop ((i + 1) * 3)) := by
    by_cases h : i + 1 = c
    · have : (zcs zs).drop ((i + 1) * 3) = [] := List.drop_eq_nil_of_le (by omega)
      rw [this]
      unfold slA
      rw [if_pos (by omega)]
      exact ⟨_, rfl, fun w1 hs j v hv => by simp at hv⟩
    · unfold slA
      rw [if_neg (by omega)]
      refine ⟨_, rfl, fun w1 hs j v hv => ?_⟩
      rw [List.getElem?_drop] at hv
      have hlt := (List.getElem?_eq_some_iff.1 hv).1
      have := hs.cellA hL (j := (i + 1) * 3 + j) (v := v) (by rw [List.getElem?_append_left hlt]; exact hv)
      rw [add_add]; exact this
  have hone : ∀ u ∈ (zcs zs).drop ((i + 1) * 3), u.oneCell' = true := fun u hu => h1 u (List.mem_of_mem_drop hu)
  refine W_skip' ?_
  refine Nx_then ?_
  refine W_seq ?_
  refine W_region ?_
  refine L_move rfl rfl ?_
  refine L_len rfl Try.underlying85 rfl ?_
  refine L_assign rfl rfl ?_
  refine RL_then ?_
  refine W_seq ?_
  refine W_pht [0, 1, 2, 3, 4, 5] [] [6, 7] (fun _ _ _ => False) Try.mixed (by kernel_rfl) (fun _ _ _ _ _ h => h) hs ?_
  refine PL_val rfl (fun w => R_move rfl) ?_
  refine PL_val rfl (fun w => R_move rfl) ?_
  refine PL_val rfl (fun w => R_slice010 Try.underlying85 Try.ti90 rfl rfl (by with_reducible first | exact natc_k _ | exact natc_a1 _ | exact natc_0 | exact natc_1 | exact natc_2 | exact natc_s1 _ (by omega) | exact natc_a2 _ | exact natc_add _ _ | exact natc_mul _ _ | exact natc (by omega)) (by omega)) ?_
  refine PL_val rfl (fun w => R_move rfl) ?_
  refine PL_val rfl (fun w => R_move rfl) ?_
  refine PL_val rfl (fun w => R_slice100 Try.underlying85 Try.ti90 rfl rfl (by with_reducible first | exact natc_k _ | exact natc_a1 _ | exact natc_0 | exact natc_1 | exact natc_2 | exact natc_s1 _ (by omega) | exact natc_a2 _ | exact natc_add _ _ | exact natc_mul _ _ | exact natc (by omega)) (by omega)) ?_
  refine PL_end ?_
  refine HL_tail ?_
  intro w hs
  refine L_appendIn rfl Try.underlying85 Try.ti90 hs hL rfl (m := k - (i + 1)) (cy := c - (i + 1)) (by rw [← had]; rfl) (by rw [List.length_drop]; omega) (hnews _ hs) hone (by omega) (by rw [List.length_append, List.length_drop]; omega) ?_; intro w hs
  refine L_assign rfl rfl ?_
  refine RL_then ?_
  refine W_seq ?_
  refine W_set 0 (v' := .slice (some ⟨g, 0, none⟩) (k - 1) c) rfl (by rw [show i + (k - (i + 1)) = k - 1 by omega]) ?_
  replace hs : HS w0 w (L.set ix (g, Row 90 (zcs (zs.eraseIdx i) ++ (zcs zs ++ sp).drop (i * 3 + (k - (i + 1)) * 3)))) := by
    have e1 : ((zcs zs).drop ((i + 1) * 3)).length = (k - (i + 1)) * 3 := by rw [List.length_drop]; omega
    rw [zcs_erase, ← e1]
    rw [List.take_append_of_le_length (by omega)] at hs
    exact hs
  have hix : ix < L.length := (List.getElem?_eq_some_iff.1 hL).1
  have hel : (zcs (zs.eraseIdx i)).length = (k - 1) * 3 := by rw [zcs_len, List.length_eraseIdx_of_lt (by omega)]; omega
  have hsl : slA (some ⟨g, 0, none⟩) (k - 1) c 3 = some ⟨g, (k - 1) * 3, none⟩ := by unfold slA; rw [if_neg (by omega)]; show some ((Addr.mk g 0 none).add ((k - 1) * 3)) = _; rw [add_lit0]
  have hspl : ((zcs zs ++ sp).drop (i * 3 + (k - (i + 1)) * 3)).length = c * 3 - (k - 1) * 3 := by rw [List.length_drop, List.length_append]; omega
  obtain ⟨sp2, hsp2⟩ : ∃ sp2, sp2 = (zcs zs ++ sp).drop (i * 3 + (k - (i + 1)) * 3) := ⟨_, rfl⟩
  rw [← hsp2] at hs hspl
  have hk1 : k - (k - 1) = 1 := by omega
  refine W_region ?_
  refine L_move rfl rfl ?_
  refine L_move rfl rfl ?_
  refine L_len rfl Try.underlying85 rfl ?_
  refine L_move rfl rfl ?_
  refine RL_val rfl (R_slice110 Try.underlying85 Try.ti90 rfl rfl rfl (by with_reducible first | exact natc_k _ | exact natc_a1 _ | exact natc_0 | exact natc_1 | exact natc_2 | exact natc_s1 _ (by omega) | exact natc_a2 _ | exact natc_add _ _ | exact natc_mul _ _ | exact natc (by omega)) (by with_reducible first | exact natc_k _ | exact natc_a1 _ | exact natc_0 | exact natc_1 | exact natc_2 | exact natc_s1 _ (by omega) | exact natc_a2 _ | exact natc_add _ _ | exact natc_mul _ _ | exact natc (by omega)) (by omega)) ?_
  refine L_clearN hs (i := ix) (b := g) (o := (k - 1) * 3) (k := k - (k - 1)) (c := c - (k - 1)) (by rw [List.getElem?_set_self hix]) Try.underlying85 Try.ti90 (by rw [← hsl]; rfl) (by rw [List.length_append, hel, hspl]; omega) (by omega) rfl (zeroCells_one (by simp [Value.cells, Value.oneCell']) _) ?_; intro w zs' hzl' hs; rw [List.set_set] at hs
  refine RL_then ?_
  refine W_seq ?_
  refine W_region ?_
  refine L_move rfl rfl ?_
  refine L_assign rfl rfl ?_
  refine RL_then ?_
  refine W_ret' ?_
  refine Ex_done1 rfl rfl ?_
  refine ⟨_, rfl, rfl, zs' ++ sp2.drop 3, ?_, ?_⟩
  · rw [List.length_append, List.length_append, List.length_drop, hel, hspl, hzl']; omega
  · rw [List.take_append_of_le_length (by omega), List.take_of_length_le (by omega), List.drop_append, List.drop_eq_nil_of_le (by omega), hel, List.nil_append, hk1, show (k - 1) * 3 + 1 * 3 - (k - 1) * 3 = 3 by omega, List.append_assoc] at hs
    exact hs
theorem curE_endP {p : KE → Bool} {es : List KE} {ck : Nat} {D : List (Int × Int)} {vis : List KE} (hK : KOk es ck) (h1 : ∀ x ∈ vis, p x = true → x.1 ∈ D) (h2 : ∀ k ∈ D, ∃ x ∈ es, x.1 = k ∧ p x = true) (hsub : ∀ x ∈ vis, x ∈ es) (hall : ∀ x ∈ curE es D, x.2.2 ∈ vis.map (·.2.2)) : curE es D = es.filter fun x => !p x := by
  unfold curE
  apply List.filter_congr
  intro y hy
  congr 1
  rw [Bool.eq_iff_iff, List.contains_iff_mem]
  constructor
  · intro hD
    obtain ⟨x, hx, hxk, ha⟩ := h2 _ hD
    rw [← key_inj hK.keys hx hy hxk]; exact ha
  · intro ha
    apply Classical.byContradiction
    intro hD
    have hc : y ∈ curE es D := List.mem_filter.2 ⟨hy, by simp [hD]⟩
    obtain ⟨z, hz, hzb⟩ := List.mem_map.1 (hall y hc)
    have : z = y := by
      obtain ⟨i, hi, rfl⟩ := List.getElem_of_mem (hsub z hz)
      obtain ⟨j, hj, rfl⟩ := List.getElem_of_mem hy
      have : i = j := nodup_idx hK.born (i := i) (j := j) (x := es[i].2.2) (by simp [hi]) (by simp [hj, hzb])
      subst this; rfl
    subst this
    exact hD (h1 z hz ha)
def dropB (q : Int) (x : KE) : Bool := decide (x.1.1 = q)
def dropE (es : List KE) (q : Int) : List KE := es.filter fun x => !dropB q x
theorem zcs_one {w0 : World} {zs : List Zn} (h : ∀ z ∈ zs, z.ok w0) : ∀ u ∈ zcs zs, u.oneCell' = true := fun u hu => by
  obtain ⟨z, hz, hu⟩ := List.mem_flatMap.1 hu
  obtain ⟨ac, cc, hzv, _⟩ := (h z hz).bl.slice
  unfold Zn.cells at hu
  rw [hzv] at hu
  simp only [List.mem_cons, List.not_mem_nil, or_false] at hu
  rcases hu with rfl | rfl | rfl <;> simp [Value.oneCell']
theorem zms_erase {zs : List Zn} {i : Nat} (h : i < zs.length) : (zms zs).Perm (zms (zs.eraseIdx i) ++ (zs.getD i zn0).M) := by
  have h1 : zs = zs.take i ++ zs.getD i zn0 :: zs.drop (i + 1) := by
    rw [List.getD_eq_getElem?_getD, List.getElem?_eq_getElem h, Option.getD_some, List.getElem_cons_drop, List.take_append_drop]
  have h2 : zs.eraseIdx i = zs.take i ++ zs.drop (i + 1) := List.eraseIdx_eq_take_drop_succ ..
  rw [h2]
  generalize zs.getD i zn0 = z at h1 ⊢
  generalize zs.take i = A at h1 ⊢
  generalize zs.drop (i + 1) = C at h1 ⊢
  rw [h1, zms_app, zms_app, List.append_assoc]
  refine List.Perm.append_left _ ?_
  show (z.M ++ zms C).Perm _
  exact List.perm_append_comm
set_option maxHeartbeats 1000000 in
theorem dropG (w0 w : World) (B far : Nat) (v : Value) (M R : Bks) (ever : Int) (m : Nat) (es : List KE) (ck : Nat) (zs : List Zn) (q : Int) (hs : HS w0 w (gbs B far v M ever m es ck zs ++ R)) (hN : GOk w0 B v M m es ck zs) (hR : Own w0 R) :
    Ret Try.prog 30 [.pointer (some ⟨B, 0, none⟩), .int .i64 q] w fun r w' =>
      ((∀ i, i < zs.length → (zs.getD i zn0).num ≠ q) ∧ r = .int .i64 290 ∧ HS w0 w' (gbs B far v M ever m es ck zs ++ R)) ∨
      (∃ i, i < zs.length ∧ (zs.getD i zn0).num = q ∧ (∀ j, j < i → (zs.getD j zn0).num ≠ q) ∧ ∃ v' M', r = .int .i64 0 ∧ HS w0 w' (gbs B far v' M' ever m (dropE es q) ck (zs.eraseIdx i) ++ R) ∧ GOk w0 B v' M' m (dropE es q) ck (zs.eraseIdx i)) := by
  have hb := hN.bl
  have hlen := hN.len
  obtain ⟨ao, cz, rfl, hkc⟩ := hb.slice
  refine calls_of_W Try.func30 rfl rfl rfl ?_
  refine W_seq ?_
  refine W_region ?_
  refine L_box rfl hs rfl ?_
  intro b3 w hb3 hnb3 hs
  try dsimp only [List.set_cons_succ, List.set_cons_zero, List.cons_append, List.nil_append] at hs
  refine L_assign rfl rfl ?_
  refine RL_then ?_
  refine W_seq ?_
  refine W_seq ?_
  refine W_region ?_
  replace hs : HS w0 w ((b3, Row 3 [.int .i64 q]) :: (gbs B far (.slice ao zs.length cz) M ever m es ck zs ++ R)) := HS.push (L := gbs B far (.slice ao zs.length cz) M ever m es ck zs ++ R) hs
  refine L_move rfl rfl ?_
  refine L_ptrNil rfl Try.underlying34 rfl rfl ?_
  refine RL_then ?_
  refine W_if_false rfl ?_
  refine W_skip' ?_
  refine Nx_then ?_
  refine W_seq ?_
  refine W_region ?_
  refine L_move rfl rfl ?_
  refine L_nilCheck rfl rfl ?_
  refine L_fieldAddr rfl (off := 1) Try.underlying87 rfl rfl Try.ti85 rfl ?_
  refine L_load rfl Try.one85 rfl (by first | exact hs.cell (i := 0) rfl rfl | exact hs.cell (i := 1) rfl rfl) ?_
  refine RL_val rfl (R_makeFunc rfl rfl) ?_
  refine L_call rfl Try.fun46 rfl (zindex_ok 47 [.pointer (some ⟨b3, 0, none⟩)] (fun z => decide (z.num = q)) Try.fun47 ao zs.length cz zs w (fun i w' hi h => same_num (zs.getD i zn0) b3 q w' (h.oldcell (hs.cell (i := 0) rfl rfl) (by simp))) (Bl.slcM hb hs (fun p hp => List.mem_cons_of_mem _ (List.mem_append_left _ (List.mem_cons_of_mem _ (List.mem_cons_of_mem _ (List.mem_append_left _ hp)))))) rfl (by omega)) ?_
  rintro _ w1 ⟨j, rfl, hs', hF⟩
  have hs2 := hs.nil hs'
  clear hs hs'
  have hs := hs2
  clear hs2
  rcases hF with ⟨i, hi, rfl, hp, hq⟩ | ⟨rfl, hq⟩
  · obtain ⟨g, cap, sp, hv, rfl, hg, hcap, hle⟩ := hb.own_row (by omega)
    obtain ⟨rfl, rfl⟩ : ao = some ⟨g, 0, none⟩ ∧ cz = cap := by injection hv with h1 _ h2; exact ⟨h1, h2⟩
    refine L_assign rfl rfl ?_
    refine RL_then ?_
    refine W_seq ?_
    refine W_seq ?_
    refine W_region ?_
    refine L_move rfl rfl ?_
    first | refine L_lss rfl rfl rfl (dtrue (by omega)) ?_ | refine L_lss rfl rfl rfl (dfalse (by omega)) ?_ | refine L_lss rfl rfl rfl rfl ?_
    refine RL_then ?_
    refine W_if_false rfl ?_
    refine W_skip' ?_
    refine Nx_then ?_
    refine W_seq ?_
    refine W_region ?_
    refine L_move rfl rfl ?_
    refine L_move rfl rfl ?_
    refine L_nilCheck rfl rfl ?_
    refine L_fieldAddr rfl (off := 1) Try.underlying87 rfl rfl Try.ti85 rfl ?_
    refine L_load rfl Try.one85 rfl (by first | exact hs.cell (i := 0) rfl rfl | exact hs.cell (i := 1) rfl rfl) ?_
    refine L_move rfl rfl ?_
    refine L_move rfl rfl ?_
    first | refine L_add rfl rfl rfl (wrp_i64 (by omega)) ?_ | refine L_add rfl rfl rfl rfl ?_
    refine L_call rfl Try.fun48 rfl (delete_ok w0 w1 ((b3, Row 3 [.int .i64 q]) :: (gbs B far (.slice (some ⟨g, 0, none⟩) zs.length cz) [(g, Row 90 (zcs zs ++ sp))] ever m es ck zs ++ R)) 3 g zs.length cz i zs sp hs rfl rfl hi hcap hle (by omega) (zcs_one hN.each)) ?_
    rintro _ w2 ⟨rfl, sp', hsp', hs2⟩
    replace hs2 : HS w0 w2 ((b3, Row 3 [.int .i64 q]) :: (B, Row 87 [.float .f64 far, .slice (some ⟨g, 0, none⟩) zs.length cz, .int .i64 ever, .map (some m)]) :: (m, KO es ck) :: ([(g, Row 90 (zcs (zs.eraseIdx i) ++ sp'))] ++ zms zs ++ R)) := hs2
    clear hs
    have hs := hs2
    clear hs2
    refine L_nilCheck rfl rfl ?_
    refine L_fieldAddr rfl (off := 1) Try.underlying87 rfl rfl Try.ti85 rfl ?_
    refine L_store hs (i := 1) rfl Try.ti85 rfl rfl (by first | rfl | exact add_lit0 _ _ | exact Addr.add_lit .. | (rw [add_add]; exact add_lit0 _ _)) (by simp) rfl ?_
    intro w hs
    try dsimp only [List.set_cons_succ, List.set_cons_zero, List.cons_append, List.nil_append] at hs
    refine RL_then ?_
    refine W_seq ?_
    refine W_seq ?_
    replace hs : HS w0 w ((b3, Row 3 [.int .i64 q]) :: (B, Row 87 [.float .f64 far, .slice (some ⟨g, 0, none⟩) (zs.length - 1) cz, .int .i64 ever, .map (some m)]) :: (m, KO es ck) :: ([(g, Row 90 (zcs (zs.eraseIdx i) ++ sp'))] ++ zms zs ++ R)) := hs
    have hel : (zs.eraseIdx i).length = zs.length - 1 := List.length_eraseIdx_of_lt hi
    have hzok : ∀ z ∈ zs.eraseIdx i, z.ok w0 := fun z hz => hN.each z (List.mem_of_mem_eraseIdx hz)
    have hs3 : HS w0 w ((m, KO es ck) :: (b3, Row 3 [.int .i64 q]) :: (B, Row 87 [.float .f64 far, .slice (some ⟨g, 0, none⟩) (zs.length - 1) cz, .int .i64 ever, .map (some m)]) :: ([(g, Row 90 (zcs (zs.eraseIdx i) ++ sp'))] ++ zms (zs.eraseIdx i) ++ R)) := by
      have hzi : (zs.getD i zn0).ok w0 := hN.each _ (getD_mem hi)
      refine HS.dropR (M := (zs.getD i zn0).M) (hs.mem_perm (perm_by fun c => ?_)) hzi.bl.own
      have hsum := ((zms_erase hi).map c).sum_nat
      simp only [List.map_append, List.map_cons, List.map_nil, List.sum_append, List.sum_cons, List.sum_nil] at hsum ⊢
      omega
    clear hs
    have hs := hs3
    clear hs3
    obtain ⟨A, hA⟩ : ∃ A, (b3, Row 3 [.int .i64 q]) :: (B, Row 87 [.float .f64 far, .slice (some ⟨g, 0, none⟩) (zs.length - 1) cz, .int .i64 ever, .map (some m)]) :: ([(g, Row 90 (zcs (zs.eraseIdx i) ++ sp'))] ++ zms (zs.eraseIdx i) ++ R) = A := ⟨_, rfl⟩
    have hBA : (B, Row 87 [.float .f64 far, .slice (some ⟨g, 0, none⟩) (zs.length - 1) cz, .int .i64 ever, .map (some m)]) ∈ A := by rw [← hA]; exact List.mem_cons_of_mem _ (List.mem_cons_self ..)
    have hbA : (b3, Row 3 [.int .i64 q]) ∈ A := by rw [← hA]; exact List.mem_cons_self ..
    have hfin : ∀ w', HS w0 w' ((m, KO (dropE es q) ck) :: A) → HS w0 w' (gbs B far (.slice (some ⟨g, 0, none⟩) (zs.length - 1) cz) [(g, Row 90 (zcs (zs.eraseIdx i) ++ sp'))] ever m (dropE es q) ck (zs.eraseIdx i) ++ R) := fun w' h => by
      rw [← hA] at h
      exact HS.pop (HS.re (L' := (b3, Row 3 [.int .i64 q]) :: (gbs B far (.slice (some ⟨g, 0, none⟩) (zs.length - 1) cz) [(g, Row 90 (zcs (zs.eraseIdx i) ++ sp'))] ever m (dropE es q) ck (zs.eraseIdx i) ++ R)) h (fun c => by simp only [List.map_append, List.map_cons, List.map_nil, List.sum_append, List.sum_cons, List.sum_nil]; omega)) hb3
    have hGN : GOk w0 B (.slice (some ⟨g, 0, none⟩) (zs.length - 1) cz) [(g, Row 90 (zcs (zs.eraseIdx i) ++ sp'))] m (dropE es q) ck (zs.eraseIdx i) := by
      refine ⟨hN.ownB, hN.ownm, ?_, hzok, by omega, hN.map.sub _⟩
      rw [hel]
      exact Bl.row hg (by rw [zcs_len, hel]) hsp' (by omega)
    rw [hA] at hs
    clear hA
    have hK := hN.map
    refine W_region ?_
    refine L_move rfl rfl ?_
    refine L_nilCheck rfl rfl ?_
    refine L_fieldAddr rfl (off := 3) Try.underlying87 rfl rfl Try.ti84 rfl ?_
    refine L_load rfl Try.one84 rfl (by exact HS.cellM hs (List.mem_cons_of_mem _ hBA) rfl) ?_
    refine L_range rfl hs (List.mem_cons_self ..) Try.underlying84 rfl ?_; intro b32 w hb32 _ hs; replace hs := HS.push hs
    refine RL_then ?_
    refine W_block ?_
    refine W_loop3 (fun (vis : List KE) (D : List (Int × Int)) (w : World) => [(0, .pointer (some ⟨B, 0, none⟩)), (3, .pointer (some ⟨b3, 0, none⟩)), (32, .pointer (some ⟨b32, 0, none⟩))]) (fun (vis : List KE) (D : List (Int × Int)) (w : World) => w) (fun (vis : List KE) (D : List (Int × Int)) (w : World) => (∀ x ∈ vis, x ∈ es) ∧ (∀ x ∈ vis, dropB q x = true → x.1 ∈ D) ∧ (∀ k ∈ D, ∃ x ∈ es, x.1 = k ∧ dropB q x = true) ∧ (HS w0 w ((b32, ItO m ck (vis.map (·.2.2)) ck) :: (m, KO (curE es D) ck) :: A))) (fun (vis : List KE) (D : List (Int × Int)) (w : World) => (unseen (vis.map (·.2.2)) es).length) ([]) ([]) (_) (is := [0, 3, 32]) rfl rfl ?_ ?_
    · refine ⟨fun x hx => (by cases hx), fun x hx => (by cases hx), fun x hx => (by cases hx), ?_⟩
      rw [show curE es [] = es by unfold curE; rw [List.filter_eq_self]; intro y _; rfl]
      exact hs
    · clear hs
      intro vis D w hI
      show W _ _ _ _ [(0, .pointer (some ⟨B, 0, none⟩)), (3, .pointer (some ⟨b3, 0, none⟩)), (32, .pointer (some ⟨b32, 0, none⟩))] w
      obtain ⟨hsub, hD1, hD2, hs⟩ := hI
      have hKc := hK.sub (fun y => !D.contains y.1)
      refine W_seq ?_
      refine W_region ?_
      refine L_next rfl hs (i := 0) rfl (List.mem_cons_of_mem _ (List.mem_cons_self ..)) hKc.old (Nat.le_refl _) rfl ?_ ?_
      · intro hall
        rw [curE_endP hK hD1 hD2 hsub hall] at hs
        replace hs := HS.pop hs hb32
        refine L_extract rfl rfl rfl ?_
        refine RL_then ?_
        refine W_seq ?_
        refine W_if_false rfl ?_
        refine W_exit' ?_
        refine Ex_then_exit ?_
        refine Ex_loop_exit ?_
        refine Ex_block_hit ?_
        refine Nx_then ?_
        refine W_seq ?_
        refine W_region ?_
        refine L_assign rfl rfl ?_
        refine RL_then ?_
        refine W_ret' ?_
        refine Ex_done1 rfl rfl ?_
        exact ⟨_, rfl, .inr ⟨i, hi, of_decide_eq_true hp, fun j hj h => hq j hj (decide_eq_true h), _, _, rfl, hfin _ hs, hGN⟩⟩
      · intro x hx hxs w hs
        have hxe : x ∈ es := (List.mem_filter.1 hx).1
        replace hs : HS w0 w ((b32, ItO m ck (vis.map (·.2.2) ++ [x.2.2]) ck) :: (m, KO (curE es D) ck) :: A) := hs
        refine L_extract rfl rfl rfl ?_
        refine RL_then ?_
        refine W_seq ?_
        refine W_if_true rfl ?_
        refine W_skip' ?_
        refine Nx_then ?_
        refine W_block ?_
        refine W_seq ?_
        refine W_region ?_
        refine L_entry rfl hs (List.mem_cons_self ..) (List.mem_cons_of_mem _ (List.mem_cons_self ..)) hx hKc.born rfl ?_
        refine L_extract rfl rfl rfl ?_
        refine L_alloc rfl hs Try.ti98 ?_; intro b6 w hb6 _ hs; replace hs := HS.push hs
        refine L_storeA hs (i := 0) rfl Try.ti98 rfl rfl (by first | rfl | exact add_lit0 _ _ | exact Addr.add_lit .. | (rw [add_add]; exact add_lit0 _ _)) (by simp) (by first | (simp; done) | simp [Value.oneCell']) ?_
        intro w hs
        try dsimp only [List.set_cons_succ, List.set_cons_zero, List.cons_append, List.nil_append] at hs
        refine RL_then ?_
        refine W_seq ?_
        replace hs : HS w0 w ((b6, Row 98 [.int .i64 x.1.1, .int .i64 x.1.2]) :: (b32, ItO m ck (vis.map (·.2.2) ++ [x.2.2]) ck) :: (m, KO (curE es D) ck) :: A) := hs
        have fmap : (vis ++ [x]).map (·.2.2) = vis.map (·.2.2) ++ [x.2.2] := by simp
        have flt : (unseen ((vis ++ [x]).map (·.2.2)) es).length < (unseen (vis.map (·.2.2)) es).length := by rw [fmap]; exact unseen_lt hxe hxs
        have fsub : ∀ y ∈ vis ++ [x], y ∈ es := fun y hy => (List.mem_append.1 hy).elim (hsub y) fun h => by rw [List.mem_singleton.1 h]; exact hxe
        by_cases h1 : x.1.1 = q
        · have haw : dropB q x = true := decide_eq_true h1
          refine W_region ?_
          refine L_fieldAddr rfl (off := 0) Try.underlying98 rfl rfl Try.ti3 rfl ?_
          refine L_load rfl Try.one3 rfl (by exact hs.cell (i := 0) rfl rfl) ?_
          refine L_load rfl Try.one3 rfl (by exact HS.cellM hs (List.mem_cons_of_mem _ (List.mem_cons_of_mem _ (List.mem_cons_of_mem _ hbA))) rfl) ?_
          first | refine L_eql rfl rfl rfl (dtrue (by omega)) ?_ | refine L_eql rfl rfl rfl (dfalse (by omega)) ?_ | refine L_eql rfl rfl rfl rfl ?_
          refine RL_then ?_
          refine W_if_true rfl ?_
          refine W_pht [0, 1, 2] [3, 4] [5] (fun _ _ _ => False) Try.mixed (by kernel_rfl) (fun _ _ _ _ _ h => h) hs ?_
          refine PL_val rfl (fun w => R_move rfl) ?_
          refine PL_val rfl (fun w => R_nilCheck rfl) ?_
          refine PL_val rfl (fun w => R_fieldAddr (off := 3) Try.underlying87 rfl rfl Try.ti84 rfl) ?_
          refine PL_end ?_
          refine HL_val rfl (fun w hs => R_load Try.one84 rfl (by exact HS.cellM hs (List.mem_cons_of_mem _ (List.mem_cons_of_mem _ (List.mem_cons_of_mem _ hBA))) rfl)) ?_
          refine HL_val rfl (fun w hs => R_loadA Try.agg98 Try.ti98 rfl (by exact cellsAt2' (hs.get (i := 0) rfl) rfl rfl)) ?_
          refine HL_tail ?_
          intro w hs
          refine L_mdel hs (i := 2) (k := x.1) rfl K98 Try.underlying84 rfl rfl ?_; intro w hs
          refine RL_nil' ?_
          refine Nx_block ?_
          refine Nx_loopP (vis ++ [x], D ++ [x.1], _) (is := [0, 3, 32]) (I' := (fun (vis : List KE) (D : List (Int × Int)) (w : World) => (∀ x ∈ vis, x ∈ es) ∧ (∀ x ∈ vis, dropB q x = true → x.1 ∈ D) ∧ (∀ k ∈ D, ∃ x ∈ es, x.1 = k ∧ dropB q x = true) ∧ (HS w0 w ((b32, ItO m ck (vis.map (·.2.2)) ck) :: (m, KO (curE es D) ck) :: A))) (vis ++ [x]) (D ++ [x.1]) (_)) rfl rfl rfl ?_ ?_
          · refine ⟨fsub, fun y hy ha => ?_, fun k hk => ?_, ?_⟩
            · rcases List.mem_append.1 hy with h | h
              · exact List.mem_append_left _ (hD1 y h ha)
              · rw [List.mem_singleton.1 h]; exact List.mem_append_right _ (List.mem_singleton.2 rfl)
            · rcases List.mem_append.1 hk with h | h
              · exact hD2 k h
              · exact ⟨x, hxe, (List.mem_singleton.1 h).symm, haw⟩
            · rw [fmap, curE_snoc, ← mdel_filter (l := curE es D) x.1 hKc.keys]
              exact HS.pop (L := (b32, ItO m ck (vis.map (·.2.2) ++ [x.2.2]) ck) :: (m, KO (mdel x.1 (curE es D)) ck) :: A) hs hb6
          · exact flt
        · have haw : dropB q x = false := decide_eq_false h1
          refine W_region ?_
          refine L_fieldAddr rfl (off := 0) Try.underlying98 rfl rfl Try.ti3 rfl ?_
          refine L_load rfl Try.one3 rfl (by exact hs.cell (i := 0) rfl rfl) ?_
          refine L_load rfl Try.one3 rfl (by exact HS.cellM hs (List.mem_cons_of_mem _ (List.mem_cons_of_mem _ (List.mem_cons_of_mem _ hbA))) rfl) ?_
          first | refine L_eql rfl rfl rfl (dtrue (by omega)) ?_ | refine L_eql rfl rfl rfl (dfalse (by omega)) ?_ | refine L_eql rfl rfl rfl rfl ?_
          refine RL_then ?_
          refine W_if_false rfl ?_
          refine W_skip' ?_
          refine Nx_block ?_
          refine Nx_loopP (vis ++ [x], D, _) (is := [0, 3, 32]) (I' := (fun (vis : List KE) (D : List (Int × Int)) (w : World) => (∀ x ∈ vis, x ∈ es) ∧ (∀ x ∈ vis, dropB q x = true → x.1 ∈ D) ∧ (∀ k ∈ D, ∃ x ∈ es, x.1 = k ∧ dropB q x = true) ∧ (HS w0 w ((b32, ItO m ck (vis.map (·.2.2)) ck) :: (m, KO (curE es D) ck) :: A))) (vis ++ [x]) (D) (_)) rfl rfl rfl ?_ ?_
          · refine ⟨fsub, fun y hy ha => (List.mem_append.1 hy).elim (fun h => hD1 y h ha) fun h => ?_, hD2, by rw [fmap]; exact HS.pop hs hb6⟩
            rw [List.mem_singleton.1 h, haw] at ha; cases ha
          · exact flt
  · refine L_assign rfl rfl ?_
    refine RL_then ?_
    refine W_seq ?_
    refine W_seq ?_
    refine W_region ?_
    refine L_move rfl rfl ?_
    first | refine L_lss rfl rfl rfl (dtrue (by omega)) ?_ | refine L_lss rfl rfl rfl (dfalse (by omega)) ?_ | refine L_lss rfl rfl rfl rfl ?_
    refine RL_then ?_
    refine W_if_true rfl ?_
    refine W_seq ?_
    refine W_region ?_
    refine L_assign rfl rfl ?_
    refine RL_then ?_
    refine W_ret' ?_
    refine Ex_then_ret ?_
    refine Ex_done1 rfl rfl ?_
    exact ⟨_, rfl, .inl ⟨fun i hi h => hq i hi (decide_eq_true h), rfl, HS.pop hs hb3⟩⟩
end Go.Proofs.Ytoiobncojfeoiaa
