/-
  A part of the proof: what functions that the statement reaches do, or a plain law on what they do. Each theorem holds under its own premises alone.
-/
import Derived.Test.YtoiobncojfeoiaaTUX
import Derived.Test.YtoiobncojfeoiaaTUW3
namespace Go.Proofs.Ytoiobncojfeoiaa
open Go Go.Lk
/-! ### of, turned -/
theorem Al.one' (l : Al) : ∀ v ∈ l.cells, v.oneCell' = true := by
  intro v hv
  unfold Al.cells at hv
  simp only [List.mem_cons, List.not_mem_nil, or_false] at hv
  rcases hv with rfl | rfl | rfl | rfl <;> rfl
theorem take_al {T : List Al} {j : Nat} (h : j < T.length) : T.take (j + 1) = T.take j ++ [T.getD j al0] := by
  rw [List.take_add_one, List.getD_eq_getElem?_getD, List.getElem?_eq_getElem h]; rfl
theorem ofL_snoc (T : List Al) (x : Al) (n az : Int) : ofL (T ++ [x]) n az = ofL T n az ++ (if x.zone = n then [⟨x.kind, az, x.track, x.time⟩] else []) := by
  unfold ofL
  rw [List.filter_append, List.map_append]
  congr 1
  by_cases h : x.zone = n <;> simp [h]
theorem ofL_len (T : List Al) (n az : Int) : (ofL T n az).length ≤ T.length := by unfold ofL; rw [List.length_map]; exact List.length_filter_le ..
theorem of_ok (a : Option Addr) (k c : Nat) (T : List Al) (n az : Int) (w0 : World) (hx : SlC w0 a (acs T)) (hk : T.length = k) (hk2 : k ≤ 1000000000) :
    Ret Try.prog 21 [.slice a k c, .int .i64 n, .int .i64 az] w0 fun v w' => ∃ N, HS w0 w' N ∧ Bl w0 51 4 v (ofL T n az).length (acs (ofL T n az)) N := by
  refine Ret.start fun w hs => ?_
  refine calls_of_W Try.func21 rfl rfl rfl ?_
  refine W_seq ?_
  refine W_region ?_
  refine L_assign rfl rfl ?_
  refine RL_then ?_
  refine W_seq ?_
  refine W_region ?_
  refine L_assign rfl rfl ?_
  refine RL_then ?_
  refine W_seq ?_
  refine W_seq ?_
  refine W_region ?_
  refine L_move rfl rfl ?_
  refine L_len rfl Try.underlying47 rfl ?_
  refine L_move rfl rfl ?_
  refine RL_then ?_
  refine W_block ?_
  refine W_loop4 (fun (i : Nat) (v : Value) (M : Bks) (w : World) => [(0, .slice a k c), (1, .int .i64 n), (2, .int .i64 az), (7, v), (10, .slice a k c), (11, .int .i64 k), (12, .int .i64 i)]) (fun (i : Nat) (v : Value) (M : Bks) (w : World) => w) (fun (i : Nat) (v : Value) (M : Bks) (w : World) => (i ≤ k) ∧ (Bl w0 51 4 v (ofL (T.take i) n az).length (acs (ofL (T.take i) n az)) M) ∧ (HS w0 w M)) (fun (i : Nat) (v : Value) (M : Bks) (w : World) => k - i) (0) (.slice none 0 0) ([]) (w) (is := [0, 1, 2, 7, 10, 11, 12]) rfl rfl ?_ ?_
  · exact ⟨Nat.zero_le _, Bl.nil, hs⟩
  · clear hs
    intro i v M w hI
    show W _ _ _ _ [(0, .slice a k c), (1, .int .i64 n), (2, .int .i64 az), (7, v), (10, .slice a k c), (11, .int .i64 k), (12, .int .i64 i)] w
    obtain ⟨hi, hb, hs⟩ := hI
    by_cases hlt : i < k
    · refine W_seq ?_
      refine W_region ?_
      first | refine L_lss rfl rfl rfl (dtrue (by omega)) ?_ | refine L_lss rfl rfl rfl (dfalse (by omega)) ?_ | refine L_lss rfl rfl rfl rfl ?_
      refine RL_then ?_
      refine W_seq ?_
      refine W_if_true rfl ?_
      obtain ⟨x, hxd⟩ : ∃ x, x = T.getD i al0 := ⟨_, rfl⟩
      have hxc : SlC w a (acs T) := hx.old hs hb.own
      have htake : ofL (T.take (i + 1)) n az = ofL (T.take i) n az ++ (if x.zone = n then [⟨x.kind, az, x.track, x.time⟩] else []) := by rw [take_al (by omega), ofL_snoc, ← hxd]
      have hol : (ofL (T.take i) n az).length ≤ i := Nat.le_trans (ofL_len ..) (by rw [List.length_take]; omega)
      refine W_skip' ?_
      refine Nx_then ?_
      refine W_seq ?_
      refine W_block ?_
      refine W_seq ?_
      refine W_region ?_
      refine L_idxN rfl Try.underlying47 Try.ti51 rfl rfl (by with_reducible first | exact natc_k _ | exact natc_a1 _ | exact natc_0 | exact natc_1 | exact natc_2 | exact natc_s1 _ (by omega) | exact natc_a2 _ | exact natc_add _ _ | exact natc_mul _ _ | exact natc (by omega)) (by omega) (hxc.ao (by rw [acs_len]; omega)) ?_
      refine L_loadA rfl Try.agg51 Try.ti51 rfl (by exact (by rw [hxd]; exact al_at hxc (by omega) : CellsAt w ((aD a).add (i * 4)) x.cells)) ?_
      refine L_alloc rfl hs Try.ti51 ?_; intro b9 w hb9 _ hs; replace hs := HS.push hs
      refine L_storeA hs (i := 0) rfl Try.ti51 rfl rfl (by first | rfl | exact add_lit0 _ _ | exact Addr.add_lit .. | (rw [add_add]; exact add_lit0 _ _)) (by simp [Al.cells]) (by exact Al.one' x) ?_
      intro w hs
      try dsimp only [List.set_cons_succ, List.set_cons_zero, List.cons_append, List.nil_append] at hs
      refine RL_then ?_
      refine W_seq ?_
      replace hs : HS w0 w ((b9, Row 51 x.cells) :: M) := hs
      by_cases hz : x.zone = n
      · skip
        refine W_region ?_
        refine L_fieldAddr rfl (off := 1) Try.underlying51 rfl rfl Try.ti3 rfl ?_
        refine L_load rfl Try.one3 rfl (by exact hs.cell (i := 0) rfl rfl) ?_
        refine L_move rfl rfl ?_
        first | refine L_eql rfl rfl rfl (dtrue (by omega)) ?_ | refine L_eql rfl rfl rfl (dfalse (by omega)) ?_ | refine L_eql rfl rfl rfl rfl ?_
        refine RL_then ?_
        refine W_if_true rfl ?_
        refine W_seq ?_
        refine W_region ?_
        refine L_move rfl rfl ?_
        refine L_fieldAddr rfl (off := 1) Try.underlying51 rfl rfl Try.ti3 rfl ?_
        refine L_store hs (i := 0) rfl Try.ti3 rfl rfl (by first | rfl | exact add_lit0 _ _ | exact Addr.add_lit .. | (rw [add_add]; exact add_lit0 _ _)) (by simp [Al.cells]) rfl ?_
        intro w hs
        try dsimp only [List.set_cons_succ, List.set_cons_zero, List.cons_append, List.nil_append] at hs
        refine RL_then ?_
        refine W_region ?_
        replace hs : HS w0 w ((b9, Row 51 (Al.mk x.kind az x.track x.time).cells) :: M) := hs
        refine L_move rfl rfl ?_
        refine L_loadA rfl Try.agg51 Try.ti51 rfl (by exact cellsAt_whole (cs := (Al.mk x.kind az x.track x.time).cells) (hs.get (i := 0) rfl)) ?_
        refine L_buildSlice rfl hs Try.underlying47 Try.ti51 rfl (by decide) rfl (by simp [Value.cells, Al.cells]) ?_
        intro b24 w hb24 hnb24 hs
        skip
        have h0 : HS w0 w (((b9, Row 51 (Al.mk x.kind az x.track x.time).cells) :: M) ++ [(b24, Row 51 (Al.mk x.kind az x.track x.time).cells)]) := hs
        clear hs
        have hs : HS w0 w (([(b9, Row 51 (Al.mk x.kind az x.track x.time).cells)] ++ M) ++ [(b24, Row 51 (Al.mk x.kind az x.track x.time).cells)]) := h0
        clear h0
        refine L_appendT (L := [(b9, Row 51 (Al.mk x.kind az x.track x.time).cells)]) (M := M) rfl Try.underlying47 Try.ti51 rfl hs hb24 hb rfl rfl rfl (Al.one' _) (by omega) (by omega) ?_
        intro v25 w M25 hs hb25
        refine L_assign rfl rfl ?_
        refine RL_nil' ?_
        refine Nx_block ?_
        refine Nx_then ?_
        refine W_region ?_
        first | refine L_add rfl rfl rfl (wrp_i64 (by omega)) ?_ | refine L_add rfl rfl rfl rfl ?_
        refine L_move rfl rfl ?_
        refine RL_nil' ?_
        refine Nx_loopP (i + 1, v25, M25, _) (is := [0, 1, 2, 7, 10, 11, 12]) (I' := (fun (i : Nat) (v : Value) (M : Bks) (w : World) => (i ≤ k) ∧ (Bl w0 51 4 v (ofL (T.take i) n az).length (acs (ofL (T.take i) n az)) M) ∧ (HS w0 w M)) (i + 1) (v25) (M25) (_)) rfl rfl rfl ?_ ?_
        · refine ⟨by omega, ?_, HS.pop (L := M25) hs hb9⟩
          rw [htake, if_pos hz, List.length_append, acs_snoc]
          exact hb25
        · omega
      · refine W_region ?_
        refine L_fieldAddr rfl (off := 1) Try.underlying51 rfl rfl Try.ti3 rfl ?_
        refine L_load rfl Try.one3 rfl (by exact hs.cell (i := 0) rfl rfl) ?_
        refine L_move rfl rfl ?_
        first | refine L_eql rfl rfl rfl (dtrue (by omega)) ?_ | refine L_eql rfl rfl rfl (dfalse (by omega)) ?_ | refine L_eql rfl rfl rfl rfl ?_
        refine RL_then ?_
        refine W_if_false rfl ?_
        refine W_skip' ?_
        refine Nx_block ?_
        refine Nx_then ?_
        refine W_region ?_
        first | refine L_add rfl rfl rfl (wrp_i64 (by omega)) ?_ | refine L_add rfl rfl rfl rfl ?_
        refine L_move rfl rfl ?_
        refine RL_nil' ?_
        refine Nx_loopP (i + 1, v, M, _) (is := [0, 1, 2, 7, 10, 11, 12]) (I' := (fun (i : Nat) (v : Value) (M : Bks) (w : World) => (i ≤ k) ∧ (Bl w0 51 4 v (ofL (T.take i) n az).length (acs (ofL (T.take i) n az)) M) ∧ (HS w0 w M)) (i + 1) (v) (M) (_)) rfl rfl rfl ?_ ?_
        · refine ⟨by omega, ?_, HS.pop (L := M) hs hb9⟩
          rw [htake, if_neg hz, List.append_nil]
          exact hb
        · omega
    · obtain rfl : k = i := by omega
      rw [List.take_of_length_le (by omega)] at hb
      refine W_seq ?_
      refine W_region ?_
      first | refine L_lss rfl rfl rfl (dtrue (by omega)) ?_ | refine L_lss rfl rfl rfl (dfalse (by omega)) ?_ | refine L_lss rfl rfl rfl rfl ?_
      refine RL_then ?_
      refine W_seq ?_
      refine W_if_false rfl ?_
      refine W_exit' ?_
      refine Ex_then_exit ?_
      refine Ex_loop_exit ?_
      refine Ex_block_hit ?_
      refine Nx_then ?_
      refine W_seq ?_
      refine W_region ?_
      refine L_move rfl rfl ?_
      refine L_assign rfl rfl ?_
      refine RL_then ?_
      refine W_ret' ?_
      refine Ex_done1 rfl rfl ?_
      exact ⟨_, rfl, M, hs, hb⟩
theorem turn_snoc {ps : List Pt} {b0 : Nat} {back : Bool} {k : Nat} (h : k < ps.length) : (turnL ps b0 back).take (k + 1) = (turnL ps b0 back).take k ++ [ps.getD (tIdx ps.length b0 back k) (0, 0)] := by
  rw [List.take_add_one, ← turnL_get h, List.getD_eq_getElem?_getD, List.getElem?_eq_getElem (by rw [turnL_len]; exact h)]; rfl
theorem tmod_rot {n b0 k : Nat} (hb : b0 < n) (hk : k < n) : ((b0 : Int) + k).tmod n = (rot n b0 k : Nat) := by
  rw [show ((b0 : Int) + k) = ((b0 + k : Nat) : Int) by omega]
  show (((b0 + k) % n : Nat) : Int) = _
  congr 1
  unfold rot
  split
  · next h => exact Nat.mod_eq_of_lt h
  · rw [Nat.mod_eq_sub_mod (by omega), Nat.mod_eq_of_lt (by omega)]
theorem pt_one (p : Pt) : ∀ v ∈ pc p, v.oneCell' = true := by
  intro v hv
  unfold pc at hv
  simp only [List.mem_cons, List.not_mem_nil, or_false] at hv
  rcases hv with rfl | rfl <;> rfl
theorem turned_ok (a : Option Addr) (n c : Nat) (ps : List Pt) (bg : Int) (back : Bool) (w0 : World) (hx : SlC w0 a (pcs ps)) (hn : ps.length = n) (hn2 : n ≤ 1000000) :
    Ret Try.prog 19 [.slice a n c, .int .i64 bg, .bool back] w0 fun v w' => ∃ N, HS w0 w' N ∧ Bl w0 25 2 v n (pcs (turnL ps (bg % n).toNat back)) N := by
  refine Ret.start fun w hs => ?_
  obtain ⟨b0, hb0⟩ : ∃ b0, b0 = (bg % n).toNat := ⟨_, rfl⟩
  rw [← hb0]
  have hTl : (turnL ps b0 back).length = n := by rw [turnL_len, hn]
  refine calls_of_W Try.func19 rfl rfl rfl ?_
  refine W_seq ?_
  refine W_region ?_
  refine L_assign rfl rfl ?_
  refine RL_then ?_
  refine W_seq ?_
  refine W_region ?_
  refine L_move rfl rfl ?_
  refine L_len rfl Try.underlying22 rfl ?_
  refine L_assign rfl rfl ?_
  refine RL_then ?_
  refine W_seq ?_
  refine W_region ?_
  refine L_assign rfl rfl ?_
  refine RL_then ?_
  refine W_seq ?_
  refine W_seq ?_
  refine W_region ?_
  refine L_move rfl rfl ?_
  refine L_move rfl rfl ?_
  refine RL_then ?_
  refine W_block ?_
  refine W_loop4 (fun (i : Nat) (v : Value) (M : Bks) (w : World) => [(0, .slice a n c), (1, .int .i64 bg), (2, .bool back), (7, .int .i64 n), (8, v), (13, .int .i64 n), (14, .int .i64 i)]) (fun (i : Nat) (v : Value) (M : Bks) (w : World) => w) (fun (i : Nat) (v : Value) (M : Bks) (w : World) => (i ≤ n) ∧ (Bl w0 25 2 v i (pcs ((turnL ps b0 back).take i)) M) ∧ (HS w0 w M)) (fun (i : Nat) (v : Value) (M : Bks) (w : World) => n - i) (0) (.slice none 0 0) ([]) (w) (is := [0, 1, 2, 7, 8, 13, 14]) rfl rfl ?_ ?_
  · exact ⟨Nat.zero_le _, Bl.nil, hs⟩
  · clear hs
    intro i v M w hI
    show W _ _ _ _ [(0, .slice a n c), (1, .int .i64 bg), (2, .bool back), (7, .int .i64 n), (8, v), (13, .int .i64 n), (14, .int .i64 i)] w
    obtain ⟨hi, hb, hs⟩ := hI
    by_cases hlt : i < n
    · have hbe : (bg % n).toNat = b0 := hb0.symm
      have hmn : 0 ≤ bg % (n : Int) := Int.emod_nonneg _ (by omega)
      have hml : bg % (n : Int) < n := Int.emod_lt_of_pos _ (by omega)
      have hbl : b0 < n := by omega
      have hxc : SlC w a (pcs ps) := hx.old hs hb.own
      obtain ⟨r, hr⟩ : ∃ r, r = rot n b0 i := ⟨_, rfl⟩
      have hrl : r < n := by rw [hr]; unfold rot; split <;> omega
      obtain ⟨q, hq⟩ : ∃ q, q = tIdx n b0 back i := ⟨_, rfl⟩
      have hqb : q = if back = true then n - 1 - r else r := by rw [hq, hr]; unfold tIdx; rfl
      have hql : q < n := by rw [hqb]; split <;> omega
      have hTs : (turnL ps b0 back).take (i + 1) = (turnL ps b0 back).take i ++ [ps.getD q (0, 0)] := by rw [turn_snoc (by omega), hn, ← hq]
      refine W_seq ?_
      refine W_region ?_
      first | refine L_lss rfl rfl rfl (dtrue (by omega)) ?_ | refine L_lss rfl rfl rfl (dfalse (by omega)) ?_ | refine L_lss rfl rfl rfl rfl ?_
      refine RL_then ?_
      refine W_seq ?_
      refine W_if_true rfl ?_
      refine W_skip' ?_
      refine Nx_then ?_
      refine W_seq ?_
      refine W_block ?_
      refine W_seq ?_
      refine W_region ?_
      refine L_move rfl rfl ?_
      refine L_assign rfl rfl ?_
      refine RL_then ?_
      refine W_seq ?_
      refine W_region ?_
      refine L_move rfl rfl ?_
      refine L_move rfl rfl ?_
      refine L_rem rfl rfl rfl (by omega) ?_
      refine L_assign rfl rfl ?_
      refine RL_then ?_
      refine W_seq ?_
      refine W_seq ?_
      refine W_region ?_
      refine L_move rfl rfl ?_
      first | refine L_lss rfl rfl rfl (dtrue (by omega)) ?_ | refine L_lss rfl rfl rfl (dfalse (by omega)) ?_ | refine L_lss rfl rfl rfl rfl ?_
      refine RL_then ?_
      have htm : bg.tmod n = if bg % (n : Int) = 0 ∨ 0 ≤ bg then bg % n else bg % n - n := by
        rw [Int.tmod_eq_emod]
        have hd : ((n : Int) ∣ bg) ↔ bg % (n : Int) = 0 := ⟨Int.emod_eq_zero_of_dvd, Int.dvd_of_emod_eq_zero⟩
        by_cases h0 : 0 ≤ bg
        · rw [if_pos (.inl h0), if_pos (.inr h0)]; simp
        · by_cases h1 : bg % (n : Int) = 0
          · rw [if_pos (.inr (hd.2 h1)), if_pos (.inl h1)]; simp
          · rw [if_neg (fun h => h.elim h0 (fun h => h1 (hd.1 h))), if_neg (fun h => h.elim h1 h0)]
            rw [Int.natAbs_natCast]
      refine W_cut1 (fun (w : World) => [(0, .slice a n c), (1, .int .i64 bg), (2, .bool back), (7, .int .i64 n), (8, v), (9, .int .i64 i), (10, .int .i64 b0), (13, .int .i64 n), (14, .int .i64 i)]) (fun (w : World) => w) (fun (w : World) => (HS w0 w M)) ?_ ?_
      · by_cases hneg : bg.tmod n < 0
        · have e9 : bg.tmod n + n = b0 := by
            rw [htm] at hneg ⊢
            split at hneg
            · omega
            · next h9 => rw [if_neg h9]; omega
          refine W_set 21 (v' := .bool true) rfl ((congrArg Value.bool (decide_eq_true hneg))) ?_
          refine W_if_true rfl ?_
          refine W_region ?_
          refine L_move rfl rfl ?_
          refine L_move rfl rfl ?_
          first | refine L_add rfl rfl rfl (wrp_i64 (by omega)) ?_ | refine L_add rfl rfl rfl rfl ?_
          refine RL_set 24 (v' := .int .i64 b0) rfl ((by rw [e9])) ?_
          refine L_assign rfl rfl ?_
          refine RL_nil' ?_
          refine Nx_cutP (w) (is := [0, 1, 2, 7, 8, 9, 10, 13, 14]) (I' := (fun (w : World) => (HS w0 w M)) (w)) rfl rfl rfl ?_
          exact hs
        · have e9 : bg.tmod n = b0 := by
            rw [htm] at hneg ⊢
            split at hneg
            · next h9 => rw [if_pos h9]; omega
            · omega
          refine W_set 21 (v' := .bool false) rfl ((congrArg Value.bool (decide_eq_false hneg))) ?_
          refine W_if_false rfl ?_
          refine W_set 10 (v' := .int .i64 b0) rfl ((by rw [e9])) ?_
          refine W_skip' ?_
          refine Nx_cutP (w) (is := [0, 1, 2, 7, 8, 9, 10, 13, 14]) (I' := (fun (w : World) => (HS w0 w M)) (w)) rfl rfl rfl ?_
          exact hs
      · clear hs
        intro w hI
        show W _ _ _ _ [(0, .slice a n c), (1, .int .i64 bg), (2, .bool back), (7, .int .i64 n), (8, v), (9, .int .i64 i), (10, .int .i64 b0), (13, .int .i64 n), (14, .int .i64 i)] w
        have hs := hI
        clear hI
        have hb2 : (b0 : Int) + (i : Int) < 4000000 := by omega
        refine W_seq ?_
        refine W_region ?_
        refine L_move rfl rfl ?_
        refine L_move rfl rfl ?_
        first | refine L_add rfl rfl rfl (wrp_i64 (by omega)) ?_ | refine L_add rfl rfl rfl rfl ?_
        refine L_move rfl rfl ?_
        refine L_rem rfl rfl rfl (by omega) ?_
        refine RL_set 29 (v' := .int .i64 r) rfl ((by rw [hr, tmod_rot hbl hlt])) ?_
        refine L_assign rfl rfl ?_
        refine RL_then ?_
        refine W_seq ?_
        refine W_seq ?_
        refine W_region ?_
        refine L_move rfl rfl ?_
        refine RL_then ?_
        refine W_cut1 (fun (w : World) => [(0, .slice a n c), (1, .int .i64 bg), (2, .bool back), (7, .int .i64 n), (8, v), (10, .int .i64 q), (13, .int .i64 n), (14, .int .i64 i)]) (fun (w : World) => w) (fun (w : World) => (HS w0 w M)) ?_ ?_
        · cases back
          · have e9 : r = q := by rw [hqb]; rfl
            refine W_if_false rfl ?_
            refine W_set 10 (v' := .int .i64 q) rfl ((by rw [e9])) ?_
            refine W_skip' ?_
            refine Nx_cutP (w) (is := [0, 1, 2, 7, 8, 10, 13, 14]) (I' := (fun (w : World) => (HS w0 w M)) (w)) rfl rfl rfl ?_
            exact hs
          · have e9 : (n : Int) - 1 - (r : Int) = (q : Int) := by
              have : q = n - 1 - r := hqb
              omega
            refine W_if_true rfl ?_
            refine W_region ?_
            refine L_move rfl rfl ?_
            first | refine L_sub rfl rfl rfl (wrp_i64 (by omega)) ?_ | refine L_sub rfl rfl rfl rfl ?_
            refine L_move rfl rfl ?_
            first | refine L_sub rfl rfl rfl (wrp_i64 (by omega)) ?_ | refine L_sub rfl rfl rfl rfl ?_
            refine RL_set 34 (v' := .int .i64 q) rfl ((by rw [e9])) ?_
            refine L_assign rfl rfl ?_
            refine RL_nil' ?_
            refine Nx_cutP (w) (is := [0, 1, 2, 7, 8, 10, 13, 14]) (I' := (fun (w : World) => (HS w0 w M)) (w)) rfl rfl rfl ?_
            exact hs
        · clear hs
          intro w hI
          show W _ _ _ _ [(0, .slice a n c), (1, .int .i64 bg), (2, .bool back), (7, .int .i64 n), (8, v), (10, .int .i64 q), (13, .int .i64 n), (14, .int .i64 i)] w
          have hs := hI
          clear hI
          have hxc : SlC w a (pcs ps) := hx.old hs hb.own
          refine W_region ?_
          refine L_move rfl rfl ?_
          refine L_move rfl rfl ?_
          refine L_move rfl rfl ?_
          refine L_idxN rfl Try.underlying22 Try.ti25 rfl rfl (by with_reducible first | exact natc_k _ | exact natc_a1 _ | exact natc_0 | exact natc_1 | exact natc_2 | exact natc_s1 _ (by omega) | exact natc_a2 _ | exact natc_add _ _ | exact natc_mul _ _ | exact natc (by omega)) (by omega) (hxc.ao (by rw [pcs_len]; omega)) ?_
          refine L_loadA rfl Try.agg25 Try.ti25 rfl (by exact (pt_at hxc (show q < ps.length by omega) : CellsAt w ((aD a).add (q * 2)) [.float .f64 (ps.getD q (0, 0)).1, .float .f64 (ps.getD q (0, 0)).2])) ?_
          refine L_buildSlice rfl hs Try.underlying22 Try.ti25 rfl (by decide) rfl (by simp [Value.cells]) ?_
          intro b40 w hb40 hnb40 hs
          skip
          have h0 : HS w0 w (([] ++ M) ++ [(b40, Row 25 (pc (ps.getD q (0, 0))))]) := hs
          clear hs
          have hs := h0
          clear h0
          refine L_appendT (L := []) (M := M) rfl Try.underlying22 Try.ti25 rfl hs hb40 hb rfl rfl rfl (pt_one _) (by omega) (by omega) ?_
          intro v41 w M41 hs hb41
          refine L_assign rfl rfl ?_
          refine RL_nil' ?_
          refine Nx_block ?_
          refine Nx_then ?_
          refine W_region ?_
          first | refine L_add rfl rfl rfl (wrp_i64 (by omega)) ?_ | refine L_add rfl rfl rfl rfl ?_
          refine L_move rfl rfl ?_
          refine RL_nil' ?_
          refine Nx_loopP (i + 1, v41, M41, _) (is := [0, 1, 2, 7, 8, 13, 14]) (I' := (fun (i : Nat) (v : Value) (M : Bks) (w : World) => (i ≤ n) ∧ (Bl w0 25 2 v i (pcs ((turnL ps b0 back).take i)) M) ∧ (HS w0 w M)) (i + 1) (v41) (M41) (_)) rfl rfl rfl ?_ ?_
          · refine ⟨by omega, ?_, hs⟩
            rw [hTs, pcs_app, show pcs [ps.getD q (0, 0)] = pc (ps.getD q (0, 0)) by simp [pcs]]
            exact hb41
          · omega
    · obtain rfl : n = i := by omega
      rw [List.take_of_length_le (by omega)] at hb
      refine W_seq ?_
      refine W_region ?_
      first | refine L_lss rfl rfl rfl (dtrue (by omega)) ?_ | refine L_lss rfl rfl rfl (dfalse (by omega)) ?_ | refine L_lss rfl rfl rfl rfl ?_
      refine RL_then ?_
      refine W_seq ?_
      refine W_if_false rfl ?_
      refine W_exit' ?_
      refine Ex_then_exit ?_
      refine Ex_loop_exit ?_
      refine Ex_block_hit ?_
      refine Nx_then ?_
      refine W_seq ?_
      refine W_region ?_
      refine L_move rfl rfl ?_
      refine L_assign rfl rfl ?_
      refine RL_then ?_
      refine W_ret' ?_
      refine Ex_done1 rfl rfl ?_
      exact ⟨_, rfl, M, hs, hb⟩
end Go.Proofs.Ytoiobncojfeoiaa
