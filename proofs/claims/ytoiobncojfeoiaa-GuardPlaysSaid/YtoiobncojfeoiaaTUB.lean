/-
  A part of the proof: what functions that the statement reaches do, or a plain law on what they do. Each theorem holds under its own premises alone.
-/
import Derived.Test.YtoiobncojfeoiaaTUB0
namespace Go.Proofs.Ytoiobncojfeoiaa
open Go Go.Lk
/-! ### The document's Within -/
def nextP (ps : List Pt) (j : Nat) : Pt := ps.getD ((j + 1) % ps.length) (0, 0)
def refOdd (ps : List Pt) (px py : Nat) : Nat → Bool
  | 0 => false
  | j + 1 => refOdd ps px py j != edgeB px py (ps.getD j (0, 0)) (nextP ps j)
theorem odd_ref (ps : List Pt) (px py : Nat) : ∀ j, j < ps.length → oddP ps px py (j + 1) = (refOdd ps px py j != edgeB px py (ps.getD (ps.length - 1) (0, 0)) (ps.getD 0 (0, 0)))
  | 0, _ => rfl
  | j + 1, h => by
    have ih := odd_ref ps px py j (by omega)
    have e1 : oddP ps px py (j + 2) = (oddP ps px py (j + 1) != edgeB px py (ps.getD j (0, 0)) (ps.getD (j + 1) (0, 0))) := rfl
    have e2 : refOdd ps px py (j + 1) = (refOdd ps px py j != edgeB px py (ps.getD j (0, 0)) (ps.getD (j + 1) (0, 0))) := by
      show (_ != edgeB px py _ (nextP ps j)) = _
      unfold nextP; rw [Nat.mod_eq_of_lt h]
    rw [e1, ih, e2]
    cases refOdd ps px py j <;> cases edgeB px py (ps.getD j (0, 0)) (ps.getD (j + 1) (0, 0)) <;> cases edgeB px py (ps.getD (ps.length - 1) (0, 0)) (ps.getD 0 (0, 0)) <;> rfl
theorem odd_all {ps : List Pt} (px py : Nat) (h : 0 < ps.length) : refOdd ps px py ps.length = oddP ps px py ps.length := by
  obtain ⟨m, hm⟩ : ∃ m, ps.length = m + 1 := ⟨ps.length - 1, by omega⟩
  have e := odd_ref ps px py m (by omega)
  rw [hm, e]
  show (_ != edgeB px py _ (nextP ps m)) = _
  unfold nextP; rw [← hm, Nat.mod_self, hm, Nat.add_sub_cancel]
theorem modI {i k : Nat} : ((i : Int) + 1).tmod (k : Int) = (((i + 1) % k : Nat) : Int) := rfl
set_option maxHeartbeats 1000000 in
theorem rwithin_ok (a : Option Addr) (k c : Nat) (ps : List Pt) (px py : Nat) (w0 : World) (hx : SlC w0 a (pcs ps)) (hk : ps.length = k) :
    Ret Try.prog 31 [.slice a k c, .agg #[.float .f64 px, .float .f64 py]] w0 fun v w' => v = .bool (insF ps px py) ∧ HS w0 w' [] := by
  refine Ret.start fun w hs => ?_
  refine calls_of_W Try.func31 rfl rfl rfl ?_
  refine W_seq ?_
  refine W_region ?_
  refine L_box rfl hs rfl ?_
  intro b3 w hb3 hnb3 hs
  try dsimp only [List.set_cons_succ, List.set_cons_zero, List.cons_append, List.nil_append] at hs
  refine L_assign rfl rfl ?_
  refine RL_then ?_
  refine W_seq ?_
  refine W_seq ?_
  refine W_region ?_
  replace hs : HS w0 w [(b3, Row 25 [.float .f64 px, .float .f64 py])] := hs
  have ho3 := Own.cons (L := []) hb3 Own.nil (o := Row 25 [.float .f64 px, .float .f64 py])
  by_cases h3 : k < 3
  · refine L_move rfl rfl ?_
    refine L_len rfl Try.underlying22 rfl ?_
    first | refine L_lss rfl rfl rfl (dtrue (by omega)) ?_ | refine L_lss rfl rfl rfl (dfalse (by omega)) ?_ | refine L_lss rfl rfl rfl rfl ?_
    refine L_move rfl rfl ?_
    first | (refine RL_want rfl rfl ?_; refine L_move rfl rfl ?_) | refine RL_skip rfl rfl rfl rfl ?_ | refine RL_skipU rfl rfl rfl ?_
    first | (refine RL_want rfl rfl ?_; refine L_len rfl Try.underlying22 rfl ?_) | refine RL_skip rfl rfl rfl rfl ?_ | refine RL_skipU rfl rfl rfl ?_
    first | (refine RL_want rfl rfl ?_; (first | refine L_gtr rfl rfl rfl (dtrue (by omega)) ?_ | refine L_gtr rfl rfl rfl (dfalse (by omega)) ?_ | refine L_gtr rfl rfl rfl rfl ?_)) | refine RL_skip rfl rfl rfl rfl ?_ | refine RL_skipU rfl rfl rfl ?_
    first | refine L_pick_t rfl rfl rfl ?_ | refine L_pick_f rfl rfl rfl ?_
    refine RL_then ?_
    refine W_if_true rfl ?_
    refine W_seq ?_
    refine W_region ?_
    refine L_assign rfl rfl ?_
    refine RL_then ?_
    refine W_ret' ?_
    refine Ex_then_ret ?_
    refine Ex_done1 rfl rfl ?_
    exact ⟨_, rfl, by unfold insF; rw [if_pos (by omega)], hs.forget ho3⟩
  · by_cases h4 : 64 < k
    · refine L_move rfl rfl ?_
      refine L_len rfl Try.underlying22 rfl ?_
      first | refine L_lss rfl rfl rfl (dtrue (by omega)) ?_ | refine L_lss rfl rfl rfl (dfalse (by omega)) ?_ | refine L_lss rfl rfl rfl rfl ?_
      refine L_move rfl rfl ?_
      first | (refine RL_want rfl rfl ?_; refine L_move rfl rfl ?_) | refine RL_skip rfl rfl rfl rfl ?_ | refine RL_skipU rfl rfl rfl ?_
      first | (refine RL_want rfl rfl ?_; refine L_len rfl Try.underlying22 rfl ?_) | refine RL_skip rfl rfl rfl rfl ?_ | refine RL_skipU rfl rfl rfl ?_
      first | (refine RL_want rfl rfl ?_; (first | refine L_gtr rfl rfl rfl (dtrue (by omega)) ?_ | refine L_gtr rfl rfl rfl (dfalse (by omega)) ?_ | refine L_gtr rfl rfl rfl rfl ?_)) | refine RL_skip rfl rfl rfl rfl ?_ | refine RL_skipU rfl rfl rfl ?_
      first | refine L_pick_t rfl rfl rfl ?_ | refine L_pick_f rfl rfl rfl ?_
      refine RL_then ?_
      refine W_if_true rfl ?_
      refine W_seq ?_
      refine W_region ?_
      refine L_assign rfl rfl ?_
      refine RL_then ?_
      refine W_ret' ?_
      refine Ex_then_ret ?_
      refine Ex_done1 rfl rfl ?_
      exact ⟨_, rfl, by unfold insF; rw [if_pos (by omega)], hs.forget ho3⟩
    · have hao : a = some (aD a) := hx.ao (by rw [pcs_len]; omega)
      refine L_move rfl rfl ?_
      refine L_len rfl Try.underlying22 rfl ?_
      first | refine L_lss rfl rfl rfl (dtrue (by omega)) ?_ | refine L_lss rfl rfl rfl (dfalse (by omega)) ?_ | refine L_lss rfl rfl rfl rfl ?_
      refine L_move rfl rfl ?_
      first | (refine RL_want rfl rfl ?_; refine L_move rfl rfl ?_) | refine RL_skip rfl rfl rfl rfl ?_ | refine RL_skipU rfl rfl rfl ?_
      first | (refine RL_want rfl rfl ?_; refine L_len rfl Try.underlying22 rfl ?_) | refine RL_skip rfl rfl rfl rfl ?_ | refine RL_skipU rfl rfl rfl ?_
      first | (refine RL_want rfl rfl ?_; (first | refine L_gtr rfl rfl rfl (dtrue (by omega)) ?_ | refine L_gtr rfl rfl rfl (dfalse (by omega)) ?_ | refine L_gtr rfl rfl rfl rfl ?_)) | refine RL_skip rfl rfl rfl rfl ?_ | refine RL_skipU rfl rfl rfl ?_
      first | refine L_pick_t rfl rfl rfl ?_ | refine L_pick_f rfl rfl rfl ?_
      refine RL_then ?_
      refine W_if_false rfl ?_
      refine W_skip' ?_
      refine Nx_then ?_
      refine W_seq ?_
      refine W_region ?_
      refine L_assign rfl rfl ?_
      refine RL_then ?_
      refine W_seq ?_
      refine W_seq ?_
      refine W_region ?_
      refine L_assign rfl rfl ?_
      refine RL_then ?_
      refine W_block ?_
      refine W_loop2 (fun (i : Nat) (w : World) => [(0, .slice a k c), (3, .pointer (some ⟨b3, 0, none⟩)), (5, .bool (refOdd ps px py i)), (6, .int .i64 i)]) (fun (i : Nat) (w : World) => w) (fun (i : Nat) (w : World) => (i ≤ k) ∧ (HS w0 w [(b3, Row 25 [.float .f64 px, .float .f64 py])])) (fun (i : Nat) (w : World) => k - i) (0) (w) (is := [0, 3, 5, 6]) rfl rfl ?_ ?_
      · exact ⟨Nat.zero_le _, hs⟩
      · clear hs
        intro i w hI
        show W _ _ _ _ [(0, .slice a k c), (3, .pointer (some ⟨b3, 0, none⟩)), (5, .bool (refOdd ps px py i)), (6, .int .i64 i)] w
        obtain ⟨hi, hs⟩ := hI
        by_cases hlt : i < k
        · have hmod : (i + 1) % k < k := Nat.mod_lt _ (by omega)
          obtain ⟨e, he⟩ : ∃ e, e = ps.getD i (0, 0) := ⟨_, rfl⟩
          obtain ⟨u, hu⟩ : ∃ u, u = ps.getD ((i + 1) % k) (0, 0) := ⟨_, rfl⟩
          have hea : ∀ w', HS w0 w' [(b3, Row 25 [.float .f64 px, .float .f64 py])] → CellsAt w' ((aD a).add (i * 2)) [.float .f64 e.1, .float .f64 e.2] := fun w' h => by rw [he]; exact pt_at (hx.old h ho3) (by omega)
          have hua : ∀ w', HS w0 w' [(b3, Row 25 [.float .f64 px, .float .f64 py])] → CellsAt w' ((aD a).add ((i + 1) % k * 2)) [.float .f64 u.1, .float .f64 u.2] := fun w' h => by rw [hu]; exact pt_at (hx.old h ho3) (by omega)
          refine W_seq ?_
          refine W_seq ?_
          refine W_region ?_
          refine L_move rfl rfl ?_
          refine L_move rfl rfl ?_
          refine L_len rfl Try.underlying22 rfl ?_
          first | refine L_lss rfl rfl rfl (dtrue (by omega)) ?_ | refine L_lss rfl rfl rfl (dfalse (by omega)) ?_ | refine L_lss rfl rfl rfl rfl ?_
          refine RL_then ?_
          refine W_if_true rfl ?_
          refine W_skip' ?_
          refine Nx_then ?_
          refine W_seq ?_
          refine W_block ?_
          refine W_seq ?_
          refine W_region ?_
          refine L_move rfl rfl ?_
          refine L_move rfl rfl ?_
          refine L_idxN rfl Try.underlying22 Try.ti25 rfl rfl (by with_reducible first | exact natc_k _ | exact natc_a1 _ | exact natc_0 | exact natc_1 | exact natc_2 | exact natc_s1 _ (by omega) | exact natc_a2 _ | exact natc_add _ _ | exact natc_mul _ _ | exact natc (by omega)) (by omega) hao ?_
          refine L_loadA rfl Try.agg25 Try.ti25 rfl (by first | exact hea _ hs | exact hua _ (HS.pop hs hb7)) ?_
          refine L_alloc rfl hs Try.ti25 ?_; intro b7 w hb7 _ hs; replace hs := HS.push hs
          refine L_storeA hs (i := 0) rfl Try.ti25 rfl rfl (by first | rfl | exact add_lit0 _ _ | exact Addr.add_lit .. | (rw [add_add]; exact add_lit0 _ _)) (by simp) (by first | (simp; done) | simp [Value.oneCell']) ?_
          intro w hs
          try dsimp only [List.set_cons_succ, List.set_cons_zero, List.cons_append, List.nil_append] at hs
          refine RL_then ?_
          refine W_seq ?_
          refine W_region ?_
          refine L_move rfl rfl ?_
          refine L_move rfl rfl ?_
          first | refine L_add rfl rfl rfl (wrp_i64 (by omega)) ?_ | refine L_add rfl rfl rfl rfl ?_
          refine L_move rfl rfl ?_
          refine L_len rfl Try.underlying22 rfl ?_
          refine L_rem rfl rfl rfl (by omega) ?_
          refine L_idxN rfl Try.underlying22 Try.ti25 rfl rfl modI (by omega) hao ?_
          refine L_loadA rfl Try.agg25 Try.ti25 rfl (by first | exact hea _ hs | exact hua _ (HS.pop hs hb7)) ?_
          refine L_alloc rfl hs Try.ti25 ?_; intro b8 w hb8 _ hs; replace hs := HS.push hs
          refine L_storeA hs (i := 0) rfl Try.ti25 rfl rfl (by first | rfl | exact add_lit0 _ _ | exact Addr.add_lit .. | (rw [add_add]; exact add_lit0 _ _)) (by simp) (by first | (simp; done) | simp [Value.oneCell']) ?_
          intro w hs
          try dsimp only [List.set_cons_succ, List.set_cons_zero, List.cons_append, List.nil_append] at hs
          refine RL_then ?_
          refine W_seq ?_
          refine W_seq ?_
          refine W_region ?_
          refine L_fieldAddr rfl (off := 1) Try.underlying25 rfl rfl Try.ti23 rfl ?_
          refine L_load rfl Try.one23 rfl (by first | exact hs.cell (i := 0) rfl rfl | exact hs.cell (i := 1) rfl rfl | exact hs.cell (i := 2) rfl rfl) ?_
          refine L_fieldAddr rfl (off := 1) Try.underlying25 rfl rfl Try.ti23 rfl ?_
          refine L_load rfl Try.one23 rfl (by first | exact hs.cell (i := 0) rfl rfl | exact hs.cell (i := 1) rfl rfl | exact hs.cell (i := 2) rfl rfl) ?_
          refine L_fcmp rfl rfl rfl (fun _ => by rw [binOp_float_cmp_lss]; rfl) ?_
          refine RL_then ?_
          replace hs : HS w0 w [(b8, Row 25 [.float .f64 u.1, .float .f64 u.2]), (b7, Row 25 [.float .f64 e.1, .float .f64 e.2]), (b3, Row 25 [.float .f64 px, .float .f64 py])] := hs
          refine W_cut3 (fun (lo : Pt) (hi : Pt) (w : World) => [(0, .slice a k c), (3, .pointer (some ⟨b3, 0, none⟩)), (5, .bool (refOdd ps px py i)), (6, .int .i64 i), (7, .pointer (some ⟨b7, 0, none⟩)), (8, .pointer (some ⟨b8, 0, none⟩))]) (fun (lo : Pt) (hi : Pt) (w : World) => w) (fun (lo : Pt) (hi : Pt) (w : World) => (lo = lowP e u) ∧ (hi = highP e u) ∧ (HS w0 w [(b8, Row 25 [.float .f64 hi.1, .float .f64 hi.2]), (b7, Row 25 [.float .f64 lo.1, .float .f64 lo.2]), (b3, Row 25 [.float .f64 px, .float .f64 py])])) ?_ ?_
          · cases hsw : FloatKind.f64.format.order u.2 e.2 == some .lt
            · have hsw' : ltB u.2 e.2 = false := hsw
              refine W_if_false rfl ?_
              refine W_skip' ?_
              refine Nx_cutP (e, u, _) (is := [0, 3, 5, 6, 7, 8]) (I' := (fun (lo : Pt) (hi : Pt) (w : World) => (lo = lowP e u) ∧ (hi = highP e u) ∧ (HS w0 w [(b8, Row 25 [.float .f64 hi.1, .float .f64 hi.2]), (b7, Row 25 [.float .f64 lo.1, .float .f64 lo.2]), (b3, Row 25 [.float .f64 px, .float .f64 py])])) (e) (u) (_)) rfl rfl rfl ?_
              exact ⟨by simp [lowP, hsw'], by simp [highP, hsw'], hs⟩
            · have hsw' : ltB u.2 e.2 = true := hsw
              refine W_if_true rfl ?_
              refine W_seq ?_
              refine W_region ?_
              refine L_loadA rfl Try.agg25 Try.ti25 rfl (by first | exact cellsAt2' (hs.get (i := 1) rfl) rfl rfl | exact cellsAt2' (hs.get (i := 2) rfl) rfl rfl | exact cellsAt2' (hs.get (i := 0) rfl) rfl rfl) ?_
              refine L_alloc rfl hs Try.ti25 ?_; intro b9 w hb9 _ hs; replace hs := HS.push hs
              first | (refine L_storeA hs (i := 0) rfl Try.ti25 rfl rfl (by first | rfl | exact add_lit0 _ _ | exact Addr.add_lit .. | (rw [add_add]; exact add_lit0 _ _)) (by simp) (by first | (simp; done) | simp [Value.oneCell']) ?_; intro w hs; try dsimp only [List.set_cons_succ, List.set_cons_zero, List.cons_append, List.nil_append] at hs) | (refine L_storeA hs (i := 1) rfl Try.ti25 rfl rfl (by first | rfl | exact add_lit0 _ _ | exact Addr.add_lit .. | (rw [add_add]; exact add_lit0 _ _)) (by simp) (by first | (simp; done) | simp [Value.oneCell']) ?_; intro w hs; try dsimp only [List.set_cons_succ, List.set_cons_zero, List.cons_append, List.nil_append] at hs) | (refine L_storeA hs (i := 2) rfl Try.ti25 rfl rfl (by first | rfl | exact add_lit0 _ _ | exact Addr.add_lit .. | (rw [add_add]; exact add_lit0 _ _)) (by simp) (by first | (simp; done) | simp [Value.oneCell']) ?_; intro w hs; try dsimp only [List.set_cons_succ, List.set_cons_zero, List.cons_append, List.nil_append] at hs)
              refine RL_then ?_
              refine W_seq ?_
              refine W_region ?_
              refine L_loadA rfl Try.agg25 Try.ti25 rfl (by first | exact cellsAt2' (hs.get (i := 1) rfl) rfl rfl | exact cellsAt2' (hs.get (i := 2) rfl) rfl rfl | exact cellsAt2' (hs.get (i := 0) rfl) rfl rfl) ?_
              first | (refine L_storeA hs (i := 0) rfl Try.ti25 rfl rfl (by first | rfl | exact add_lit0 _ _ | exact Addr.add_lit .. | (rw [add_add]; exact add_lit0 _ _)) (by simp) (by first | (simp; done) | simp [Value.oneCell']) ?_; intro w hs; try dsimp only [List.set_cons_succ, List.set_cons_zero, List.cons_append, List.nil_append] at hs) | (refine L_storeA hs (i := 1) rfl Try.ti25 rfl rfl (by first | rfl | exact add_lit0 _ _ | exact Addr.add_lit .. | (rw [add_add]; exact add_lit0 _ _)) (by simp) (by first | (simp; done) | simp [Value.oneCell']) ?_; intro w hs; try dsimp only [List.set_cons_succ, List.set_cons_zero, List.cons_append, List.nil_append] at hs) | (refine L_storeA hs (i := 2) rfl Try.ti25 rfl rfl (by first | rfl | exact add_lit0 _ _ | exact Addr.add_lit .. | (rw [add_add]; exact add_lit0 _ _)) (by simp) (by first | (simp; done) | simp [Value.oneCell']) ?_; intro w hs; try dsimp only [List.set_cons_succ, List.set_cons_zero, List.cons_append, List.nil_append] at hs)
              refine RL_then ?_
              refine W_region ?_
              refine L_loadA rfl Try.agg25 Try.ti25 rfl (by first | exact cellsAt2' (hs.get (i := 1) rfl) rfl rfl | exact cellsAt2' (hs.get (i := 2) rfl) rfl rfl | exact cellsAt2' (hs.get (i := 0) rfl) rfl rfl) ?_
              first | (refine L_storeA hs (i := 0) rfl Try.ti25 rfl rfl (by first | rfl | exact add_lit0 _ _ | exact Addr.add_lit .. | (rw [add_add]; exact add_lit0 _ _)) (by simp) (by first | (simp; done) | simp [Value.oneCell']) ?_; intro w hs; try dsimp only [List.set_cons_succ, List.set_cons_zero, List.cons_append, List.nil_append] at hs) | (refine L_storeA hs (i := 1) rfl Try.ti25 rfl rfl (by first | rfl | exact add_lit0 _ _ | exact Addr.add_lit .. | (rw [add_add]; exact add_lit0 _ _)) (by simp) (by first | (simp; done) | simp [Value.oneCell']) ?_; intro w hs; try dsimp only [List.set_cons_succ, List.set_cons_zero, List.cons_append, List.nil_append] at hs) | (refine L_storeA hs (i := 2) rfl Try.ti25 rfl rfl (by first | rfl | exact add_lit0 _ _ | exact Addr.add_lit .. | (rw [add_add]; exact add_lit0 _ _)) (by simp) (by first | (simp; done) | simp [Value.oneCell']) ?_; intro w hs; try dsimp only [List.set_cons_succ, List.set_cons_zero, List.cons_append, List.nil_append] at hs)
              refine RL_nil' ?_
              refine Nx_cutP (u, e, _) (is := [0, 3, 5, 6, 7, 8]) (I' := (fun (lo : Pt) (hi : Pt) (w : World) => (lo = lowP e u) ∧ (hi = highP e u) ∧ (HS w0 w [(b8, Row 25 [.float .f64 hi.1, .float .f64 hi.2]), (b7, Row 25 [.float .f64 lo.1, .float .f64 lo.2]), (b3, Row 25 [.float .f64 px, .float .f64 py])])) (u) (e) (_)) rfl rfl rfl ?_
              exact ⟨by simp [lowP, hsw'], by simp [highP, hsw'], HS.pop hs hb9⟩
          · clear hs
            intro lo hi w hI
            show W _ _ _ _ [(0, .slice a k c), (3, .pointer (some ⟨b3, 0, none⟩)), (5, .bool (refOdd ps px py i)), (6, .int .i64 i), (7, .pointer (some ⟨b7, 0, none⟩)), (8, .pointer (some ⟨b8, 0, none⟩))] w
            obtain ⟨hlo, hhi, hs⟩ := hI
            refine W_seq ?_
            refine W_seq ?_
            refine W_cut2 (fun (cnd : Bool) (w : World) => [(0, .slice a k c), (3, .pointer (some ⟨b3, 0, none⟩)), (5, .bool (refOdd ps px py i)), (6, .int .i64 i), (7, .pointer (some ⟨b7, 0, none⟩)), (8, .pointer (some ⟨b8, 0, none⟩)), (58, .bool (!cnd))]) (fun (cnd : Bool) (w : World) => w) (fun (cnd : Bool) (w : World) => (cnd = (leB lo.2 py && ltB py hi.2)) ∧ (HS w0 w [(b8, Row 25 [.float .f64 hi.1, .float .f64 hi.2]), (b7, Row 25 [.float .f64 lo.1, .float .f64 lo.2]), (b3, Row 25 [.float .f64 px, .float .f64 py])])) ?_ ?_
            · cases h1 : (FloatKind.f64.format.order lo.2 py == some .lt || FloatKind.f64.format.order lo.2 py == some .eq)
              · have h1' : leB lo.2 py = false := h1
                refine W_region ?_
                refine L_fieldAddr rfl (off := 1) Try.underlying25 rfl rfl Try.ti23 rfl ?_
                refine L_load rfl Try.one23 rfl (by first | exact hs.cell (i := 0) rfl rfl | exact hs.cell (i := 1) rfl rfl | exact hs.cell (i := 2) rfl rfl) ?_
                refine L_fieldAddr rfl (off := 1) Try.underlying25 rfl rfl Try.ti23 rfl ?_
                refine L_load rfl Try.one23 rfl (by first | exact hs.cell (i := 0) rfl rfl | exact hs.cell (i := 1) rfl rfl | exact hs.cell (i := 2) rfl rfl) ?_
                refine L_fcmp rfl rfl rfl (fun _ => by rw [binOp_float_cmp_leq, h1]; rfl) ?_
                refine L_move rfl rfl ?_
                first | (refine RL_want rfl rfl ?_; refine L_fieldAddr rfl (off := 1) Try.underlying25 rfl rfl Try.ti23 rfl ?_) | refine RL_skip rfl rfl rfl rfl ?_ | refine RL_skipU rfl rfl rfl ?_
                first | (refine RL_want rfl rfl ?_; refine L_load rfl Try.one23 rfl (by first | exact hs.cell (i := 0) rfl rfl | exact hs.cell (i := 1) rfl rfl | exact hs.cell (i := 2) rfl rfl) ?_) | refine RL_skip rfl rfl rfl rfl ?_ | refine RL_skipU rfl rfl rfl ?_
                first | (refine RL_want rfl rfl ?_; refine L_fieldAddr rfl (off := 1) Try.underlying25 rfl rfl Try.ti23 rfl ?_) | refine RL_skip rfl rfl rfl rfl ?_ | refine RL_skipU rfl rfl rfl ?_
                first | (refine RL_want rfl rfl ?_; refine L_load rfl Try.one23 rfl (by first | exact hs.cell (i := 0) rfl rfl | exact hs.cell (i := 1) rfl rfl | exact hs.cell (i := 2) rfl rfl) ?_) | refine RL_skip rfl rfl rfl rfl ?_ | refine RL_skipU rfl rfl rfl ?_
                first | (refine RL_want rfl rfl ?_; refine L_fcmp rfl rfl rfl (fun _ => by rw [binOp_float_cmp_lss]; rfl) ?_) | refine RL_skip rfl rfl rfl rfl ?_ | refine RL_skipU rfl rfl rfl ?_
                first | refine L_pick_t rfl rfl rfl ?_ | refine L_pick_f rfl rfl rfl ?_
                refine L_not rfl rfl ?_
                refine RL_nil' ?_
                refine Nx_cutP (false, _) (is := [0, 3, 5, 6, 7, 8, 58]) (I' := (fun (cnd : Bool) (w : World) => (cnd = (leB lo.2 py && ltB py hi.2)) ∧ (HS w0 w [(b8, Row 25 [.float .f64 hi.1, .float .f64 hi.2]), (b7, Row 25 [.float .f64 lo.1, .float .f64 lo.2]), (b3, Row 25 [.float .f64 px, .float .f64 py])])) (false) (_)) rfl rfl rfl ?_
                exact ⟨by rw [h1']; rfl, hs⟩
              · have h1' : leB lo.2 py = true := h1
                refine W_region ?_
                refine L_fieldAddr rfl (off := 1) Try.underlying25 rfl rfl Try.ti23 rfl ?_
                refine L_load rfl Try.one23 rfl (by first | exact hs.cell (i := 0) rfl rfl | exact hs.cell (i := 1) rfl rfl | exact hs.cell (i := 2) rfl rfl) ?_
                refine L_fieldAddr rfl (off := 1) Try.underlying25 rfl rfl Try.ti23 rfl ?_
                refine L_load rfl Try.one23 rfl (by first | exact hs.cell (i := 0) rfl rfl | exact hs.cell (i := 1) rfl rfl | exact hs.cell (i := 2) rfl rfl) ?_
                refine L_fcmp rfl rfl rfl (fun _ => by rw [binOp_float_cmp_leq, h1]; rfl) ?_
                refine L_move rfl rfl ?_
                first | (refine RL_want rfl rfl ?_; refine L_fieldAddr rfl (off := 1) Try.underlying25 rfl rfl Try.ti23 rfl ?_) | refine RL_skip rfl rfl rfl rfl ?_ | refine RL_skipU rfl rfl rfl ?_
                first | (refine RL_want rfl rfl ?_; refine L_load rfl Try.one23 rfl (by first | exact hs.cell (i := 0) rfl rfl | exact hs.cell (i := 1) rfl rfl | exact hs.cell (i := 2) rfl rfl) ?_) | refine RL_skip rfl rfl rfl rfl ?_ | refine RL_skipU rfl rfl rfl ?_
                first | (refine RL_want rfl rfl ?_; refine L_fieldAddr rfl (off := 1) Try.underlying25 rfl rfl Try.ti23 rfl ?_) | refine RL_skip rfl rfl rfl rfl ?_ | refine RL_skipU rfl rfl rfl ?_
                first | (refine RL_want rfl rfl ?_; refine L_load rfl Try.one23 rfl (by first | exact hs.cell (i := 0) rfl rfl | exact hs.cell (i := 1) rfl rfl | exact hs.cell (i := 2) rfl rfl) ?_) | refine RL_skip rfl rfl rfl rfl ?_ | refine RL_skipU rfl rfl rfl ?_
                first | (refine RL_want rfl rfl ?_; refine L_fcmp rfl rfl rfl (fun _ => by rw [binOp_float_cmp_lss]; rfl) ?_) | refine RL_skip rfl rfl rfl rfl ?_ | refine RL_skipU rfl rfl rfl ?_
                first | refine L_pick_t rfl rfl rfl ?_ | refine L_pick_f rfl rfl rfl ?_
                refine L_not rfl rfl ?_
                refine RL_nil' ?_
                refine Nx_cutP (ltB py hi.2, _) (is := [0, 3, 5, 6, 7, 8, 58]) (I' := (fun (cnd : Bool) (w : World) => (cnd = (leB lo.2 py && ltB py hi.2)) ∧ (HS w0 w [(b8, Row 25 [.float .f64 hi.1, .float .f64 hi.2]), (b7, Row 25 [.float .f64 lo.1, .float .f64 lo.2]), (b3, Row 25 [.float .f64 px, .float .f64 py])])) (ltB py hi.2) (_)) rfl rfl rfl ?_
                exact ⟨by rw [h1']; rfl, hs⟩
            · clear hs
              intro cnd w hI
              show W _ _ _ _ [(0, .slice a k c), (3, .pointer (some ⟨b3, 0, none⟩)), (5, .bool (refOdd ps px py i)), (6, .int .i64 i), (7, .pointer (some ⟨b7, 0, none⟩)), (8, .pointer (some ⟨b8, 0, none⟩)), (58, .bool (!cnd))] w
              obtain ⟨hcnd, hs⟩ := hI
              have eodd : refOdd ps px py (i + 1) = (refOdd ps px py i != edgeC px py lo hi) := by
                show (_ != edgeB px py _ (nextP ps i)) = _
                unfold nextP edgeB; rw [hk, ← he, ← hu, ← hlo, ← hhi]
              cases cnd
              · -- STOP: cond
                refine W_if_true rfl ?_
                refine W_exit' ?_
                refine Ex_then_exit ?_
                refine Ex_block_hit ?_
                refine Nx_then ?_
                refine W_region ?_
                refine L_move rfl rfl ?_
                first | refine L_add rfl rfl rfl (wrp_i64 (by omega)) ?_ | refine L_add rfl rfl rfl rfl ?_
                refine L_assign rfl rfl ?_
                refine RL_nil' ?_
                refine Nx_set 5 (v' := .bool (refOdd ps px py (i + 1))) rfl (by rw [eodd]; unfold edgeC; rw [← hcnd]; simp) ?_
                refine Nx_loopP (i + 1, _) (is := [0, 3, 5, 6]) (I' := (fun (i : Nat) (w : World) => (i ≤ k) ∧ (HS w0 w [(b3, Row 25 [.float .f64 px, .float .f64 py])])) (i + 1) (_)) rfl rfl rfl ?_ ?_
                · exact ⟨hlt, HS.pop (HS.pop hs hb8) hb7⟩
                · omega
              · -- STOP: cond
                refine W_if_false rfl ?_
                refine W_skip' ?_
                refine Nx_then ?_
                refine W_seq ?_
                refine W_region ?_
                refine L_fieldAddr rfl (off := 1) Try.underlying25 rfl rfl Try.ti23 rfl ?_
                refine L_load rfl Try.one23 rfl (by first | exact hs.cell (i := 0) rfl rfl | exact hs.cell (i := 1) rfl rfl | exact hs.cell (i := 2) rfl rfl) ?_
                refine L_fieldAddr rfl (off := 1) Try.underlying25 rfl rfl Try.ti23 rfl ?_
                refine L_load rfl Try.one23 rfl (by first | exact hs.cell (i := 0) rfl rfl | exact hs.cell (i := 1) rfl rfl | exact hs.cell (i := 2) rfl rfl) ?_
                refine L_farith rfl (op := .sub) rfl rfl rfl ?_
                intro r63 k63 hr63
                try replace hs := hs.drewN k63
                refine L_fieldAddr rfl (off := 1) Try.underlying25 rfl rfl Try.ti23 rfl ?_
                refine L_load rfl Try.one23 rfl (by first | exact hs.cell (i := 0) rfl rfl | exact hs.cell (i := 1) rfl rfl | exact hs.cell (i := 2) rfl rfl) ?_
                refine L_fieldAddr rfl (off := 1) Try.underlying25 rfl rfl Try.ti23 rfl ?_
                refine L_load rfl Try.one23 rfl (by first | exact hs.cell (i := 0) rfl rfl | exact hs.cell (i := 1) rfl rfl | exact hs.cell (i := 2) rfl rfl) ?_
                refine L_farith rfl (op := .sub) rfl rfl rfl ?_
                intro r68 k68 hr68
                try replace hs := hs.drewN k68
                refine L_farith rfl (op := .quo) rfl rfl rfl ?_
                intro r69 k69 hr69
                try replace hs := hs.drewN k69
                refine L_assign rfl rfl ?_
                refine RL_then ?_
                refine W_seq ?_
                refine W_region ?_
                refine L_fieldAddr rfl (off := 0) Try.underlying25 rfl rfl Try.ti23 rfl ?_
                refine L_load rfl Try.one23 rfl (by first | exact hs.cell (i := 0) rfl rfl | exact hs.cell (i := 1) rfl rfl | exact hs.cell (i := 2) rfl rfl) ?_
                refine L_move rfl rfl ?_
                refine L_fieldAddr rfl (off := 0) Try.underlying25 rfl rfl Try.ti23 rfl ?_
                refine L_load rfl Try.one23 rfl (by first | exact hs.cell (i := 0) rfl rfl | exact hs.cell (i := 1) rfl rfl | exact hs.cell (i := 2) rfl rfl) ?_
                refine L_fieldAddr rfl (off := 0) Try.underlying25 rfl rfl Try.ti23 rfl ?_
                refine L_load rfl Try.one23 rfl (by first | exact hs.cell (i := 0) rfl rfl | exact hs.cell (i := 1) rfl rfl | exact hs.cell (i := 2) rfl rfl) ?_
                refine L_farith rfl (op := .sub) rfl rfl rfl ?_
                intro r77 k77 hr77
                try replace hs := hs.drewN k77
                refine L_farith rfl (op := .mul) rfl rfl rfl ?_
                intro r78 k78 hr78
                try replace hs := hs.drewN k78
                refine L_farith rfl (op := .add) rfl rfl rfl ?_
                intro r79 k79 hr79
                try replace hs := hs.drewN k79
                refine L_assign rfl rfl ?_
                refine RL_then ?_
                refine W_seq ?_
                refine W_region ?_
                refine L_fieldAddr rfl (off := 0) Try.underlying25 rfl rfl Try.ti23 rfl ?_
                refine L_load rfl Try.one23 rfl (by first | exact hs.cell (i := 0) rfl rfl | exact hs.cell (i := 1) rfl rfl | exact hs.cell (i := 2) rfl rfl) ?_
                refine L_move rfl rfl ?_
                refine L_fcmp rfl rfl rfl (fun _ => by rw [binOp_float_cmp_lss]; rfl) ?_
                refine RL_then ?_
                have e79 : cn r79 = cn (crossX py lo hi) := Fs.of hr79 rfl (Fs.of hr78 (Fs.of hr69 (Fs.of hr63 rfl rfl) (Fs.of hr68 rfl rfl)) (Fs.of hr77 rfl rfl))
                have e2 : ltB px r79 = ltB px (crossX py lo hi) := ltB_congr rfl e79
                have e3 : edgeC px py lo hi = ltB px (crossX py lo hi) := by unfold edgeC; rw [← hcnd, Bool.true_and]
                cases hl : FloatKind.f64.format.order px r79 == some .lt
                · have hl' : ltB px r79 = false := hl
                  refine W_if_false rfl ?_
                  refine W_skip' ?_
                  refine Nx_block ?_
                  refine Nx_then ?_
                  refine W_region ?_
                  refine L_move rfl rfl ?_
                  first | refine L_add rfl rfl rfl (wrp_i64 (by omega)) ?_ | refine L_add rfl rfl rfl rfl ?_
                  refine L_assign rfl rfl ?_
                  refine RL_nil' ?_
                  refine Nx_set 5 (v' := .bool (refOdd ps px py (i + 1))) rfl (by rw [eodd, e3, ← e2, hl']; simp) ?_
                  refine Nx_loopP (i + 1, _) (is := [0, 3, 5, 6]) (I' := (fun (i : Nat) (w : World) => (i ≤ k) ∧ (HS w0 w [(b3, Row 25 [.float .f64 px, .float .f64 py])])) (i + 1) (_)) rfl rfl rfl ?_ ?_
                  · exact ⟨hlt, HS.pop (HS.pop hs hb8) hb7⟩
                  · omega
                · have hl' : ltB px r79 = true := hl
                  refine W_if_true rfl ?_
                  refine W_region ?_
                  refine L_move rfl rfl ?_
                  refine L_not rfl rfl ?_
                  refine L_assign rfl rfl ?_
                  refine RL_nil' ?_
                  refine Nx_block ?_
                  refine Nx_then ?_
                  refine W_region ?_
                  refine L_move rfl rfl ?_
                  first | refine L_add rfl rfl rfl (wrp_i64 (by omega)) ?_ | refine L_add rfl rfl rfl rfl ?_
                  refine L_assign rfl rfl ?_
                  refine RL_nil' ?_
                  refine Nx_set 5 (v' := .bool (refOdd ps px py (i + 1))) rfl (by rw [eodd, e3, ← e2, hl']; cases refOdd ps px py i <;> rfl) ?_
                  refine Nx_loopP (i + 1, _) (is := [0, 3, 5, 6]) (I' := (fun (i : Nat) (w : World) => (i ≤ k) ∧ (HS w0 w [(b3, Row 25 [.float .f64 px, .float .f64 py])])) (i + 1) (_)) rfl rfl rfl ?_ ?_
                  · exact ⟨hlt, HS.pop (HS.pop hs hb8) hb7⟩
                  · omega
        · obtain rfl : i = k := by omega
          refine W_seq ?_
          refine W_seq ?_
          refine W_region ?_
          refine L_move rfl rfl ?_
          refine L_move rfl rfl ?_
          refine L_len rfl Try.underlying22 rfl ?_
          first | refine L_lss rfl rfl rfl (dtrue (by omega)) ?_ | refine L_lss rfl rfl rfl (dfalse (by omega)) ?_ | refine L_lss rfl rfl rfl rfl ?_
          refine RL_then ?_
          refine W_if_false rfl ?_
          refine W_exit' ?_
          refine Ex_then_exit ?_
          refine Ex_loop_exit ?_
          refine Ex_block_hit ?_
          refine Nx_then ?_
          refine W_seq ?_
          refine W_region ?_
          refine L_move rfl rfl ?_
          refine L_assign rfl rfl ?_
          refine RL_then ?_
          refine W_ret' ?_
          refine Ex_done1 rfl rfl ?_
          exact ⟨_, rfl, by unfold insF; rw [if_neg (by omega), hk, ← hk, odd_all px py (by omega)], hs.forget ho3⟩
end Go.Proofs.Ytoiobncojfeoiaa
