/-
 A part of the proof: what functions that the statement reaches do, or a plain law on what they do. Each theorem holds under its own premises alone.
-/
import Derived.Test.YtoiobncojfeoiaaTT29
import Derived.Test.YtoiobncojfeoiaaKitY
import Derived.Test.YtoiobncojfeoiaaKit
import Derived.Test.YtoiobncojfeoiaaKitQ
namespace Go.Proofs.Ytoiobncojfeoiaa
open Go Go.Lk
/-! ### Points -/
abbrev Pt := Nat × Nat
def pc (p : Pt) : List Value := [.float .f64 p.1, .float .f64 p.2]
def pcs (ps : List Pt) : List Value := ps.flatMap pc
theorem pcs_len (ps : List Pt) : (pcs ps).length = ps.length * 2 := by
 induction ps with
 | nil => rfl
 | cons t ts ih =>
  show (pc t ++ pcs ts).length = _
  rw [List.length_append, ih, List.length_cons]
  show 2 + _ = _
  omega
theorem pcs_get : ∀ {ts : List Pt} {i q : Nat} {v : Value}, i < ts.length → (pc (ts.getD i (0, 0)))[q]? = some v → (pcs ts)[i * 2 + q]? = some v
 | t :: ts, 0, q, v, _, h => by
  show (pc t ++ pcs ts)[0 * 2 + q]? = some v
  rw [Nat.zero_mul, Nat.zero_add]
  have hq : q < (pc t).length := (List.getElem?_eq_some_iff.1 h).1
  rw [List.getElem?_append_left hq]; exact h
 | t :: ts, i + 1, q, v, hi, h => by
  show (pc t ++ pcs ts)[(i + 1) * 2 + q]? = some v
  have hl : (pc t).length = 2 := rfl
  rw [List.getElem?_append_right (by omega), show (i + 1) * 2 + q - (pc t).length = i * 2 + q by omega]
  exact pcs_get (by simpa using hi) h
theorem pcs_one (ts : List Pt) : ∀ u ∈ pcs ts, u.oneCell' = true := by
 intro u hu
 obtain ⟨t, _, hu⟩ := List.mem_flatMap.1 hu
 unfold pc at hu
 simp only [List.mem_cons, List.not_mem_nil, or_false] at hu
 rcases hu with rfl | rfl <;> rfl
theorem pcs_app (ts us : List Pt) : pcs (ts ++ us) = pcs ts ++ pcs us := List.flatMap_append ..
theorem pt_at {w : World} {a : Option Addr} {ts : List Pt} (h : SlC w a (pcs ts)) {i : Nat} (hi : i < ts.length) : CellsAt w ((aD a).add (i * 2)) [.float .f64 (ts.getD i (0, 0)).1, .float .f64 (ts.getD i (0, 0)).2] := h.sub fun _ _ hv => pcs_get hi hv
theorem HS.drop1 {w0 w : World} {p : Nat × Obj} {L : Bks} (h : HS w0 w (p :: L)) (hp : w0.heap.size ≤ p.1) : HS w0 w L :=
 h.sub (fun _ hq => List.mem_cons_of_mem _ hq) (by have := h.nodup; simp only [List.map_cons, List.nodup_cons] at this; exact this.2) (fun q hq => by
  rcases List.mem_cons.1 hq with rfl | hq
  ·
   exact .inr hp
  ·
   exact .inl hq)
theorem HS.push {w0 w : World} {p : Nat × Obj} {L : Bks} (h : HS w0 w (L ++ [p])) : HS w0 w (p :: L) := h.mem_perm (List.perm_append_comm (l₂ := [_]))
theorem HS.pop {w0 w : World} {p : Nat × Obj} {L : Bks} (h : HS w0 w (p :: L)) (hp : w0.heap.size ≤ p.1) : HS w0 w L := HS.drop1 h hp
theorem HS.re {w0 w : World} {L L' : Bks} (h : HS w0 w L) (hc : ∀ c : Nat × Obj → Nat, (L.map c).sum = (L'.map c).sum) : HS w0 w L' := h.mem_perm (perm_by hc)
theorem cellsAt2 {w : World} {b T j : Nat} {x y : Value} {xs : List Value} (h : w.heap[b]? = some (Row T xs)) (h1 : xs[j]? = some x) (h2 : xs[j + 1]? = some y) : CellsAt w ((Addr.mk b 0 none).add j) [x, y] :=
 cellsAt_row [x, y] h fun q v hv => match q, hv with
  | 0, hv => by cases hv; exact h1
  | 1, hv => by cases hv; exact h2
  | _ + 2, hv => by simp at hv
theorem cellsAt2' {w : World} {b T j : Nat} {x y : Value} {xs : List Value} (h : w.heap[b]? = some (Row T xs)) (h1 : xs[j]? = some x) (h2 : xs[j + 1]? = some y) : CellsAt w ⟨b, j, none⟩ [x, y] := by
 rw [← add_lit0]; exact cellsAt2 h h1 h2
theorem HS.swap {w0 w : World} {p q : Nat × Obj} {L : Bks} (h : HS w0 w (p :: q :: L)) : HS w0 w (q :: p :: L) := h.mem_perm (List.Perm.swap ..)
theorem b102 (x y : Nat) : Try.prog.built 102 [(0, .agg #[.float .f64 x, .float .f64 y])] = some #[.float .f64 x, .float .f64 y, .float .f64 0, .float .f64 0] := by kernel_rfl
/-! ### Within -/
def ltB (x y : Nat) : Bool := FloatKind.f64.format.order x y == some .lt
def leB (x y : Nat) : Bool := FloatKind.f64.format.order x y == some .lt || FloatKind.f64.format.order x y == some .eq
def eqB (x y : Nat) : Bool := FloatKind.f64.format.order x y == some .eq
def lowP (a b : Pt) : Pt := if ltB b.2 a.2 then b else a
def highP (a b : Pt) : Pt := if ltB b.2 a.2 then a else b
def crossX (py : Nat) (lo hi : Pt) : Nat := fop .add lo.1 (fop .mul (fop .quo (fop .sub py lo.2) (fop .sub hi.2 lo.2)) (fop .sub hi.1 lo.1))
def edgeC (px py : Nat) (lo hi : Pt) : Bool := leB lo.2 py && ltB py hi.2 && ltB px (crossX py lo hi)
def edgeB (px py : Nat) (a b : Pt) : Bool := edgeC px py (lowP a b) (highP a b)
def prevP (ps : List Pt) (j : Nat) : Pt := ps.getD (if j = 0 then ps.length - 1 else j - 1) (0, 0)
def oddP (ps : List Pt) (px py : Nat) : Nat → Bool
 | 0 => false
 | j + 1 => oddP ps px py j != edgeB px py (prevP ps j) (ps.getD j (0, 0))
def insF (ps : List Pt) (px py : Nat) : Bool := if ps.length < 3 ∨ 64 < ps.length then false else oddP ps px py ps.length
theorem ltB_congr {x y x' y' : Nat} (hx : cn x = cn x') (hy : cn y = cn y') : ltB x y = ltB x' y' := by unfold ltB; rw [order_congr hx hy]
theorem leB_congr {x y x' y' : Nat} (hx : cn x = cn x') (hy : cn y = cn y') : leB x y = leB x' y' := by unfold leB; rw [order_congr hx hy]
theorem eqB_congr {x y x' y' : Nat} (hx : cn x = cn x') (hy : cn y = cn y') : eqB x y = eqB x' y' := by unfold eqB; rw [order_congr hx hy]
/-- what was done to floats, one by one -/
theorem Fs.of {op : BinOp} {x y x' y' r : Nat} (h : Fs op x y r) (hx : cn x = cn x') (hy : cn y = cn y') : cn r = cn (fop op x' y') := (Fs.cn h).trans ((fop_congr hx hy).trans (cn_fop ..).symm)
set_option maxHeartbeats 1000000 in
theorem within_ok (a : Option Addr) (k c : Nat) (ps : List Pt) (px py : Nat) (w0 : World) (hx : SlC w0 a (pcs ps)) (hk : ps.length = k) :
  Ret Try.prog 18 [.slice a k c, .agg #[.float .f64 px, .float .f64 py]] w0 fun v w' => v = .bool (insF ps px py) ∧ HS w0 w' [] := by
 refine Ret.start fun w hs => ?_
 refine calls_of_W Try.func18 rfl rfl rfl ?_
 refine W_seq ?_
 refine W_region ?_
 refine L_box rfl hs rfl ?_
 intro b3 w hb3 hnb3 hs
 try dsimp only [List.set_cons_succ, List.set_cons_zero, List.cons_append, List.nil_append] at hs
 refine L_assign rfl rfl ?_
 refine RL_then ?_
 refine W_seq ?_
 refine W_seq ?_
 refine W_region ?_
 replace hs : HS w0 w [(b3, Row 25 [.float .f64 px, .float .f64 py])] := hs
 have ho3 := Own.cons (L := []) hb3 Own.nil (o := Row 25 [.float .f64 px, .float .f64 py])
 by_cases h3 : k < 3
 ·
  refine L_move rfl rfl ?_
  refine L_len rfl Try.underlying22 rfl ?_
  first | refine L_lss rfl rfl rfl (dtrue (by omega)) ?_ | refine L_lss rfl rfl rfl (dfalse (by omega)) ?_ | refine L_lss rfl rfl rfl rfl ?_
  refine L_move rfl rfl ?_
  first | (refine RL_want rfl rfl ?_; refine L_move rfl rfl ?_) | refine RL_skip rfl rfl rfl rfl ?_ | refine RL_skipU rfl rfl rfl ?_
  first | (refine RL_want rfl rfl ?_; refine L_len rfl Try.underlying22 rfl ?_) | refine RL_skip rfl rfl rfl rfl ?_ | refine RL_skipU rfl rfl rfl ?_
  first | (refine RL_want rfl rfl ?_; (first | refine L_gtr rfl rfl rfl (dtrue (by omega)) ?_ | refine L_gtr rfl rfl rfl (dfalse (by omega)) ?_ | refine L_gtr rfl rfl rfl rfl ?_)) | refine RL_skip rfl rfl rfl rfl ?_ | refine RL_skipU rfl rfl rfl ?_
  first | refine L_pick_t rfl rfl rfl ?_ | refine L_pick_f rfl rfl rfl ?_
  refine RL_then ?_
  refine W_if_true rfl ?_
  refine W_seq ?_
  refine W_region ?_
  refine L_assign rfl rfl ?_
  refine RL_then ?_
  refine W_ret' ?_
  refine Ex_then_ret ?_
  refine Ex_done1 rfl rfl ?_
  exact ⟨_, rfl, by unfold insF; rw [if_pos (by omega)], hs.forget ho3⟩
 ·
  by_cases h4 : 64 < k
  ·
   refine L_move rfl rfl ?_
   refine L_len rfl Try.underlying22 rfl ?_
   first | refine L_lss rfl rfl rfl (dtrue (by omega)) ?_ | refine L_lss rfl rfl rfl (dfalse (by omega)) ?_ | refine L_lss rfl rfl rfl rfl ?_
   refine L_move rfl rfl ?_
   first | (refine RL_want rfl rfl ?_; refine L_move rfl rfl ?_) | refine RL_skip rfl rfl rfl rfl ?_ | refine RL_skipU rfl rfl rfl ?_
   first | (refine RL_want rfl rfl ?_; refine L_len rfl Try.underlying22 rfl ?_) | refine RL_skip rfl rfl rfl rfl ?_ | refine RL_skipU rfl rfl rfl ?_
   first | (refine RL_want rfl rfl ?_; (first | refine L_gtr rfl rfl rfl (dtrue (by omega)) ?_ | refine L_gtr rfl rfl rfl (dfalse (by omega)) ?_ | refine L_gtr rfl rfl rfl rfl ?_)) | refine RL_skip rfl rfl rfl rfl ?_ | refine RL_skipU rfl rfl rfl ?_
   first | refine L_pick_t rfl rfl rfl ?_ | refine L_pick_f rfl rfl rfl ?_
   refine RL_then ?_
   refine W_if_true rfl ?_
   refine W_seq ?_
   refine W_region ?_
   refine L_assign rfl rfl ?_
   refine RL_then ?_
   refine W_ret' ?_
   refine Ex_then_ret ?_
   refine Ex_done1 rfl rfl ?_
   exact ⟨_, rfl, by unfold insF; rw [if_pos (by omega)], hs.forget ho3⟩
  ·
   have hao : a = some (aD a) := hx.ao (by rw [pcs_len]; omega)
   refine L_move rfl rfl ?_
   refine L_len rfl Try.underlying22 rfl ?_
   first | refine L_lss rfl rfl rfl (dtrue (by omega)) ?_ | refine L_lss rfl rfl rfl (dfalse (by omega)) ?_ | refine L_lss rfl rfl rfl rfl ?_
   refine L_move rfl rfl ?_
   first | (refine RL_want rfl rfl ?_; refine L_move rfl rfl ?_) | refine RL_skip rfl rfl rfl rfl ?_ | refine RL_skipU rfl rfl rfl ?_
   first | (refine RL_want rfl rfl ?_; refine L_len rfl Try.underlying22 rfl ?_) | refine RL_skip rfl rfl rfl rfl ?_ | refine RL_skipU rfl rfl rfl ?_
   first | (refine RL_want rfl rfl ?_; (first | refine L_gtr rfl rfl rfl (dtrue (by omega)) ?_ | refine L_gtr rfl rfl rfl (dfalse (by omega)) ?_ | refine L_gtr rfl rfl rfl rfl ?_)) | refine RL_skip rfl rfl rfl rfl ?_ | refine RL_skipU rfl rfl rfl ?_
   first | refine L_pick_t rfl rfl rfl ?_ | refine L_pick_f rfl rfl rfl ?_
   refine RL_then ?_
   refine W_if_false rfl ?_
   refine W_skip' ?_
   refine Nx_then ?_
   refine W_seq ?_
   refine W_region ?_
   refine L_assign rfl rfl ?_
   refine RL_then ?_
   refine W_seq ?_
   refine W_region ?_
   refine L_move rfl rfl ?_
   refine L_move rfl rfl ?_
   refine L_len rfl Try.underlying22 rfl ?_
   first | refine L_sub rfl rfl rfl (wrp_i64 (by omega)) ?_ | refine L_sub rfl rfl rfl rfl ?_
   refine L_idxN rfl Try.underlying22 Try.ti25 rfl rfl (show ((k : Int) - 1) = ((k - 1 : Nat) : Int) by omega) (by omega) hao ?_
   refine L_loadA rfl Try.agg25 Try.ti25 rfl (by exact pt_at (i := k - 1) (hx.old hs ho3) (by omega)) ?_
   refine L_build rfl rfl (b102 _ _) ?_
   refine L_alloc rfl hs Try.ti102 ?_
   intro b6 w hb6 hnb6 hs
   try dsimp only [List.set_cons_succ, List.set_cons_zero, List.cons_append, List.nil_append] at hs
   refine L_storeA hs (i := 1) rfl Try.ti102 rfl rfl (by first | rfl | exact add_lit0 _ _ | exact Addr.add_lit .. | (rw [add_add]; exact add_lit0 _ _)) (by simp) (by first | (simp; done) | simp [Value.oneCell']) ?_
   intro w hs
   try dsimp only [List.set_cons_succ, List.set_cons_zero, List.cons_append, List.nil_append] at hs
   refine RL_then ?_
   refine W_seq ?_
   refine W_seq ?_
   refine W_region ?_
   refine L_move rfl rfl ?_
   refine L_len rfl Try.underlying22 rfl ?_
   refine L_move rfl rfl ?_
   refine RL_then ?_
   refine W_block ?_
   replace hs : HS w0 w [(b6, Row 102 [.float .f64 (ps.getD (k - 1) (0, 0)).1, .float .f64 (ps.getD (k - 1) (0, 0)).2, .float .f64 0, .float .f64 0]), (b3, Row 25 [.float .f64 px, .float .f64 py])] := HS.push (L := [(b3, Row 25 [.float .f64 px, .float .f64 py])]) hs
   refine W_loop3 (fun (i : Nat) (q : Pt) (w : World) => [(0, .slice a k c), (3, .pointer (some ⟨b3, 0, none⟩)), (5, .bool (oddP ps px py i)), (6, .pointer (some ⟨b6, 0, none⟩)), (27, .slice a k c), (28, .int .i64 k), (29, .int .i64 i)]) (fun (i : Nat) (q : Pt) (w : World) => w) (fun (i : Nat) (q : Pt) (w : World) => (i ≤ k) ∧ (HS w0 w [(b6, Row 102 [.float .f64 (prevP ps i).1, .float .f64 (prevP ps i).2, .float .f64 q.1, .float .f64 q.2]), (b3, Row 25 [.float .f64 px, .float .f64 py])])) (fun (i : Nat) (q : Pt) (w : World) => k - i) (0) ((0, 0)) (w) (is := [0, 3, 5, 6, 27, 28, 29]) rfl rfl ?_ ?_
   ·
    exact ⟨Nat.zero_le _, by rw [show prevP ps 0 = ps.getD (k - 1) (0, 0) by unfold prevP; rw [if_pos rfl, hk]]; exact hs⟩
   ·
    clear hs
    intro i q w hI
    show W _ _ _ _ [(0, .slice a k c), (3, .pointer (some ⟨b3, 0, none⟩)), (5, .bool (oddP ps px py i)), (6, .pointer (some ⟨b6, 0, none⟩)), (27, .slice a k c), (28, .int .i64 k), (29, .int .i64 i)] w
    obtain ⟨hi, hs⟩ := hI
    have ho2 : Own w0 [(b6, Row 102 [.float .f64 (prevP ps i).1, .float .f64 (prevP ps i).2, .float .f64 q.1, .float .f64 q.2]), (b3, Row 25 [.float .f64 px, .float .f64 py])] := Own.cons hb6 ho3
    by_cases hlt : i < k
    ·
     obtain ⟨e, he⟩ : ∃ e, e = prevP ps i := ⟨_, rfl⟩
     obtain ⟨u, hu⟩ : ∃ u, u = ps.getD i (0, 0) := ⟨_, rfl⟩
     rw [← he] at hs ho2
     have hu2 : CellsAt w ((aD a).add (i * 2)) [.float .f64 u.1, .float .f64 u.2] := by rw [hu]; exact pt_at (hx.old hs ho2) (by omega)
     refine W_seq ?_
     refine W_region ?_
     first | refine L_lss rfl rfl rfl (dtrue (by omega)) ?_ | refine L_lss rfl rfl rfl (dfalse (by omega)) ?_ | refine L_lss rfl rfl rfl rfl ?_
     refine RL_then ?_
     refine W_seq ?_
     refine W_if_true rfl ?_
     refine W_skip' ?_
     refine Nx_then ?_
     refine W_seq ?_
     refine W_block ?_
     refine W_seq ?_
     refine W_region ?_
     refine L_idxN rfl Try.underlying22 Try.ti25 rfl rfl (by with_reducible first | exact natc_k _ | exact natc_a1 _ | exact natc_0 | exact natc_1 | exact natc_2 | exact natc_s1 _ (by omega) | exact natc_a2 _ | exact natc_add _ _ | exact natc_mul _ _ | exact natc (by omega)) (by omega) hao ?_
     refine L_loadA rfl Try.agg25 Try.ti25 rfl (by first | exact hu2 | exact cellsAt_whole (cs := [.float .f64 u.1, .float .f64 u.2]) (hs.get (i := 0) rfl)) ?_
     refine L_alloc rfl hs Try.ti25 ?_; intro b8 w hb8 _ hs; replace hs := HS.push hs
     first | (refine L_storeA hs (i := 0) rfl Try.ti25 rfl rfl (by first | rfl | exact add_lit0 _ _ | exact Addr.add_lit .. | (rw [add_add]; exact add_lit0 _ _)) (by simp) (by first | (simp; done) | simp [Value.oneCell']) ?_; intro w hs; try dsimp only [List.set_cons_succ, List.set_cons_zero, List.cons_append, List.nil_append] at hs) | (refine L_storeA hs (i := 1) rfl Try.ti25 rfl rfl (by first | rfl | exact add_lit0 _ _ | exact Addr.add_lit .. | (rw [add_add]; exact add_lit0 _ _)) (by simp) (by first | (simp; done) | simp [Value.oneCell']) ?_; intro w hs; try dsimp only [List.set_cons_succ, List.set_cons_zero, List.cons_append, List.nil_append] at hs) | (refine L_storeA hs (i := 3) rfl Try.ti25 rfl rfl (by first | rfl | exact add_lit0 _ _ | exact Addr.add_lit .. | (rw [add_add]; exact add_lit0 _ _)) (by simp) (by first | (simp; done) | simp [Value.oneCell']) ?_; intro w hs; try dsimp only [List.set_cons_succ, List.set_cons_zero, List.cons_append, List.nil_append] at hs) | (refine L_storeA hs (i := 4) rfl Try.ti25 rfl rfl (by first | rfl | exact add_lit0 _ _ | exact Addr.add_lit .. | (rw [add_add]; exact add_lit0 _ _)) (by simp) (by first | (simp; done) | simp [Value.oneCell']) ?_; intro w hs; try dsimp only [List.set_cons_succ, List.set_cons_zero, List.cons_append, List.nil_append] at hs)
     refine RL_then ?_
     refine W_seq ?_
     refine W_region ?_
     refine L_loadA rfl Try.agg25 Try.ti25 rfl (by first | exact hu2 | exact cellsAt_whole (cs := [.float .f64 u.1, .float .f64 u.2]) (hs.get (i := 0) rfl)) ?_
     refine L_idxA rfl Try.underlying102 Try.ti25 rfl rfl (by with_reducible first | exact natc_k _ | exact natc_a1 _ | exact natc_0 | exact natc_1 | exact natc_2 | exact natc_s1 _ (by omega) | exact natc_a2 _ | exact natc_add _ _ | exact natc_mul _ _ | exact natc (by omega)) (by omega) ?_
     first | (refine L_storeA hs (i := 0) rfl Try.ti25 rfl rfl (by first | rfl | exact add_lit0 _ _ | exact Addr.add_lit .. | (rw [add_add]; exact add_lit0 _ _)) (by simp) (by first | (simp; done) | simp [Value.oneCell']) ?_; intro w hs; try dsimp only [List.set_cons_succ, List.set_cons_zero, List.cons_append, List.nil_append] at hs) | (refine L_storeA hs (i := 1) rfl Try.ti25 rfl rfl (by first | rfl | exact add_lit0 _ _ | exact Addr.add_lit .. | (rw [add_add]; exact add_lit0 _ _)) (by simp) (by first | (simp; done) | simp [Value.oneCell']) ?_; intro w hs; try dsimp only [List.set_cons_succ, List.set_cons_zero, List.cons_append, List.nil_append] at hs) | (refine L_storeA hs (i := 3) rfl Try.ti25 rfl rfl (by first | rfl | exact add_lit0 _ _ | exact Addr.add_lit .. | (rw [add_add]; exact add_lit0 _ _)) (by simp) (by first | (simp; done) | simp [Value.oneCell']) ?_; intro w hs; try dsimp only [List.set_cons_succ, List.set_cons_zero, List.cons_append, List.nil_append] at hs) | (refine L_storeA hs (i := 4) rfl Try.ti25 rfl rfl (by first | rfl | exact add_lit0 _ _ | exact Addr.add_lit .. | (rw [add_add]; exact add_lit0 _ _)) (by simp) (by first | (simp; done) | simp [Value.oneCell']) ?_; intro w hs; try dsimp only [List.set_cons_succ, List.set_cons_zero, List.cons_append, List.nil_append] at hs)
     refine RL_then ?_
     refine W_seq ?_
     replace hs : HS w0 w [(b8, Row 25 [.float .f64 u.1, .float .f64 u.2]), (b6, Row 102 [.float .f64 e.1, .float .f64 e.2, .float .f64 u.1, .float .f64 u.2]), (b3, Row 25 [.float .f64 px, .float .f64 py])] := hs
     refine W_sg Try.mixed ?_
     replace hs := hs.drewN 1
     refine SG_stage [0, 2] [] [] (fun _ _ _ => False) (g' := 6) (by kernel_rfl) (by kernel_rfl) (fun _ _ _ _ _ h => h) hs ?_
     refine PL_val rfl (fun w => R_idxA Try.underlying102 Try.ti25 rfl rfl (by with_reducible first | exact natc_k _ | exact natc_a1 _ | exact natc_0 | exact natc_1 | exact natc_2 | exact natc_s1 _ (by omega) | exact natc_a2 _ | exact natc_add _ _ | exact natc_mul _ _ | exact natc (by omega)) (by omega)) ?_
     refine PL_val rfl (fun w => R_idxA Try.underlying102 Try.ti25 rfl rfl (by with_reducible first | exact natc_k _ | exact natc_a1 _ | exact natc_0 | exact natc_1 | exact natc_2 | exact natc_s1 _ (by omega) | exact natc_a2 _ | exact natc_add _ _ | exact natc_mul _ _ | exact natc (by omega)) (by omega)) ?_
     refine PL_end ?_
     refine HL_tail ?_
     intro w hs
     refine RL_sg ?_
     refine SG_join (g' := 0) (l' := #[true, true, true, true, true, true, true, true]) (fun S => ∀ (b9 : Nat) (b10 : Nat) (w : World), (w0.heap.size ≤ b9) ∧ (w0.heap.size ≤ b10) ∧ (HS w0 w [(b9, Row 25 [.float .f64 e.1, .float .f64 e.2]), (b10, Row 25 [.float .f64 u.1, .float .f64 u.2]), (b8, Row 25 [.float .f64 u.1, .float .f64 u.2]), (b6, Row 102 [.float .f64 e.1, .float .f64 e.2, .float .f64 u.1, .float .f64 u.2]), (b3, Row 25 [.float .f64 px, .float .f64 py])]) → S [(0, .slice a k c), (3, .pointer (some ⟨b3, 0, none⟩)), (5, .bool (oddP ps px py i)), (6, .pointer (some ⟨b6, 0, none⟩)), (8, .pointer (some ⟨b8, 0, none⟩)), (9, .pointer (some ⟨b9, 0, none⟩)), (10, .pointer (some ⟨b10, 0, none⟩)), (27, .slice a k c), (28, .int .i64 k), (29, .int .i64 i)] w) ?_ ?_
     ·
      intro fin
      refine SG_pick4 (i := 1) (l1 := #[true, true, true, false, false, false, false, false]) (j := 3) (l2 := #[true, false, true, true, false, false, false, false]) (m := 4) (l3 := #[true, false, true, false, true, false, false, false]) (z := 5) (l4 := #[true, false, true, false, false, true, false, false]) (by kernel_rfl) (by kernel_rfl) (by kernel_rfl) (by kernel_rfl) (by kernel_rfl) (by kernel_rfl) ?_ ?_ ?_ ?_
      ·
       refine L_loadA rfl Try.agg25 Try.ti25 rfl (by first | exact cellsAt2 (hs.get (i := 1) rfl) rfl rfl | exact cellsAt2 (hs.get (i := 2) rfl) rfl rfl | exact cellsAt2 (hs.get (i := 3) rfl) rfl rfl) ?_
       refine RL_sg ?_
       refine SG_pick3 (i := 3) (l1 := #[true, true, true, true, false, false, false, false]) (j := 4) (l2 := #[true, true, true, false, true, false, false, false]) (m := 5) (l3 := #[true, true, true, false, false, true, false, false]) (by kernel_rfl) (by kernel_rfl) (by kernel_rfl) (by kernel_rfl) (by kernel_rfl) ?_ ?_ ?_
       ·
        refine L_loadA rfl Try.agg25 Try.ti25 rfl (by first | exact cellsAt2 (hs.get (i := 1) rfl) rfl rfl | exact cellsAt2 (hs.get (i := 2) rfl) rfl rfl | exact cellsAt2 (hs.get (i := 3) rfl) rfl rfl) ?_
        refine RL_sg ?_
        refine SG_pick2 (i := 4) (l1 := #[true, true, true, true, true, false, false, false]) (j := 5) (l2 := #[true, true, true, true, false, true, false, false]) (by kernel_rfl) (by kernel_rfl) (by kernel_rfl) (by kernel_rfl) ?_ ?_
        ·
         refine L_alloc rfl hs Try.ti25 ?_; intro b9 w hb9 _ hs; replace hs := HS.push hs
         refine RL_sg ?_
         refine SG_pick1 (i := 5) (l1 := #[true, true, true, true, true, true, false, false]) (by kernel_rfl) (by kernel_rfl) (by kernel_rfl) ?_
         refine L_alloc rfl hs Try.ti25 ?_; intro b10 w hb10 _ hs; replace hs := HS.push hs
         refine RL_sg ?_
         refine SG_pick1 (i := 6) (l1 := #[true, true, true, true, true, true, true, false]) (by kernel_rfl) (by kernel_rfl) (by kernel_rfl) ?_
         first | (refine L_storeA hs (i := 0) rfl Try.ti25 rfl rfl (by first | rfl | exact add_lit0 _ _ | exact Addr.add_lit .. | (rw [add_add]; exact add_lit0 _ _)) (by simp) (by first | (simp; done) | simp [Value.oneCell']) ?_; intro w hs; try dsimp only [List.set_cons_succ, List.set_cons_zero, List.cons_append, List.nil_append] at hs) | (refine L_storeA hs (i := 1) rfl Try.ti25 rfl rfl (by first | rfl | exact add_lit0 _ _ | exact Addr.add_lit .. | (rw [add_add]; exact add_lit0 _ _)) (by simp) (by first | (simp; done) | simp [Value.oneCell']) ?_; intro w hs; try dsimp only [List.set_cons_succ, List.set_cons_zero, List.cons_append, List.nil_append] at hs)
         refine RL_sg ?_
         refine SG_pick1 (i := 7) (l1 := #[true, true, true, true, true, true, true, true]) (by kernel_rfl) (by kernel_rfl) (by kernel_rfl) ?_
         first | (refine L_storeA hs (i := 0) rfl Try.ti25 rfl rfl (by first | rfl | exact add_lit0 _ _ | exact Addr.add_lit .. | (rw [add_add]; exact add_lit0 _ _)) (by simp) (by first | (simp; done) | simp [Value.oneCell']) ?_; intro w hs; try dsimp only [List.set_cons_succ, List.set_cons_zero, List.cons_append, List.nil_append] at hs) | (refine L_storeA hs (i := 1) rfl Try.ti25 rfl rfl (by first | rfl | exact add_lit0 _ _ | exact Addr.add_lit .. | (rw [add_add]; exact add_lit0 _ _)) (by simp) (by first | (simp; done) | simp [Value.oneCell']) ?_; intro w hs; try dsimp only [List.set_cons_succ, List.set_cons_zero, List.cons_append, List.nil_append] at hs)
         refine RL_sg ?_
         refine SG_env (fin _ _ _ ⟨hb9, hb10, (by first | exact hs | exact HS.swap (p := (b10, Row 25 [.float .f64 u.1, .float .f64 u.2])) (q := (b9, Row 25 [.float .f64 e.1, .float .f64 e.2])) hs)⟩) (looks_cons rfl (looks_cons rfl (looks_cons rfl (looks_cons rfl (looks_cons rfl (looks_cons rfl (looks_cons rfl (looks_cons rfl (looks_cons rfl (looks_cons rfl looks_nil))))))))))
        ·
         refine L_alloc rfl hs Try.ti25 ?_; intro b10 w hb10 _ hs; replace hs := HS.push hs
         refine RL_sg ?_
         refine SG_pick1 (i := 4) (l1 := #[true, true, true, true, true, true, false, false]) (by kernel_rfl) (by kernel_rfl) (by kernel_rfl) ?_
         refine L_alloc rfl hs Try.ti25 ?_; intro b9 w hb9 _ hs; replace hs := HS.push hs
         refine RL_sg ?_
         refine SG_pick1 (i := 6) (l1 := #[true, true, true, true, true, true, true, false]) (by kernel_rfl) (by kernel_rfl) (by kernel_rfl) ?_
         first | (refine L_storeA hs (i := 0) rfl Try.ti25 rfl rfl (by first | rfl | exact add_lit0 _ _ | exact Addr.add_lit .. | (rw [add_add]; exact add_lit0 _ _)) (by simp) (by first | (simp; done) | simp [Value.oneCell']) ?_; intro w hs; try dsimp only [List.set_cons_succ, List.set_cons_zero, List.cons_append, List.nil_append] at hs) | (refine L_storeA hs (i := 1) rfl Try.ti25 rfl rfl (by first | rfl | exact add_lit0 _ _ | exact Addr.add_lit .. | (rw [add_add]; exact add_lit0 _ _)) (by simp) (by first | (simp; done) | simp [Value.oneCell']) ?_; intro w hs; try dsimp only [List.set_cons_succ, List.set_cons_zero, List.cons_append, List.nil_append] at hs)
         refine RL_sg ?_
         refine SG_pick1 (i := 7) (l1 := #[true, true, true, true, true, true, true, true]) (by kernel_rfl) (by kernel_rfl) (by kernel_rfl) ?_
         first | (refine L_storeA hs (i := 0) rfl Try.ti25 rfl rfl (by first | rfl | exact add_lit0 _ _ | exact Addr.add_lit .. | (rw [add_add]; exact add_lit0 _ _)) (by simp) (by first | (simp; done) | simp [Value.oneCell']) ?_; intro w hs; try dsimp only [List.set_cons_succ, List.set_cons_zero, List.cons_append, List.nil_append] at hs) | (refine L_storeA hs (i := 1) rfl Try.ti25 rfl rfl (by first | rfl | exact add_lit0 _ _ | exact Addr.add_lit .. | (rw [add_add]; exact add_lit0 _ _)) (by simp) (by first | (simp; done) | simp [Value.oneCell']) ?_; intro w hs; try dsimp only [List.set_cons_succ, List.set_cons_zero, List.cons_append, List.nil_append] at hs)
         refine RL_sg ?_
         refine SG_env (fin _ _ _ ⟨hb9, hb10, (by first | exact hs | exact HS.swap (p := (b10, Row 25 [.float .f64 u.1, .float .f64 u.2])) (q := (b9, Row 25 [.float .f64 e.1, .float .f64 e.2])) hs)⟩) (looks_cons rfl (looks_cons rfl (looks_cons rfl (looks_cons rfl (looks_cons rfl (looks_cons rfl (looks_cons rfl (looks_cons rfl (looks_cons rfl (looks_cons rfl looks_nil))))))))))
       ·
        refine L_alloc rfl hs Try.ti25 ?_; intro b9 w hb9 _ hs; replace hs := HS.push hs
        refine RL_sg ?_
        refine SG_pick2 (i := 3) (l1 := #[true, true, true, true, true, false, false, false]) (j := 5) (l2 := #[true, true, true, false, true, true, false, false]) (by kernel_rfl) (by kernel_rfl) (by kernel_rfl) (by kernel_rfl) ?_ ?_
        ·
         refine L_loadA rfl Try.agg25 Try.ti25 rfl (by first | exact cellsAt2 (hs.get (i := 1) rfl) rfl rfl | exact cellsAt2 (hs.get (i := 2) rfl) rfl rfl | exact cellsAt2 (hs.get (i := 3) rfl) rfl rfl) ?_
         refine RL_sg ?_
         refine SG_pick1 (i := 5) (l1 := #[true, true, true, true, true, true, false, false]) (by kernel_rfl) (by kernel_rfl) (by kernel_rfl) ?_
         refine L_alloc rfl hs Try.ti25 ?_; intro b10 w hb10 _ hs; replace hs := HS.push hs
         refine RL_sg ?_
         refine SG_pick1 (i := 6) (l1 := #[true, true, true, true, true, true, true, false]) (by kernel_rfl) (by kernel_rfl) (by kernel_rfl) ?_
         first | (refine L_storeA hs (i := 0) rfl Try.ti25 rfl rfl (by first | rfl | exact add_lit0 _ _ | exact Addr.add_lit .. | (rw [add_add]; exact add_lit0 _ _)) (by simp) (by first | (simp; done) | simp [Value.oneCell']) ?_; intro w hs; try dsimp only [List.set_cons_succ, List.set_cons_zero, List.cons_append, List.nil_append] at hs) | (refine L_storeA hs (i := 1) rfl Try.ti25 rfl rfl (by first | rfl | exact add_lit0 _ _ | exact Addr.add_lit .. | (rw [add_add]; exact add_lit0 _ _)) (by simp) (by first | (simp; done) | simp [Value.oneCell']) ?_; intro w hs; try dsimp only [List.set_cons_succ, List.set_cons_zero, List.cons_append, List.nil_append] at hs)
         refine RL_sg ?_
         refine SG_pick1 (i := 7) (l1 := #[true, true, true, true, true, true, true, true]) (by kernel_rfl) (by kernel_rfl) (by kernel_rfl) ?_
         first | (refine L_storeA hs (i := 0) rfl Try.ti25 rfl rfl (by first | rfl | exact add_lit0 _ _ | exact Addr.add_lit .. | (rw [add_add]; exact add_lit0 _ _)) (by simp) (by first | (simp; done) | simp [Value.oneCell']) ?_; intro w hs; try dsimp only [List.set_cons_succ, List.set_cons_zero, List.cons_append, List.nil_append] at hs) | (refine L_storeA hs (i := 1) rfl Try.ti25 rfl rfl (by first | rfl | exact add_lit0 _ _ | exact Addr.add_lit .. | (rw [add_add]; exact add_lit0 _ _)) (by simp) (by first | (simp; done) | simp [Value.oneCell']) ?_; intro w hs; try dsimp only [List.set_cons_succ, List.set_cons_zero, List.cons_append, List.nil_append] at hs)
         refine RL_sg ?_
         refine SG_env (fin _ _ _ ⟨hb9, hb10, (by first | exact hs | exact HS.swap (p := (b10, Row 25 [.float .f64 u.1, .float .f64 u.2])) (q := (b9, Row 25 [.float .f64 e.1, .float .f64 e.2])) hs)⟩) (looks_cons rfl (looks_cons rfl (looks_cons rfl (looks_cons rfl (looks_cons rfl (looks_cons rfl (looks_cons rfl (looks_cons rfl (looks_cons rfl (looks_cons rfl looks_nil))))))))))
        ·
         refine L_alloc rfl hs Try.ti25 ?_; intro b10 w hb10 _ hs; replace hs := HS.push hs
         refine RL_sg ?_
         refine SG_pick2 (i := 3) (l1 := #[true, true, true, true, true, true, false, false]) (j := 6) (l2 := #[true, true, true, false, true, true, true, false]) (by kernel_rfl) (by kernel_rfl) (by kernel_rfl) (by kernel_rfl) ?_ ?_
         ·
          refine L_loadA rfl Try.agg25 Try.ti25 rfl (by first | exact cellsAt2 (hs.get (i := 1) rfl) rfl rfl | exact cellsAt2 (hs.get (i := 2) rfl) rfl rfl | exact cellsAt2 (hs.get (i := 3) rfl) rfl rfl) ?_
          refine RL_sg ?_
          refine SG_pick1 (i := 6) (l1 := #[true, true, true, true, true, true, true, false]) (by kernel_rfl) (by kernel_rfl) (by kernel_rfl) ?_
          first | (refine L_storeA hs (i := 0) rfl Try.ti25 rfl rfl (by first | rfl | exact add_lit0 _ _ | exact Addr.add_lit .. | (rw [add_add]; exact add_lit0 _ _)) (by simp) (by first | (simp; done) | simp [Value.oneCell']) ?_; intro w hs; try dsimp only [List.set_cons_succ, List.set_cons_zero, List.cons_append, List.nil_append] at hs) | (refine L_storeA hs (i := 1) rfl Try.ti25 rfl rfl (by first | rfl | exact add_lit0 _ _ | exact Addr.add_lit .. | (rw [add_add]; exact add_lit0 _ _)) (by simp) (by first | (simp; done) | simp [Value.oneCell']) ?_; intro w hs; try dsimp only [List.set_cons_succ, List.set_cons_zero, List.cons_append, List.nil_append] at hs)
          refine RL_sg ?_
          refine SG_pick1 (i := 7) (l1 := #[true, true, true, true, true, true, true, true]) (by kernel_rfl) (by kernel_rfl) (by kernel_rfl) ?_
          first | (refine L_storeA hs (i := 0) rfl Try.ti25 rfl rfl (by first | rfl | exact add_lit0 _ _ | exact Addr.add_lit .. | (rw [add_add]; exact add_lit0 _ _)) (by simp) (by first | (simp; done) | simp [Value.oneCell']) ?_; intro w hs; try dsimp only [List.set_cons_succ, List.set_cons_zero, List.cons_append, List.nil_append] at hs) | (refine L_storeA hs (i := 1) rfl Try.ti25 rfl rfl (by first | rfl | exact add_lit0 _ _ | exact Addr.add_lit .. | (rw [add_add]; exact add_lit0 _ _)) (by simp) (by first | (simp; done) | simp [Value.oneCell']) ?_; intro w hs; try dsimp only [List.set_cons_succ, List.set_cons_zero, List.cons_append, List.nil_append] at hs)
          refine RL_sg ?_
          refine SG_env (fin _ _ _ ⟨hb9, hb10, (by first | exact hs | exact HS.swap (p := (b10, Row 25 [.float .f64 u.1, .float .f64 u.2])) (q := (b9, Row 25 [.float .f64 e.1, .float .f64 e.2])) hs)⟩) (looks_cons rfl (looks_cons rfl (looks_cons rfl (looks_cons rfl (looks_cons rfl (looks_cons rfl (looks_cons rfl (looks_cons rfl (looks_cons rfl (looks_cons rfl looks_nil))))))))))
         ·
          first | (refine L_storeA hs (i := 0) rfl Try.ti25 rfl rfl (by first | rfl | exact add_lit0 _ _ | exact Addr.add_lit .. | (rw [add_add]; exact add_lit0 _ _)) (by simp) (by first | (simp; done) | simp [Value.oneCell']) ?_; intro w hs; try dsimp only [List.set_cons_succ, List.set_cons_zero, List.cons_append, List.nil_append] at hs) | (refine L_storeA hs (i := 1) rfl Try.ti25 rfl rfl (by first | rfl | exact add_lit0 _ _ | exact Addr.add_lit .. | (rw [add_add]; exact add_lit0 _ _)) (by simp) (by first | (simp; done) | simp [Value.oneCell']) ?_; intro w hs; try dsimp only [List.set_cons_succ, List.set_cons_zero, List.cons_append, List.nil_append] at hs)
          refine RL_sg ?_
          refine SG_pick1 (i := 3) (l1 := #[true, true, true, true, true, true, true, false]) (by kernel_rfl) (by kernel_rfl) (by kernel_rfl) ?_
          refine L_loadA rfl Try.agg25 Try.ti25 rfl (by first | exact cellsAt2 (hs.get (i := 1) rfl) rfl rfl | exact cellsAt2 (hs.get (i := 2) rfl) rfl rfl | exact cellsAt2 (hs.get (i := 3) rfl) rfl rfl) ?_
          refine RL_sg ?_
          refine SG_pick1 (i := 7) (l1 := #[true, true, true, true, true, true, true, true]) (by kernel_rfl) (by kernel_rfl) (by kernel_rfl) ?_
          first | (refine L_storeA hs (i := 0) rfl Try.ti25 rfl rfl (by first | rfl | exact add_lit0 _ _ | exact Addr.add_lit .. | (rw [add_add]; exact add_lit0 _ _)) (by simp) (by first | (simp; done) | simp [Value.oneCell']) ?_; intro w hs; try dsimp only [List.set_cons_succ, List.set_cons_zero, List.cons_append, List.nil_append] at hs) | (refine L_storeA hs (i := 1) rfl Try.ti25 rfl rfl (by first | rfl | exact add_lit0 _ _ | exact Addr.add_lit .. | (rw [add_add]; exact add_lit0 _ _)) (by simp) (by first | (simp; done) | simp [Value.oneCell']) ?_; intro w hs; try dsimp only [List.set_cons_succ, List.set_cons_zero, List.cons_append, List.nil_append] at hs)
          refine RL_sg ?_
          refine SG_env (fin _ _ _ ⟨hb9, hb10, (by first | exact hs | exact HS.swap (p := (b10, Row 25 [.float .f64 u.1, .float .f64 u.2])) (q := (b9, Row 25 [.float .f64 e.1, .float .f64 e.2])) hs)⟩) (looks_cons rfl (looks_cons rfl (looks_cons rfl (looks_cons rfl (looks_cons rfl (looks_cons rfl (looks_cons rfl (looks_cons rfl (looks_cons rfl (looks_cons rfl looks_nil))))))))))
       ·
        refine L_alloc rfl hs Try.ti25 ?_; intro b10 w hb10 _ hs; replace hs := HS.push hs
        refine RL_sg ?_
        refine SG_pick2 (i := 3) (l1 := #[true, true, true, true, false, true, false, false]) (j := 4) (l2 := #[true, true, true, false, true, true, false, false]) (by kernel_rfl) (by kernel_rfl) (by kernel_rfl) (by kernel_rfl) ?_ ?_
        ·
         refine L_loadA rfl Try.agg25 Try.ti25 rfl (by first | exact cellsAt2 (hs.get (i := 1) rfl) rfl rfl | exact cellsAt2 (hs.get (i := 2) rfl) rfl rfl | exact cellsAt2 (hs.get (i := 3) rfl) rfl rfl) ?_
         refine RL_sg ?_
         refine SG_pick1 (i := 4) (l1 := #[true, true, true, true, true, true, false, false]) (by kernel_rfl) (by kernel_rfl) (by kernel_rfl) ?_
         refine L_alloc rfl hs Try.ti25 ?_; intro b9 w hb9 _ hs; replace hs := HS.push hs
         refine RL_sg ?_
         refine SG_pick1 (i := 6) (l1 := #[true, true, true, true, true, true, true, false]) (by kernel_rfl) (by kernel_rfl) (by kernel_rfl) ?_
         first | (refine L_storeA hs (i := 0) rfl Try.ti25 rfl rfl (by first | rfl | exact add_lit0 _ _ | exact Addr.add_lit .. | (rw [add_add]; exact add_lit0 _ _)) (by simp) (by first | (simp; done) | simp [Value.oneCell']) ?_; intro w hs; try dsimp only [List.set_cons_succ, List.set_cons_zero, List.cons_append, List.nil_append] at hs) | (refine L_storeA hs (i := 1) rfl Try.ti25 rfl rfl (by first | rfl | exact add_lit0 _ _ | exact Addr.add_lit .. | (rw [add_add]; exact add_lit0 _ _)) (by simp) (by first | (simp; done) | simp [Value.oneCell']) ?_; intro w hs; try dsimp only [List.set_cons_succ, List.set_cons_zero, List.cons_append, List.nil_append] at hs)
         refine RL_sg ?_
         refine SG_pick1 (i := 7) (l1 := #[true, true, true, true, true, true, true, true]) (by kernel_rfl) (by kernel_rfl) (by kernel_rfl) ?_
         first | (refine L_storeA hs (i := 0) rfl Try.ti25 rfl rfl (by first | rfl | exact add_lit0 _ _ | exact Addr.add_lit .. | (rw [add_add]; exact add_lit0 _ _)) (by simp) (by first | (simp; done) | simp [Value.oneCell']) ?_; intro w hs; try dsimp only [List.set_cons_succ, List.set_cons_zero, List.cons_append, List.nil_append] at hs) | (refine L_storeA hs (i := 1) rfl Try.ti25 rfl rfl (by first | rfl | exact add_lit0 _ _ | exact Addr.add_lit .. | (rw [add_add]; exact add_lit0 _ _)) (by simp) (by first | (simp; done) | simp [Value.oneCell']) ?_; intro w hs; try dsimp only [List.set_cons_succ, List.set_cons_zero, List.cons_append, List.nil_append] at hs)
         refine RL_sg ?_
         refine SG_env (fin _ _ _ ⟨hb9, hb10, (by first | exact hs | exact HS.swap (p := (b10, Row 25 [.float .f64 u.1, .float .f64 u.2])) (q := (b9, Row 25 [.float .f64 e.1, .float .f64 e.2])) hs)⟩) (looks_cons rfl (looks_cons rfl (looks_cons rfl (looks_cons rfl (looks_cons rfl (looks_cons rfl (looks_cons rfl (looks_cons rfl (looks_cons rfl (looks_cons rfl looks_nil))))))))))
        ·
         refine L_alloc rfl hs Try.ti25 ?_; intro b9 w hb9 _ hs; replace hs := HS.push hs
         refine RL_sg ?_
         refine SG_pick2 (i := 3) (l1 := #[true, true, true, true, true, true, false, false]) (j := 6) (l2 := #[true, true, true, false, true, true, true, false]) (by kernel_rfl) (by kernel_rfl) (by kernel_rfl) (by kernel_rfl) ?_ ?_
         ·
          refine L_loadA rfl Try.agg25 Try.ti25 rfl (by first | exact cellsAt2 (hs.get (i := 1) rfl) rfl rfl | exact cellsAt2 (hs.get (i := 2) rfl) rfl rfl | exact cellsAt2 (hs.get (i := 3) rfl) rfl rfl) ?_
          refine RL_sg ?_
          refine SG_pick1 (i := 6) (l1 := #[true, true, true, true, true, true, true, false]) (by kernel_rfl) (by kernel_rfl) (by kernel_rfl) ?_
          first | (refine L_storeA hs (i := 0) rfl Try.ti25 rfl rfl (by first | rfl | exact add_lit0 _ _ | exact Addr.add_lit .. | (rw [add_add]; exact add_lit0 _ _)) (by simp) (by first | (simp; done) | simp [Value.oneCell']) ?_; intro w hs; try dsimp only [List.set_cons_succ, List.set_cons_zero, List.cons_append, List.nil_append] at hs) | (refine L_storeA hs (i := 1) rfl Try.ti25 rfl rfl (by first | rfl | exact add_lit0 _ _ | exact Addr.add_lit .. | (rw [add_add]; exact add_lit0 _ _)) (by simp) (by first | (simp; done) | simp [Value.oneCell']) ?_; intro w hs; try dsimp only [List.set_cons_succ, List.set_cons_zero, List.cons_append, List.nil_append] at hs)
          refine RL_sg ?_
          refine SG_pick1 (i := 7) (l1 := #[true, true, true, true, true, true, true, true]) (by kernel_rfl) (by kernel_rfl) (by kernel_rfl) ?_
          first | (refine L_storeA hs (i := 0) rfl Try.ti25 rfl rfl (by first | rfl | exact add_lit0 _ _ | exact Addr.add_lit .. | (rw [add_add]; exact add_lit0 _ _)) (by simp) (by first | (simp; done) | simp [Value.oneCell']) ?_; intro w hs; try dsimp only [List.set_cons_succ, List.set_cons_zero, List.cons_append, List.nil_append] at hs) | (refine L_storeA hs (i := 1) rfl Try.ti25 rfl rfl (by first | rfl | exact add_lit0 _ _ | exact Addr.add_lit .. | (rw [add_add]; exact add_lit0 _ _)) (by simp) (by first | (simp; done) | simp [Value.oneCell']) ?_; intro w hs; try dsimp only [List.set_cons_succ, List.set_cons_zero, List.cons_append, List.nil_append] at hs)
          refine RL_sg ?_
          refine SG_env (fin _ _ _ ⟨hb9, hb10, (by first | exact hs | exact HS.swap (p := (b10, Row 25 [.float .f64 u.1, .float .f64 u.2])) (q := (b9, Row 25 [.float .f64 e.1, .float .f64 e.2])) hs)⟩) (looks_cons rfl (looks_cons rfl (looks_cons rfl (looks_cons rfl (looks_cons rfl (looks_cons rfl (looks_cons rfl (looks_cons rfl (looks_cons rfl (looks_cons rfl looks_nil))))))))))
         ·
          first | (refine L_storeA hs (i := 0) rfl Try.ti25 rfl rfl (by first | rfl | exact add_lit0 _ _ | exact Addr.add_lit .. | (rw [add_add]; exact add_lit0 _ _)) (by simp) (by first | (simp; done) | simp [Value.oneCell']) ?_; intro w hs; try dsimp only [List.set_cons_succ, List.set_cons_zero, List.cons_append, List.nil_append] at hs) | (refine L_storeA hs (i := 1) rfl Try.ti25 rfl rfl (by first | rfl | exact add_lit0 _ _ | exact Addr.add_lit .. | (rw [add_add]; exact add_lit0 _ _)) (by simp) (by first | (simp; done) | simp [Value.oneCell']) ?_; intro w hs; try dsimp only [List.set_cons_succ, List.set_cons_zero, List.cons_append, List.nil_append] at hs)
          refine RL_sg ?_
          refine SG_pick1 (i := 3) (l1 := #[true, true, true, true, true, true, true, false]) (by kernel_rfl) (by kernel_rfl) (by kernel_rfl) ?_
          refine L_loadA rfl Try.agg25 Try.ti25 rfl (by first | exact cellsAt2 (hs.get (i := 1) rfl) rfl rfl | exact cellsAt2 (hs.get (i := 2) rfl) rfl rfl | exact cellsAt2 (hs.get (i := 3) rfl) rfl rfl) ?_
          refine RL_sg ?_
          refine SG_pick1 (i := 7) (l1 := #[true, true, true, true, true, true, true, true]) (by kernel_rfl) (by kernel_rfl) (by kernel_rfl) ?_
          first | (refine L_storeA hs (i := 0) rfl Try.ti25 rfl rfl (by first | rfl | exact add_lit0 _ _ | exact Addr.add_lit .. | (rw [add_add]; exact add_lit0 _ _)) (by simp) (by first | (simp; done) | simp [Value.oneCell']) ?_; intro w hs; try dsimp only [List.set_cons_succ, List.set_cons_zero, List.cons_append, List.nil_append] at hs) | (refine L_storeA hs (i := 1) rfl Try.ti25 rfl rfl (by first | rfl | exact add_lit0 _ _ | exact Addr.add_lit .. | (rw [add_add]; exact add_lit0 _ _)) (by simp) (by first | (simp; done) | simp [Value.oneCell']) ?_; intro w hs; try dsimp only [List.set_cons_succ, List.set_cons_zero, List.cons_append, List.nil_append] at hs)
          refine RL_sg ?_
          refine SG_env (fin _ _ _ ⟨hb9, hb10, (by first | exact hs | exact HS.swap (p := (b10, Row 25 [.float .f64 u.1, .float .f64 u.2])) (q := (b9, Row 25 [.float .f64 e.1, .float .f64 e.2])) hs)⟩) (looks_cons rfl (looks_cons rfl (looks_cons rfl (looks_cons rfl (looks_cons rfl (looks_cons rfl (looks_cons rfl (looks_cons rfl (looks_cons rfl (looks_cons rfl looks_nil))))))))))
      ·
       refine L_loadA rfl Try.agg25 Try.ti25 rfl (by first | exact cellsAt2 (hs.get (i := 1) rfl) rfl rfl | exact cellsAt2 (hs.get (i := 2) rfl) rfl rfl | exact cellsAt2 (hs.get (i := 3) rfl) rfl rfl) ?_
       refine RL_sg ?_
       refine SG_pick3 (i := 1) (l1 := #[true, true, true, true, false, false, false, false]) (j := 4) (l2 := #[true, false, true, true, true, false, false, false]) (m := 5) (l3 := #[true, false, true, true, false, true, false, false]) (by kernel_rfl) (by kernel_rfl) (by kernel_rfl) (by kernel_rfl) (by kernel_rfl) ?_ ?_ ?_
       ·
        refine L_loadA rfl Try.agg25 Try.ti25 rfl (by first | exact cellsAt2 (hs.get (i := 1) rfl) rfl rfl | exact cellsAt2 (hs.get (i := 2) rfl) rfl rfl | exact cellsAt2 (hs.get (i := 3) rfl) rfl rfl) ?_
        refine RL_sg ?_
        refine SG_pick2 (i := 4) (l1 := #[true, true, true, true, true, false, false, false]) (j := 5) (l2 := #[true, true, true, true, false, true, false, false]) (by kernel_rfl) (by kernel_rfl) (by kernel_rfl) (by kernel_rfl) ?_ ?_
        ·
         refine L_alloc rfl hs Try.ti25 ?_; intro b9 w hb9 _ hs; replace hs := HS.push hs
         refine RL_sg ?_
         refine SG_pick1 (i := 5) (l1 := #[true, true, true, true, true, true, false, false]) (by kernel_rfl) (by kernel_rfl) (by kernel_rfl) ?_
         refine L_alloc rfl hs Try.ti25 ?_; intro b10 w hb10 _ hs; replace hs := HS.push hs
         refine RL_sg ?_
         refine SG_pick1 (i := 6) (l1 := #[true, true, true, true, true, true, true, false]) (by kernel_rfl) (by kernel_rfl) (by kernel_rfl) ?_
         first | (refine L_storeA hs (i := 0) rfl Try.ti25 rfl rfl (by first | rfl | exact add_lit0 _ _ | exact Addr.add_lit .. | (rw [add_add]; exact add_lit0 _ _)) (by simp) (by first | (simp; done) | simp [Value.oneCell']) ?_; intro w hs; try dsimp only [List.set_cons_succ, List.set_cons_zero, List.cons_append, List.nil_append] at hs) | (refine L_storeA hs (i := 1) rfl Try.ti25 rfl rfl (by first | rfl | exact add_lit0 _ _ | exact Addr.add_lit .. | (rw [add_add]; exact add_lit0 _ _)) (by simp) (by first | (simp; done) | simp [Value.oneCell']) ?_; intro w hs; try dsimp only [List.set_cons_succ, List.set_cons_zero, List.cons_append, List.nil_append] at hs)
         refine RL_sg ?_
         refine SG_pick1 (i := 7) (l1 := #[true, true, true, true, true, true, true, true]) (by kernel_rfl) (by kernel_rfl) (by kernel_rfl) ?_
         first | (refine L_storeA hs (i := 0) rfl Try.ti25 rfl rfl (by first | rfl | exact add_lit0 _ _ | exact Addr.add_lit .. | (rw [add_add]; exact add_lit0 _ _)) (by simp) (by first | (simp; done) | simp [Value.oneCell']) ?_; intro w hs; try dsimp only [List.set_cons_succ, List.set_cons_zero, List.cons_append, List.nil_append] at hs) | (refine L_storeA hs (i := 1) rfl Try.ti25 rfl rfl (by first | rfl | exact add_lit0 _ _ | exact Addr.add_lit .. | (rw [add_add]; exact add_lit0 _ _)) (by simp) (by first | (simp; done) | simp [Value.oneCell']) ?_; intro w hs; try dsimp only [List.set_cons_succ, List.set_cons_zero, List.cons_append, List.nil_append] at hs)
         refine RL_sg ?_
         refine SG_env (fin _ _ _ ⟨hb9, hb10, (by first | exact hs | exact HS.swap (p := (b10, Row 25 [.float .f64 u.1, .float .f64 u.2])) (q := (b9, Row 25 [.float .f64 e.1, .float .f64 e.2])) hs)⟩) (looks_cons rfl (looks_cons rfl (looks_cons rfl (looks_cons rfl (looks_cons rfl (looks_cons rfl (looks_cons rfl (looks_cons rfl (looks_cons rfl (looks_cons rfl looks_nil))))))))))
        ·
         refine L_alloc rfl hs Try.ti25 ?_; intro b10 w hb10 _ hs; replace hs := HS.push hs
         refine RL_sg ?_
         refine SG_pick1 (i := 4) (l1 := #[true, true, true, true, true, true, false, false]) (by kernel_rfl) (by kernel_rfl) (by kernel_rfl) ?_
         refine L_alloc rfl hs Try.ti25 ?_; intro b9 w hb9 _ hs; replace hs := HS.push hs
         refine RL_sg ?_
         refine SG_pick1 (i := 6) (l1 := #[true, true, true, true, true, true, true, false]) (by kernel_rfl) (by kernel_rfl) (by kernel_rfl) ?_
         first | (refine L_storeA hs (i := 0) rfl Try.ti25 rfl rfl (by first | rfl | exact add_lit0 _ _ | exact Addr.add_lit .. | (rw [add_add]; exact add_lit0 _ _)) (by simp) (by first | (simp; done) | simp [Value.oneCell']) ?_; intro w hs; try dsimp only [List.set_cons_succ, List.set_cons_zero, List.cons_append, List.nil_append] at hs) | (refine L_storeA hs (i := 1) rfl Try.ti25 rfl rfl (by first | rfl | exact add_lit0 _ _ | exact Addr.add_lit .. | (rw [add_add]; exact add_lit0 _ _)) (by simp) (by first | (simp; done) | simp [Value.oneCell']) ?_; intro w hs; try dsimp only [List.set_cons_succ, List.set_cons_zero, List.cons_append, List.nil_append] at hs)
         refine RL_sg ?_
         refine SG_pick1 (i := 7) (l1 := #[true, true, true, true, true, true, true, true]) (by kernel_rfl) (by kernel_rfl) (by kernel_rfl) ?_
         first | (refine L_storeA hs (i := 0) rfl Try.ti25 rfl rfl (by first | rfl | exact add_lit0 _ _ | exact Addr.add_lit .. | (rw [add_add]; exact add_lit0 _ _)) (by simp) (by first | (simp; done) | simp [Value.oneCell']) ?_; intro w hs; try dsimp only [List.set_cons_succ, List.set_cons_zero, List.cons_append, List.nil_append] at hs) | (refine L_storeA hs (i := 1) rfl Try.ti25 rfl rfl (by first | rfl | exact add_lit0 _ _ | exact Addr.add_lit .. | (rw [add_add]; exact add_lit0 _ _)) (by simp) (by first | (simp; done) | simp [Value.oneCell']) ?_; intro w hs; try dsimp only [List.set_cons_succ, List.set_cons_zero, List.cons_append, List.nil_append] at hs)
         refine RL_sg ?_
         refine SG_env (fin _ _ _ ⟨hb9, hb10, (by first | exact hs | exact HS.swap (p := (b10, Row 25 [.float .f64 u.1, .float .f64 u.2])) (q := (b9, Row 25 [.float .f64 e.1, .float .f64 e.2])) hs)⟩) (looks_cons rfl (looks_cons rfl (looks_cons rfl (looks_cons rfl (looks_cons rfl (looks_cons rfl (looks_cons rfl (looks_cons rfl (looks_cons rfl (looks_cons rfl looks_nil))))))))))
       ·
        refine L_alloc rfl hs Try.ti25 ?_; intro b9 w hb9 _ hs; replace hs := HS.push hs
        refine RL_sg ?_
        refine SG_pick2 (i := 1) (l1 := #[true, true, true, true, true, false, false, false]) (j := 5) (l2 := #[true, false, true, true, true, true, false, false]) (by kernel_rfl) (by kernel_rfl) (by kernel_rfl) (by kernel_rfl) ?_ ?_
        ·
         refine L_loadA rfl Try.agg25 Try.ti25 rfl (by first | exact cellsAt2 (hs.get (i := 1) rfl) rfl rfl | exact cellsAt2 (hs.get (i := 2) rfl) rfl rfl | exact cellsAt2 (hs.get (i := 3) rfl) rfl rfl) ?_
         refine RL_sg ?_
         refine SG_pick1 (i := 5) (l1 := #[true, true, true, true, true, true, false, false]) (by kernel_rfl) (by kernel_rfl) (by kernel_rfl) ?_
         refine L_alloc rfl hs Try.ti25 ?_; intro b10 w hb10 _ hs; replace hs := HS.push hs
         refine RL_sg ?_
         refine SG_pick1 (i := 6) (l1 := #[true, true, true, true, true, true, true, false]) (by kernel_rfl) (by kernel_rfl) (by kernel_rfl) ?_
         first | (refine L_storeA hs (i := 0) rfl Try.ti25 rfl rfl (by first | rfl | exact add_lit0 _ _ | exact Addr.add_lit .. | (rw [add_add]; exact add_lit0 _ _)) (by simp) (by first | (simp; done) | simp [Value.oneCell']) ?_; intro w hs; try dsimp only [List.set_cons_succ, List.set_cons_zero, List.cons_append, List.nil_append] at hs) | (refine L_storeA hs (i := 1) rfl Try.ti25 rfl rfl (by first | rfl | exact add_lit0 _ _ | exact Addr.add_lit .. | (rw [add_add]; exact add_lit0 _ _)) (by simp) (by first | (simp; done) | simp [Value.oneCell']) ?_; intro w hs; try dsimp only [List.set_cons_succ, List.set_cons_zero, List.cons_append, List.nil_append] at hs)
         refine RL_sg ?_
         refine SG_pick1 (i := 7) (l1 := #[true, true, true, true, true, true, true, true]) (by kernel_rfl) (by kernel_rfl) (by kernel_rfl) ?_
         first | (refine L_storeA hs (i := 0) rfl Try.ti25 rfl rfl (by first | rfl | exact add_lit0 _ _ | exact Addr.add_lit .. | (rw [add_add]; exact add_lit0 _ _)) (by simp) (by first | (simp; done) | simp [Value.oneCell']) ?_; intro w hs; try dsimp only [List.set_cons_succ, List.set_cons_zero, List.cons_append, List.nil_append] at hs) | (refine L_storeA hs (i := 1) rfl Try.ti25 rfl rfl (by first | rfl | exact add_lit0 _ _ | exact Addr.add_lit .. | (rw [add_add]; exact add_lit0 _ _)) (by simp) (by first | (simp; done) | simp [Value.oneCell']) ?_; intro w hs; try dsimp only [List.set_cons_succ, List.set_cons_zero, List.cons_append, List.nil_append] at hs)
         refine RL_sg ?_
         refine SG_env (fin _ _ _ ⟨hb9, hb10, (by first | exact hs | exact HS.swap (p := (b10, Row 25 [.float .f64 u.1, .float .f64 u.2])) (q := (b9, Row 25 [.float .f64 e.1, .float .f64 e.2])) hs)⟩) (looks_cons rfl (looks_cons rfl (looks_cons rfl (looks_cons rfl (looks_cons rfl (looks_cons rfl (looks_cons rfl (looks_cons rfl (looks_cons rfl (looks_cons rfl looks_nil))))))))))
        ·
         refine L_alloc rfl hs Try.ti25 ?_; intro b10 w hb10 _ hs; replace hs := HS.push hs
         refine RL_sg ?_
         refine SG_pick1 (i := 1) (l1 := #[true, true, true, true, true, true, false, false]) (by kernel_rfl) (by kernel_rfl) (by kernel_rfl) ?_
         refine L_loadA rfl Try.agg25 Try.ti25 rfl (by first | exact cellsAt2 (hs.get (i := 1) rfl) rfl rfl | exact cellsAt2 (hs.get (i := 2) rfl) rfl rfl | exact cellsAt2 (hs.get (i := 3) rfl) rfl rfl) ?_
         refine RL_sg ?_
         refine SG_pick1 (i := 6) (l1 := #[true, true, true, true, true, true, true, false]) (by kernel_rfl) (by kernel_rfl) (by kernel_rfl) ?_
         first | (refine L_storeA hs (i := 0) rfl Try.ti25 rfl rfl (by first | rfl | exact add_lit0 _ _ | exact Addr.add_lit .. | (rw [add_add]; exact add_lit0 _ _)) (by simp) (by first | (simp; done) | simp [Value.oneCell']) ?_; intro w hs; try dsimp only [List.set_cons_succ, List.set_cons_zero, List.cons_append, List.nil_append] at hs) | (refine L_storeA hs (i := 1) rfl Try.ti25 rfl rfl (by first | rfl | exact add_lit0 _ _ | exact Addr.add_lit .. | (rw [add_add]; exact add_lit0 _ _)) (by simp) (by first | (simp; done) | simp [Value.oneCell']) ?_; intro w hs; try dsimp only [List.set_cons_succ, List.set_cons_zero, List.cons_append, List.nil_append] at hs)
         refine RL_sg ?_
         refine SG_pick1 (i := 7) (l1 := #[true, true, true, true, true, true, true, true]) (by kernel_rfl) (by kernel_rfl) (by kernel_rfl) ?_
         first | (refine L_storeA hs (i := 0) rfl Try.ti25 rfl rfl (by first | rfl | exact add_lit0 _ _ | exact Addr.add_lit .. | (rw [add_add]; exact add_lit0 _ _)) (by simp) (by first | (simp; done) | simp [Value.oneCell']) ?_; intro w hs; try dsimp only [List.set_cons_succ, List.set_cons_zero, List.cons_append, List.nil_append] at hs) | (refine L_storeA hs (i := 1) rfl Try.ti25 rfl rfl (by first | rfl | exact add_lit0 _ _ | exact Addr.add_lit .. | (rw [add_add]; exact add_lit0 _ _)) (by simp) (by first | (simp; done) | simp [Value.oneCell']) ?_; intro w hs; try dsimp only [List.set_cons_succ, List.set_cons_zero, List.cons_append, List.nil_append] at hs)
         refine RL_sg ?_
         refine SG_env (fin _ _ _ ⟨hb9, hb10, (by first | exact hs | exact HS.swap (p := (b10, Row 25 [.float .f64 u.1, .float .f64 u.2])) (q := (b9, Row 25 [.float .f64 e.1, .float .f64 e.2])) hs)⟩) (looks_cons rfl (looks_cons rfl (looks_cons rfl (looks_cons rfl (looks_cons rfl (looks_cons rfl (looks_cons rfl (looks_cons rfl (looks_cons rfl (looks_cons rfl looks_nil))))))))))
       ·
        refine L_alloc rfl hs Try.ti25 ?_; intro b10 w hb10 _ hs; replace hs := HS.push hs
        refine RL_sg ?_
        refine SG_pick2 (i := 1) (l1 := #[true, true, true, true, false, true, false, false]) (j := 4) (l2 := #[true, false, true, true, true, true, false, false]) (by kernel_rfl) (by kernel_rfl) (by kernel_rfl) (by kernel_rfl) ?_ ?_
        ·
         refine L_loadA rfl Try.agg25 Try.ti25 rfl (by first | exact cellsAt2 (hs.get (i := 1) rfl) rfl rfl | exact cellsAt2 (hs.get (i := 2) rfl) rfl rfl | exact cellsAt2 (hs.get (i := 3) rfl) rfl rfl) ?_
         refine RL_sg ?_
         refine SG_pick1 (i := 4) (l1 := #[true, true, true, true, true, true, false, false]) (by kernel_rfl) (by kernel_rfl) (by kernel_rfl) ?_
         refine L_alloc rfl hs Try.ti25 ?_; intro b9 w hb9 _ hs; replace hs := HS.push hs
         refine RL_sg ?_
         refine SG_pick1 (i := 6) (l1 := #[true, true, true, true, true, true, true, false]) (by kernel_rfl) (by kernel_rfl) (by kernel_rfl) ?_
         first | (refine L_storeA hs (i := 0) rfl Try.ti25 rfl rfl (by first | rfl | exact add_lit0 _ _ | exact Addr.add_lit .. | (rw [add_add]; exact add_lit0 _ _)) (by simp) (by first | (simp; done) | simp [Value.oneCell']) ?_; intro w hs; try dsimp only [List.set_cons_succ, List.set_cons_zero, List.cons_append, List.nil_append] at hs) | (refine L_storeA hs (i := 1) rfl Try.ti25 rfl rfl (by first | rfl | exact add_lit0 _ _ | exact Addr.add_lit .. | (rw [add_add]; exact add_lit0 _ _)) (by simp) (by first | (simp; done) | simp [Value.oneCell']) ?_; intro w hs; try dsimp only [List.set_cons_succ, List.set_cons_zero, List.cons_append, List.nil_append] at hs)
         refine RL_sg ?_
         refine SG_pick1 (i := 7) (l1 := #[true, true, true, true, true, true, true, true]) (by kernel_rfl) (by kernel_rfl) (by kernel_rfl) ?_
         first | (refine L_storeA hs (i := 0) rfl Try.ti25 rfl rfl (by first | rfl | exact add_lit0 _ _ | exact Addr.add_lit .. | (rw [add_add]; exact add_lit0 _ _)) (by simp) (by first | (simp; done) | simp [Value.oneCell']) ?_; intro w hs; try dsimp only [List.set_cons_succ, List.set_cons_zero, List.cons_append, List.nil_append] at hs) | (refine L_storeA hs (i := 1) rfl Try.ti25 rfl rfl (by first | rfl | exact add_lit0 _ _ | exact Addr.add_lit .. | (rw [add_add]; exact add_lit0 _ _)) (by simp) (by first | (simp; done) | simp [Value.oneCell']) ?_; intro w hs; try dsimp only [List.set_cons_succ, List.set_cons_zero, List.cons_append, List.nil_append] at hs)
         refine RL_sg ?_
         refine SG_env (fin _ _ _ ⟨hb9, hb10, (by first | exact hs | exact HS.swap (p := (b10, Row 25 [.float .f64 u.1, .float .f64 u.2])) (q := (b9, Row 25 [.float .f64 e.1, .float .f64 e.2])) hs)⟩) (looks_cons rfl (looks_cons rfl (looks_cons rfl (looks_cons rfl (looks_cons rfl (looks_cons rfl (looks_cons rfl (looks_cons rfl (looks_cons rfl (looks_cons rfl looks_nil))))))))))
        ·
         refine L_alloc rfl hs Try.ti25 ?_; intro b9 w hb9 _ hs; replace hs := HS.push hs
         refine RL_sg ?_
         refine SG_pick1 (i := 1) (l1 := #[true, true, true, true, true, true, false, false]) (by kernel_rfl) (by kernel_rfl) (by kernel_rfl) ?_
         refine L_loadA rfl Try.agg25 Try.ti25 rfl (by first | exact cellsAt2 (hs.get (i := 1) rfl) rfl rfl | exact cellsAt2 (hs.get (i := 2) rfl) rfl rfl | exact cellsAt2 (hs.get (i := 3) rfl) rfl rfl) ?_
         refine RL_sg ?_
         refine SG_pick1 (i := 6) (l1 := #[true, true, true, true, true, true, true, false]) (by kernel_rfl) (by kernel_rfl) (by kernel_rfl) ?_
         first | (refine L_storeA hs (i := 0) rfl Try.ti25 rfl rfl (by first | rfl | exact add_lit0 _ _ | exact Addr.add_lit .. | (rw [add_add]; exact add_lit0 _ _)) (by simp) (by first | (simp; done) | simp [Value.oneCell']) ?_; intro w hs; try dsimp only [List.set_cons_succ, List.set_cons_zero, List.cons_append, List.nil_append] at hs) | (refine L_storeA hs (i := 1) rfl Try.ti25 rfl rfl (by first | rfl | exact add_lit0 _ _ | exact Addr.add_lit .. | (rw [add_add]; exact add_lit0 _ _)) (by simp) (by first | (simp; done) | simp [Value.oneCell']) ?_; intro w hs; try dsimp only [List.set_cons_succ, List.set_cons_zero, List.cons_append, List.nil_append] at hs)
         refine RL_sg ?_
         refine SG_pick1 (i := 7) (l1 := #[true, true, true, true, true, true, true, true]) (by kernel_rfl) (by kernel_rfl) (by kernel_rfl) ?_
         first | (refine L_storeA hs (i := 0) rfl Try.ti25 rfl rfl (by first | rfl | exact add_lit0 _ _ | exact Addr.add_lit .. | (rw [add_add]; exact add_lit0 _ _)) (by simp) (by first | (simp; done) | simp [Value.oneCell']) ?_; intro w hs; try dsimp only [List.set_cons_succ, List.set_cons_zero, List.cons_append, List.nil_append] at hs) | (refine L_storeA hs (i := 1) rfl Try.ti25 rfl rfl (by first | rfl | exact add_lit0 _ _ | exact Addr.add_lit .. | (rw [add_add]; exact add_lit0 _ _)) (by simp) (by first | (simp; done) | simp [Value.oneCell']) ?_; intro w hs; try dsimp only [List.set_cons_succ, List.set_cons_zero, List.cons_append, List.nil_append] at hs)
         refine RL_sg ?_
         refine SG_env (fin _ _ _ ⟨hb9, hb10, (by first | exact hs | exact HS.swap (p := (b10, Row 25 [.float .f64 u.1, .float .f64 u.2])) (q := (b9, Row 25 [.float .f64 e.1, .float .f64 e.2])) hs)⟩) (looks_cons rfl (looks_cons rfl (looks_cons rfl (looks_cons rfl (looks_cons rfl (looks_cons rfl (looks_cons rfl (looks_cons rfl (looks_cons rfl (looks_cons rfl looks_nil))))))))))
      ·
       refine L_alloc rfl hs Try.ti25 ?_; intro b9 w hb9 _ hs; replace hs := HS.push hs
       refine RL_sg ?_
       refine SG_pick3 (i := 1) (l1 := #[true, true, true, false, true, false, false, false]) (j := 3) (l2 := #[true, false, true, true, true, false, false, false]) (m := 5) (l3 := #[true, false, true, false, true, true, false, false]) (by kernel_rfl) (by kernel_rfl) (by kernel_rfl) (by kernel_rfl) (by kernel_rfl) ?_ ?_ ?_
       ·
        refine L_loadA rfl Try.agg25 Try.ti25 rfl (by first | exact cellsAt2 (hs.get (i := 1) rfl) rfl rfl | exact cellsAt2 (hs.get (i := 2) rfl) rfl rfl | exact cellsAt2 (hs.get (i := 3) rfl) rfl rfl) ?_
        refine RL_sg ?_
        refine SG_pick2 (i := 3) (l1 := #[true, true, true, true, true, false, false, false]) (j := 5) (l2 := #[true, true, true, false, true, true, false, false]) (by kernel_rfl) (by kernel_rfl) (by kernel_rfl) (by kernel_rfl) ?_ ?_
        ·
         refine L_loadA rfl Try.agg25 Try.ti25 rfl (by first | exact cellsAt2 (hs.get (i := 1) rfl) rfl rfl | exact cellsAt2 (hs.get (i := 2) rfl) rfl rfl | exact cellsAt2 (hs.get (i := 3) rfl) rfl rfl) ?_
         refine RL_sg ?_
         refine SG_pick1 (i := 5) (l1 := #[true, true, true, true, true, true, false, false]) (by kernel_rfl) (by kernel_rfl) (by kernel_rfl) ?_
         refine L_alloc rfl hs Try.ti25 ?_; intro b10 w hb10 _ hs; replace hs := HS.push hs
         refine RL_sg ?_
         refine SG_pick1 (i := 6) (l1 := #[true, true, true, true, true, true, true, false]) (by kernel_rfl) (by kernel_rfl) (by kernel_rfl) ?_
         first | (refine L_storeA hs (i := 0) rfl Try.ti25 rfl rfl (by first | rfl | exact add_lit0 _ _ | exact Addr.add_lit .. | (rw [add_add]; exact add_lit0 _ _)) (by simp) (by first | (simp; done) | simp [Value.oneCell']) ?_; intro w hs; try dsimp only [List.set_cons_succ, List.set_cons_zero, List.cons_append, List.nil_append] at hs) | (refine L_storeA hs (i := 1) rfl Try.ti25 rfl rfl (by first | rfl | exact add_lit0 _ _ | exact Addr.add_lit .. | (rw [add_add]; exact add_lit0 _ _)) (by simp) (by first | (simp; done) | simp [Value.oneCell']) ?_; intro w hs; try dsimp only [List.set_cons_succ, List.set_cons_zero, List.cons_append, List.nil_append] at hs)
         refine RL_sg ?_
         refine SG_pick1 (i := 7) (l1 := #[true, true, true, true, true, true, true, true]) (by kernel_rfl) (by kernel_rfl) (by kernel_rfl) ?_
         first | (refine L_storeA hs (i := 0) rfl Try.ti25 rfl rfl (by first | rfl | exact add_lit0 _ _ | exact Addr.add_lit .. | (rw [add_add]; exact add_lit0 _ _)) (by simp) (by first | (simp; done) | simp [Value.oneCell']) ?_; intro w hs; try dsimp only [List.set_cons_succ, List.set_cons_zero, List.cons_append, List.nil_append] at hs) | (refine L_storeA hs (i := 1) rfl Try.ti25 rfl rfl (by first | rfl | exact add_lit0 _ _ | exact Addr.add_lit .. | (rw [add_add]; exact add_lit0 _ _)) (by simp) (by first | (simp; done) | simp [Value.oneCell']) ?_; intro w hs; try dsimp only [List.set_cons_succ, List.set_cons_zero, List.cons_append, List.nil_append] at hs)
         refine RL_sg ?_
         refine SG_env (fin _ _ _ ⟨hb9, hb10, (by first | exact hs | exact HS.swap (p := (b10, Row 25 [.float .f64 u.1, .float .f64 u.2])) (q := (b9, Row 25 [.float .f64 e.1, .float .f64 e.2])) hs)⟩) (looks_cons rfl (looks_cons rfl (looks_cons rfl (looks_cons rfl (looks_cons rfl (looks_cons rfl (looks_cons rfl (looks_cons rfl (looks_cons rfl (looks_cons rfl looks_nil))))))))))
        ·
         refine L_alloc rfl hs Try.ti25 ?_; intro b10 w hb10 _ hs; replace hs := HS.push hs
         refine RL_sg ?_
         refine SG_pick2 (i := 3) (l1 := #[true, true, true, true, true, true, false, false]) (j := 6) (l2 := #[true, true, true, false, true, true, true, false]) (by kernel_rfl) (by kernel_rfl) (by kernel_rfl) (by kernel_rfl) ?_ ?_
         ·
          refine L_loadA rfl Try.agg25 Try.ti25 rfl (by first | exact cellsAt2 (hs.get (i := 1) rfl) rfl rfl | exact cellsAt2 (hs.get (i := 2) rfl) rfl rfl | exact cellsAt2 (hs.get (i := 3) rfl) rfl rfl) ?_
          refine RL_sg ?_
          refine SG_pick1 (i := 6) (l1 := #[true, true, true, true, true, true, true, false]) (by kernel_rfl) (by kernel_rfl) (by kernel_rfl) ?_
          first | (refine L_storeA hs (i := 0) rfl Try.ti25 rfl rfl (by first | rfl | exact add_lit0 _ _ | exact Addr.add_lit .. | (rw [add_add]; exact add_lit0 _ _)) (by simp) (by first | (simp; done) | simp [Value.oneCell']) ?_; intro w hs; try dsimp only [List.set_cons_succ, List.set_cons_zero, List.cons_append, List.nil_append] at hs) | (refine L_storeA hs (i := 1) rfl Try.ti25 rfl rfl (by first | rfl | exact add_lit0 _ _ | exact Addr.add_lit .. | (rw [add_add]; exact add_lit0 _ _)) (by simp) (by first | (simp; done) | simp [Value.oneCell']) ?_; intro w hs; try dsimp only [List.set_cons_succ, List.set_cons_zero, List.cons_append, List.nil_append] at hs)
          refine RL_sg ?_
          refine SG_pick1 (i := 7) (l1 := #[true, true, true, true, true, true, true, true]) (by kernel_rfl) (by kernel_rfl) (by kernel_rfl) ?_
          first | (refine L_storeA hs (i := 0) rfl Try.ti25 rfl rfl (by first | rfl | exact add_lit0 _ _ | exact Addr.add_lit .. | (rw [add_add]; exact add_lit0 _ _)) (by simp) (by first | (simp; done) | simp [Value.oneCell']) ?_; intro w hs; try dsimp only [List.set_cons_succ, List.set_cons_zero, List.cons_append, List.nil_append] at hs) | (refine L_storeA hs (i := 1) rfl Try.ti25 rfl rfl (by first | rfl | exact add_lit0 _ _ | exact Addr.add_lit .. | (rw [add_add]; exact add_lit0 _ _)) (by simp) (by first | (simp; done) | simp [Value.oneCell']) ?_; intro w hs; try dsimp only [List.set_cons_succ, List.set_cons_zero, List.cons_append, List.nil_append] at hs)
          refine RL_sg ?_
          refine SG_env (fin _ _ _ ⟨hb9, hb10, (by first | exact hs | exact HS.swap (p := (b10, Row 25 [.float .f64 u.1, .float .f64 u.2])) (q := (b9, Row 25 [.float .f64 e.1, .float .f64 e.2])) hs)⟩) (looks_cons rfl (looks_cons rfl (looks_cons rfl (looks_cons rfl (looks_cons rfl (looks_cons rfl (looks_cons rfl (looks_cons rfl (looks_cons rfl (looks_cons rfl looks_nil))))))))))
         ·
          first | (refine L_storeA hs (i := 0) rfl Try.ti25 rfl rfl (by first | rfl | exact add_lit0 _ _ | exact Addr.add_lit .. | (rw [add_add]; exact add_lit0 _ _)) (by simp) (by first | (simp; done) | simp [Value.oneCell']) ?_; intro w hs; try dsimp only [List.set_cons_succ, List.set_cons_zero, List.cons_append, List.nil_append] at hs) | (refine L_storeA hs (i := 1) rfl Try.ti25 rfl rfl (by first | rfl | exact add_lit0 _ _ | exact Addr.add_lit .. | (rw [add_add]; exact add_lit0 _ _)) (by simp) (by first | (simp; done) | simp [Value.oneCell']) ?_; intro w hs; try dsimp only [List.set_cons_succ, List.set_cons_zero, List.cons_append, List.nil_append] at hs)
          refine RL_sg ?_
          refine SG_pick1 (i := 3) (l1 := #[true, true, true, true, true, true, true, false]) (by kernel_rfl) (by kernel_rfl) (by kernel_rfl) ?_
          refine L_loadA rfl Try.agg25 Try.ti25 rfl (by first | exact cellsAt2 (hs.get (i := 1) rfl) rfl rfl | exact cellsAt2 (hs.get (i := 2) rfl) rfl rfl | exact cellsAt2 (hs.get (i := 3) rfl) rfl rfl) ?_
          refine RL_sg ?_
          refine SG_pick1 (i := 7) (l1 := #[true, true, true, true, true, true, true, true]) (by kernel_rfl) (by kernel_rfl) (by kernel_rfl) ?_
          first | (refine L_storeA hs (i := 0) rfl Try.ti25 rfl rfl (by first | rfl | exact add_lit0 _ _ | exact Addr.add_lit .. | (rw [add_add]; exact add_lit0 _ _)) (by simp) (by first | (simp; done) | simp [Value.oneCell']) ?_; intro w hs; try dsimp only [List.set_cons_succ, List.set_cons_zero, List.cons_append, List.nil_append] at hs) | (refine L_storeA hs (i := 1) rfl Try.ti25 rfl rfl (by first | rfl | exact add_lit0 _ _ | exact Addr.add_lit .. | (rw [add_add]; exact add_lit0 _ _)) (by simp) (by first | (simp; done) | simp [Value.oneCell']) ?_; intro w hs; try dsimp only [List.set_cons_succ, List.set_cons_zero, List.cons_append, List.nil_append] at hs)
          refine RL_sg ?_
          refine SG_env (fin _ _ _ ⟨hb9, hb10, (by first | exact hs | exact HS.swap (p := (b10, Row 25 [.float .f64 u.1, .float .f64 u.2])) (q := (b9, Row 25 [.float .f64 e.1, .float .f64 e.2])) hs)⟩) (looks_cons rfl (looks_cons rfl (looks_cons rfl (looks_cons rfl (looks_cons rfl (looks_cons rfl (looks_cons rfl (looks_cons rfl (looks_cons rfl (looks_cons rfl looks_nil))))))))))
       ·
        refine L_loadA rfl Try.agg25 Try.ti25 rfl (by first | exact cellsAt2 (hs.get (i := 1) rfl) rfl rfl | exact cellsAt2 (hs.get (i := 2) rfl) rfl rfl | exact cellsAt2 (hs.get (i := 3) rfl) rfl rfl) ?_
        refine RL_sg ?_
        refine SG_pick2 (i := 1) (l1 := #[true, true, true, true, true, false, false, false]) (j := 5) (l2 := #[true, false, true, true, true, true, false, false]) (by kernel_rfl) (by kernel_rfl) (by kernel_rfl) (by kernel_rfl) ?_ ?_
        ·
         refine L_loadA rfl Try.agg25 Try.ti25 rfl (by first | exact cellsAt2 (hs.get (i := 1) rfl) rfl rfl | exact cellsAt2 (hs.get (i := 2) rfl) rfl rfl | exact cellsAt2 (hs.get (i := 3) rfl) rfl rfl) ?_
         refine RL_sg ?_
         refine SG_pick1 (i := 5) (l1 := #[true, true, true, true, true, true, false, false]) (by kernel_rfl) (by kernel_rfl) (by kernel_rfl) ?_
         refine L_alloc rfl hs Try.ti25 ?_; intro b10 w hb10 _ hs; replace hs := HS.push hs
         refine RL_sg ?_
         refine SG_pick1 (i := 6) (l1 := #[true, true, true, true, true, true, true, false]) (by kernel_rfl) (by kernel_rfl) (by kernel_rfl) ?_
         first | (refine L_storeA hs (i := 0) rfl Try.ti25 rfl rfl (by first | rfl | exact add_lit0 _ _ | exact Addr.add_lit .. | (rw [add_add]; exact add_lit0 _ _)) (by simp) (by first | (simp; done) | simp [Value.oneCell']) ?_; intro w hs; try dsimp only [List.set_cons_succ, List.set_cons_zero, List.cons_append, List.nil_append] at hs) | (refine L_storeA hs (i := 1) rfl Try.ti25 rfl rfl (by first | rfl | exact add_lit0 _ _ | exact Addr.add_lit .. | (rw [add_add]; exact add_lit0 _ _)) (by simp) (by first | (simp; done) | simp [Value.oneCell']) ?_; intro w hs; try dsimp only [List.set_cons_succ, List.set_cons_zero, List.cons_append, List.nil_append] at hs)
         refine RL_sg ?_
         refine SG_pick1 (i := 7) (l1 := #[true, true, true, true, true, true, true, true]) (by kernel_rfl) (by kernel_rfl) (by kernel_rfl) ?_
         first | (refine L_storeA hs (i := 0) rfl Try.ti25 rfl rfl (by first | rfl | exact add_lit0 _ _ | exact Addr.add_lit .. | (rw [add_add]; exact add_lit0 _ _)) (by simp) (by first | (simp; done) | simp [Value.oneCell']) ?_; intro w hs; try dsimp only [List.set_cons_succ, List.set_cons_zero, List.cons_append, List.nil_append] at hs) | (refine L_storeA hs (i := 1) rfl Try.ti25 rfl rfl (by first | rfl | exact add_lit0 _ _ | exact Addr.add_lit .. | (rw [add_add]; exact add_lit0 _ _)) (by simp) (by first | (simp; done) | simp [Value.oneCell']) ?_; intro w hs; try dsimp only [List.set_cons_succ, List.set_cons_zero, List.cons_append, List.nil_append] at hs)
         refine RL_sg ?_
         refine SG_env (fin _ _ _ ⟨hb9, hb10, (by first | exact hs | exact HS.swap (p := (b10, Row 25 [.float .f64 u.1, .float .f64 u.2])) (q := (b9, Row 25 [.float .f64 e.1, .float .f64 e.2])) hs)⟩) (looks_cons rfl (looks_cons rfl (looks_cons rfl (looks_cons rfl (looks_cons rfl (looks_cons rfl (looks_cons rfl (looks_cons rfl (looks_cons rfl (looks_cons rfl looks_nil))))))))))
        ·
         refine L_alloc rfl hs Try.ti25 ?_; intro b10 w hb10 _ hs; replace hs := HS.push hs
         refine RL_sg ?_
         refine SG_pick1 (i := 1) (l1 := #[true, true, true, true, true, true, false, false]) (by kernel_rfl) (by kernel_rfl) (by kernel_rfl) ?_
         refine L_loadA rfl Try.agg25 Try.ti25 rfl (by first | exact cellsAt2 (hs.get (i := 1) rfl) rfl rfl | exact cellsAt2 (hs.get (i := 2) rfl) rfl rfl | exact cellsAt2 (hs.get (i := 3) rfl) rfl rfl) ?_
         refine RL_sg ?_
         refine SG_pick1 (i := 6) (l1 := #[true, true, true, true, true, true, true, false]) (by kernel_rfl) (by kernel_rfl) (by kernel_rfl) ?_
         first | (refine L_storeA hs (i := 0) rfl Try.ti25 rfl rfl (by first | rfl | exact add_lit0 _ _ | exact Addr.add_lit .. | (rw [add_add]; exact add_lit0 _ _)) (by simp) (by first | (simp; done) | simp [Value.oneCell']) ?_; intro w hs; try dsimp only [List.set_cons_succ, List.set_cons_zero, List.cons_append, List.nil_append] at hs) | (refine L_storeA hs (i := 1) rfl Try.ti25 rfl rfl (by first | rfl | exact add_lit0 _ _ | exact Addr.add_lit .. | (rw [add_add]; exact add_lit0 _ _)) (by simp) (by first | (simp; done) | simp [Value.oneCell']) ?_; intro w hs; try dsimp only [List.set_cons_succ, List.set_cons_zero, List.cons_append, List.nil_append] at hs)
         refine RL_sg ?_
         refine SG_pick1 (i := 7) (l1 := #[true, true, true, true, true, true, true, true]) (by kernel_rfl) (by kernel_rfl) (by kernel_rfl) ?_
         first | (refine L_storeA hs (i := 0) rfl Try.ti25 rfl rfl (by first | rfl | exact add_lit0 _ _ | exact Addr.add_lit .. | (rw [add_add]; exact add_lit0 _ _)) (by simp) (by first | (simp; done) | simp [Value.oneCell']) ?_; intro w hs; try dsimp only [List.set_cons_succ, List.set_cons_zero, List.cons_append, List.nil_append] at hs) | (refine L_storeA hs (i := 1) rfl Try.ti25 rfl rfl (by first | rfl | exact add_lit0 _ _ | exact Addr.add_lit .. | (rw [add_add]; exact add_lit0 _ _)) (by simp) (by first | (simp; done) | simp [Value.oneCell']) ?_; intro w hs; try dsimp only [List.set_cons_succ, List.set_cons_zero, List.cons_append, List.nil_append] at hs)
         refine RL_sg ?_
         refine SG_env (fin _ _ _ ⟨hb9, hb10, (by first | exact hs | exact HS.swap (p := (b10, Row 25 [.float .f64 u.1, .float .f64 u.2])) (q := (b9, Row 25 [.float .f64 e.1, .float .f64 e.2])) hs)⟩) (looks_cons rfl (looks_cons rfl (looks_cons rfl (looks_cons rfl (looks_cons rfl (looks_cons rfl (looks_cons rfl (looks_cons rfl (looks_cons rfl (looks_cons rfl looks_nil))))))))))
       ·
        refine L_alloc rfl hs Try.ti25 ?_; intro b10 w hb10 _ hs; replace hs := HS.push hs
        refine RL_sg ?_
        refine SG_pick2 (i := 1) (l1 := #[true, true, true, false, true, true, false, false]) (j := 3) (l2 := #[true, false, true, true, true, true, false, false]) (by kernel_rfl) (by kernel_rfl) (by kernel_rfl) (by kernel_rfl) ?_ ?_
        ·
         refine L_loadA rfl Try.agg25 Try.ti25 rfl (by first | exact cellsAt2 (hs.get (i := 1) rfl) rfl rfl | exact cellsAt2 (hs.get (i := 2) rfl) rfl rfl | exact cellsAt2 (hs.get (i := 3) rfl) rfl rfl) ?_
         refine RL_sg ?_
         refine SG_pick2 (i := 3) (l1 := #[true, true, true, true, true, true, false, false]) (j := 6) (l2 := #[true, true, true, false, true, true, true, false]) (by kernel_rfl) (by kernel_rfl) (by kernel_rfl) (by kernel_rfl) ?_ ?_
         ·
          refine L_loadA rfl Try.agg25 Try.ti25 rfl (by first | exact cellsAt2 (hs.get (i := 1) rfl) rfl rfl | exact cellsAt2 (hs.get (i := 2) rfl) rfl rfl | exact cellsAt2 (hs.get (i := 3) rfl) rfl rfl) ?_
          refine RL_sg ?_
          refine SG_pick1 (i := 6) (l1 := #[true, true, true, true, true, true, true, false]) (by kernel_rfl) (by kernel_rfl) (by kernel_rfl) ?_
          first | (refine L_storeA hs (i := 0) rfl Try.ti25 rfl rfl (by first | rfl | exact add_lit0 _ _ | exact Addr.add_lit .. | (rw [add_add]; exact add_lit0 _ _)) (by simp) (by first | (simp; done) | simp [Value.oneCell']) ?_; intro w hs; try dsimp only [List.set_cons_succ, List.set_cons_zero, List.cons_append, List.nil_append] at hs) | (refine L_storeA hs (i := 1) rfl Try.ti25 rfl rfl (by first | rfl | exact add_lit0 _ _ | exact Addr.add_lit .. | (rw [add_add]; exact add_lit0 _ _)) (by simp) (by first | (simp; done) | simp [Value.oneCell']) ?_; intro w hs; try dsimp only [List.set_cons_succ, List.set_cons_zero, List.cons_append, List.nil_append] at hs)
          refine RL_sg ?_
          refine SG_pick1 (i := 7) (l1 := #[true, true, true, true, true, true, true, true]) (by kernel_rfl) (by kernel_rfl) (by kernel_rfl) ?_
          first | (refine L_storeA hs (i := 0) rfl Try.ti25 rfl rfl (by first | rfl | exact add_lit0 _ _ | exact Addr.add_lit .. | (rw [add_add]; exact add_lit0 _ _)) (by simp) (by first | (simp; done) | simp [Value.oneCell']) ?_; intro w hs; try dsimp only [List.set_cons_succ, List.set_cons_zero, List.cons_append, List.nil_append] at hs) | (refine L_storeA hs (i := 1) rfl Try.ti25 rfl rfl (by first | rfl | exact add_lit0 _ _ | exact Addr.add_lit .. | (rw [add_add]; exact add_lit0 _ _)) (by simp) (by first | (simp; done) | simp [Value.oneCell']) ?_; intro w hs; try dsimp only [List.set_cons_succ, List.set_cons_zero, List.cons_append, List.nil_append] at hs)
          refine RL_sg ?_
          refine SG_env (fin _ _ _ ⟨hb9, hb10, (by first | exact hs | exact HS.swap (p := (b10, Row 25 [.float .f64 u.1, .float .f64 u.2])) (q := (b9, Row 25 [.float .f64 e.1, .float .f64 e.2])) hs)⟩) (looks_cons rfl (looks_cons rfl (looks_cons rfl (looks_cons rfl (looks_cons rfl (looks_cons rfl (looks_cons rfl (looks_cons rfl (looks_cons rfl (looks_cons rfl looks_nil))))))))))
         ·
          first | (refine L_storeA hs (i := 0) rfl Try.ti25 rfl rfl (by first | rfl | exact add_lit0 _ _ | exact Addr.add_lit .. | (rw [add_add]; exact add_lit0 _ _)) (by simp) (by first | (simp; done) | simp [Value.oneCell']) ?_; intro w hs; try dsimp only [List.set_cons_succ, List.set_cons_zero, List.cons_append, List.nil_append] at hs) | (refine L_storeA hs (i := 1) rfl Try.ti25 rfl rfl (by first | rfl | exact add_lit0 _ _ | exact Addr.add_lit .. | (rw [add_add]; exact add_lit0 _ _)) (by simp) (by first | (simp; done) | simp [Value.oneCell']) ?_; intro w hs; try dsimp only [List.set_cons_succ, List.set_cons_zero, List.cons_append, List.nil_append] at hs)
          refine RL_sg ?_
          refine SG_pick1 (i := 3) (l1 := #[true, true, true, true, true, true, true, false]) (by kernel_rfl) (by kernel_rfl) (by kernel_rfl) ?_
          refine L_loadA rfl Try.agg25 Try.ti25 rfl (by first | exact cellsAt2 (hs.get (i := 1) rfl) rfl rfl | exact cellsAt2 (hs.get (i := 2) rfl) rfl rfl | exact cellsAt2 (hs.get (i := 3) rfl) rfl rfl) ?_
          refine RL_sg ?_
          refine SG_pick1 (i := 7) (l1 := #[true, true, true, true, true, true, true, true]) (by kernel_rfl) (by kernel_rfl) (by kernel_rfl) ?_
          first | (refine L_storeA hs (i := 0) rfl Try.ti25 rfl rfl (by first | rfl | exact add_lit0 _ _ | exact Addr.add_lit .. | (rw [add_add]; exact add_lit0 _ _)) (by simp) (by first | (simp; done) | simp [Value.oneCell']) ?_; intro w hs; try dsimp only [List.set_cons_succ, List.set_cons_zero, List.cons_append, List.nil_append] at hs) | (refine L_storeA hs (i := 1) rfl Try.ti25 rfl rfl (by first | rfl | exact add_lit0 _ _ | exact Addr.add_lit .. | (rw [add_add]; exact add_lit0 _ _)) (by simp) (by first | (simp; done) | simp [Value.oneCell']) ?_; intro w hs; try dsimp only [List.set_cons_succ, List.set_cons_zero, List.cons_append, List.nil_append] at hs)
          refine RL_sg ?_
          refine SG_env (fin _ _ _ ⟨hb9, hb10, (by first | exact hs | exact HS.swap (p := (b10, Row 25 [.float .f64 u.1, .float .f64 u.2])) (q := (b9, Row 25 [.float .f64 e.1, .float .f64 e.2])) hs)⟩) (looks_cons rfl (looks_cons rfl (looks_cons rfl (looks_cons rfl (looks_cons rfl (looks_cons rfl (looks_cons rfl (looks_cons rfl (looks_cons rfl (looks_cons rfl looks_nil))))))))))
        ·
         refine L_loadA rfl Try.agg25 Try.ti25 rfl (by first | exact cellsAt2 (hs.get (i := 1) rfl) rfl rfl | exact cellsAt2 (hs.get (i := 2) rfl) rfl rfl | exact cellsAt2 (hs.get (i := 3) rfl) rfl rfl) ?_
         refine RL_sg ?_
         refine SG_pick1 (i := 1) (l1 := #[true, true, true, true, true, true, false, false]) (by kernel_rfl) (by kernel_rfl) (by kernel_rfl) ?_
         refine L_loadA rfl Try.agg25 Try.ti25 rfl (by first | exact cellsAt2 (hs.get (i := 1) rfl) rfl rfl | exact cellsAt2 (hs.get (i := 2) rfl) rfl rfl | exact cellsAt2 (hs.get (i := 3) rfl) rfl rfl) ?_
         refine RL_sg ?_
         refine SG_pick1 (i := 6) (l1 := #[true, true, true, true, true, true, true, false]) (by kernel_rfl) (by kernel_rfl) (by kernel_rfl) ?_
         first | (refine L_storeA hs (i := 0) rfl Try.ti25 rfl rfl (by first | rfl | exact add_lit0 _ _ | exact Addr.add_lit .. | (rw [add_add]; exact add_lit0 _ _)) (by simp) (by first | (simp; done) | simp [Value.oneCell']) ?_; intro w hs; try dsimp only [List.set_cons_succ, List.set_cons_zero, List.cons_append, List.nil_append] at hs) | (refine L_storeA hs (i := 1) rfl Try.ti25 rfl rfl (by first | rfl | exact add_lit0 _ _ | exact Addr.add_lit .. | (rw [add_add]; exact add_lit0 _ _)) (by simp) (by first | (simp; done) | simp [Value.oneCell']) ?_; intro w hs; try dsimp only [List.set_cons_succ, List.set_cons_zero, List.cons_append, List.nil_append] at hs)
         refine RL_sg ?_
         refine SG_pick1 (i := 7) (l1 := #[true, true, true, true, true, true, true, true]) (by kernel_rfl) (by kernel_rfl) (by kernel_rfl) ?_
         first | (refine L_storeA hs (i := 0) rfl Try.ti25 rfl rfl (by first | rfl | exact add_lit0 _ _ | exact Addr.add_lit .. | (rw [add_add]; exact add_lit0 _ _)) (by simp) (by first | (simp; done) | simp [Value.oneCell']) ?_; intro w hs; try dsimp only [List.set_cons_succ, List.set_cons_zero, List.cons_append, List.nil_append] at hs) | (refine L_storeA hs (i := 1) rfl Try.ti25 rfl rfl (by first | rfl | exact add_lit0 _ _ | exact Addr.add_lit .. | (rw [add_add]; exact add_lit0 _ _)) (by simp) (by first | (simp; done) | simp [Value.oneCell']) ?_; intro w hs; try dsimp only [List.set_cons_succ, List.set_cons_zero, List.cons_append, List.nil_append] at hs)
         refine RL_sg ?_
         refine SG_env (fin _ _ _ ⟨hb9, hb10, (by first | exact hs | exact HS.swap (p := (b10, Row 25 [.float .f64 u.1, .float .f64 u.2])) (q := (b9, Row 25 [.float .f64 e.1, .float .f64 e.2])) hs)⟩) (looks_cons rfl (looks_cons rfl (looks_cons rfl (looks_cons rfl (looks_cons rfl (looks_cons rfl (looks_cons rfl (looks_cons rfl (looks_cons rfl (looks_cons rfl looks_nil))))))))))
      ·
       refine L_alloc rfl hs Try.ti25 ?_; intro b10 w hb10 _ hs; replace hs := HS.push hs
       refine RL_sg ?_
       refine SG_pick3 (i := 1) (l1 := #[true, true, true, false, false, true, false, false]) (j := 3) (l2 := #[true, false, true, true, false, true, false, false]) (m := 4) (l3 := #[true, false, true, false, true, true, false, false]) (by kernel_rfl) (by kernel_rfl) (by kernel_rfl) (by kernel_rfl) (by kernel_rfl) ?_ ?_ ?_
       ·
        refine L_loadA rfl Try.agg25 Try.ti25 rfl (by first | exact cellsAt2 (hs.get (i := 1) rfl) rfl rfl | exact cellsAt2 (hs.get (i := 2) rfl) rfl rfl | exact cellsAt2 (hs.get (i := 3) rfl) rfl rfl) ?_
        refine RL_sg ?_
        refine SG_pick2 (i := 3) (l1 := #[true, true, true, true, false, true, false, false]) (j := 4) (l2 := #[true, true, true, false, true, true, false, false]) (by kernel_rfl) (by kernel_rfl) (by kernel_rfl) (by kernel_rfl) ?_ ?_
        ·
         refine L_loadA rfl Try.agg25 Try.ti25 rfl (by first | exact cellsAt2 (hs.get (i := 1) rfl) rfl rfl | exact cellsAt2 (hs.get (i := 2) rfl) rfl rfl | exact cellsAt2 (hs.get (i := 3) rfl) rfl rfl) ?_
         refine RL_sg ?_
         refine SG_pick1 (i := 4) (l1 := #[true, true, true, true, true, true, false, false]) (by kernel_rfl) (by kernel_rfl) (by kernel_rfl) ?_
         refine L_alloc rfl hs Try.ti25 ?_; intro b9 w hb9 _ hs; replace hs := HS.push hs
         refine RL_sg ?_
         refine SG_pick1 (i := 6) (l1 := #[true, true, true, true, true, true, true, false]) (by kernel_rfl) (by kernel_rfl) (by kernel_rfl) ?_
         first | (refine L_storeA hs (i := 0) rfl Try.ti25 rfl rfl (by first | rfl | exact add_lit0 _ _ | exact Addr.add_lit .. | (rw [add_add]; exact add_lit0 _ _)) (by simp) (by first | (simp; done) | simp [Value.oneCell']) ?_; intro w hs; try dsimp only [List.set_cons_succ, List.set_cons_zero, List.cons_append, List.nil_append] at hs) | (refine L_storeA hs (i := 1) rfl Try.ti25 rfl rfl (by first | rfl | exact add_lit0 _ _ | exact Addr.add_lit .. | (rw [add_add]; exact add_lit0 _ _)) (by simp) (by first | (simp; done) | simp [Value.oneCell']) ?_; intro w hs; try dsimp only [List.set_cons_succ, List.set_cons_zero, List.cons_append, List.nil_append] at hs)
         refine RL_sg ?_
         refine SG_pick1 (i := 7) (l1 := #[true, true, true, true, true, true, true, true]) (by kernel_rfl) (by kernel_rfl) (by kernel_rfl) ?_
         first | (refine L_storeA hs (i := 0) rfl Try.ti25 rfl rfl (by first | rfl | exact add_lit0 _ _ | exact Addr.add_lit .. | (rw [add_add]; exact add_lit0 _ _)) (by simp) (by first | (simp; done) | simp [Value.oneCell']) ?_; intro w hs; try dsimp only [List.set_cons_succ, List.set_cons_zero, List.cons_append, List.nil_append] at hs) | (refine L_storeA hs (i := 1) rfl Try.ti25 rfl rfl (by first | rfl | exact add_lit0 _ _ | exact Addr.add_lit .. | (rw [add_add]; exact add_lit0 _ _)) (by simp) (by first | (simp; done) | simp [Value.oneCell']) ?_; intro w hs; try dsimp only [List.set_cons_succ, List.set_cons_zero, List.cons_append, List.nil_append] at hs)
         refine RL_sg ?_
         refine SG_env (fin _ _ _ ⟨hb9, hb10, (by first | exact hs | exact HS.swap (p := (b10, Row 25 [.float .f64 u.1, .float .f64 u.2])) (q := (b9, Row 25 [.float .f64 e.1, .float .f64 e.2])) hs)⟩) (looks_cons rfl (looks_cons rfl (looks_cons rfl (looks_cons rfl (looks_cons rfl (looks_cons rfl (looks_cons rfl (looks_cons rfl (looks_cons rfl (looks_cons rfl looks_nil))))))))))
        ·
         refine L_alloc rfl hs Try.ti25 ?_; intro b9 w hb9 _ hs; replace hs := HS.push hs
         refine RL_sg ?_
         refine SG_pick2 (i := 3) (l1 := #[true, true, true, true, true, true, false, false]) (j := 6) (l2 := #[true, true, true, false, true, true, true, false]) (by kernel_rfl) (by kernel_rfl) (by kernel_rfl) (by kernel_rfl) ?_ ?_
         ·
          refine L_loadA rfl Try.agg25 Try.ti25 rfl (by first | exact cellsAt2 (hs.get (i := 1) rfl) rfl rfl | exact cellsAt2 (hs.get (i := 2) rfl) rfl rfl | exact cellsAt2 (hs.get (i := 3) rfl) rfl rfl) ?_
          refine RL_sg ?_
          refine SG_pick1 (i := 6) (l1 := #[true, true, true, true, true, true, true, false]) (by kernel_rfl) (by kernel_rfl) (by kernel_rfl) ?_
          first | (refine L_storeA hs (i := 0) rfl Try.ti25 rfl rfl (by first | rfl | exact add_lit0 _ _ | exact Addr.add_lit .. | (rw [add_add]; exact add_lit0 _ _)) (by simp) (by first | (simp; done) | simp [Value.oneCell']) ?_; intro w hs; try dsimp only [List.set_cons_succ, List.set_cons_zero, List.cons_append, List.nil_append] at hs) | (refine L_storeA hs (i := 1) rfl Try.ti25 rfl rfl (by first | rfl | exact add_lit0 _ _ | exact Addr.add_lit .. | (rw [add_add]; exact add_lit0 _ _)) (by simp) (by first | (simp; done) | simp [Value.oneCell']) ?_; intro w hs; try dsimp only [List.set_cons_succ, List.set_cons_zero, List.cons_append, List.nil_append] at hs)
          refine RL_sg ?_
          refine SG_pick1 (i := 7) (l1 := #[true, true, true, true, true, true, true, true]) (by kernel_rfl) (by kernel_rfl) (by kernel_rfl) ?_
          first | (refine L_storeA hs (i := 0) rfl Try.ti25 rfl rfl (by first | rfl | exact add_lit0 _ _ | exact Addr.add_lit .. | (rw [add_add]; exact add_lit0 _ _)) (by simp) (by first | (simp; done) | simp [Value.oneCell']) ?_; intro w hs; try dsimp only [List.set_cons_succ, List.set_cons_zero, List.cons_append, List.nil_append] at hs) | (refine L_storeA hs (i := 1) rfl Try.ti25 rfl rfl (by first | rfl | exact add_lit0 _ _ | exact Addr.add_lit .. | (rw [add_add]; exact add_lit0 _ _)) (by simp) (by first | (simp; done) | simp [Value.oneCell']) ?_; intro w hs; try dsimp only [List.set_cons_succ, List.set_cons_zero, List.cons_append, List.nil_append] at hs)
          refine RL_sg ?_
          refine SG_env (fin _ _ _ ⟨hb9, hb10, (by first | exact hs | exact HS.swap (p := (b10, Row 25 [.float .f64 u.1, .float .f64 u.2])) (q := (b9, Row 25 [.float .f64 e.1, .float .f64 e.2])) hs)⟩) (looks_cons rfl (looks_cons rfl (looks_cons rfl (looks_cons rfl (looks_cons rfl (looks_cons rfl (looks_cons rfl (looks_cons rfl (looks_cons rfl (looks_cons rfl looks_nil))))))))))
         ·
          first | (refine L_storeA hs (i := 0) rfl Try.ti25 rfl rfl (by first | rfl | exact add_lit0 _ _ | exact Addr.add_lit .. | (rw [add_add]; exact add_lit0 _ _)) (by simp) (by first | (simp; done) | simp [Value.oneCell']) ?_; intro w hs; try dsimp only [List.set_cons_succ, List.set_cons_zero, List.cons_append, List.nil_append] at hs) | (refine L_storeA hs (i := 1) rfl Try.ti25 rfl rfl (by first | rfl | exact add_lit0 _ _ | exact Addr.add_lit .. | (rw [add_add]; exact add_lit0 _ _)) (by simp) (by first | (simp; done) | simp [Value.oneCell']) ?_; intro w hs; try dsimp only [List.set_cons_succ, List.set_cons_zero, List.cons_append, List.nil_append] at hs)
          refine RL_sg ?_
          refine SG_pick1 (i := 3) (l1 := #[true, true, true, true, true, true, true, false]) (by kernel_rfl) (by kernel_rfl) (by kernel_rfl) ?_
          refine L_loadA rfl Try.agg25 Try.ti25 rfl (by first | exact cellsAt2 (hs.get (i := 1) rfl) rfl rfl | exact cellsAt2 (hs.get (i := 2) rfl) rfl rfl | exact cellsAt2 (hs.get (i := 3) rfl) rfl rfl) ?_
          refine RL_sg ?_
          refine SG_pick1 (i := 7) (l1 := #[true, true, true, true, true, true, true, true]) (by kernel_rfl) (by kernel_rfl) (by kernel_rfl) ?_
          first | (refine L_storeA hs (i := 0) rfl Try.ti25 rfl rfl (by first | rfl | exact add_lit0 _ _ | exact Addr.add_lit .. | (rw [add_add]; exact add_lit0 _ _)) (by simp) (by first | (simp; done) | simp [Value.oneCell']) ?_; intro w hs; try dsimp only [List.set_cons_succ, List.set_cons_zero, List.cons_append, List.nil_append] at hs) | (refine L_storeA hs (i := 1) rfl Try.ti25 rfl rfl (by first | rfl | exact add_lit0 _ _ | exact Addr.add_lit .. | (rw [add_add]; exact add_lit0 _ _)) (by simp) (by first | (simp; done) | simp [Value.oneCell']) ?_; intro w hs; try dsimp only [List.set_cons_succ, List.set_cons_zero, List.cons_append, List.nil_append] at hs)
          refine RL_sg ?_
          refine SG_env (fin _ _ _ ⟨hb9, hb10, (by first | exact hs | exact HS.swap (p := (b10, Row 25 [.float .f64 u.1, .float .f64 u.2])) (q := (b9, Row 25 [.float .f64 e.1, .float .f64 e.2])) hs)⟩) (looks_cons rfl (looks_cons rfl (looks_cons rfl (looks_cons rfl (looks_cons rfl (looks_cons rfl (looks_cons rfl (looks_cons rfl (looks_cons rfl (looks_cons rfl looks_nil))))))))))
       ·
        refine L_loadA rfl Try.agg25 Try.ti25 rfl (by first | exact cellsAt2 (hs.get (i := 1) rfl) rfl rfl | exact cellsAt2 (hs.get (i := 2) rfl) rfl rfl | exact cellsAt2 (hs.get (i := 3) rfl) rfl rfl) ?_
        refine RL_sg ?_
        refine SG_pick2 (i := 1) (l1 := #[true, true, true, true, false, true, false, false]) (j := 4) (l2 := #[true, false, true, true, true, true, false, false]) (by kernel_rfl) (by kernel_rfl) (by kernel_rfl) (by kernel_rfl) ?_ ?_
        ·
         refine L_loadA rfl Try.agg25 Try.ti25 rfl (by first | exact cellsAt2 (hs.get (i := 1) rfl) rfl rfl | exact cellsAt2 (hs.get (i := 2) rfl) rfl rfl | exact cellsAt2 (hs.get (i := 3) rfl) rfl rfl) ?_
         refine RL_sg ?_
         refine SG_pick1 (i := 4) (l1 := #[true, true, true, true, true, true, false, false]) (by kernel_rfl) (by kernel_rfl) (by kernel_rfl) ?_
         refine L_alloc rfl hs Try.ti25 ?_; intro b9 w hb9 _ hs; replace hs := HS.push hs
         refine RL_sg ?_
         refine SG_pick1 (i := 6) (l1 := #[true, true, true, true, true, true, true, false]) (by kernel_rfl) (by kernel_rfl) (by kernel_rfl) ?_
         first | (refine L_storeA hs (i := 0) rfl Try.ti25 rfl rfl (by first | rfl | exact add_lit0 _ _ | exact Addr.add_lit .. | (rw [add_add]; exact add_lit0 _ _)) (by simp) (by first | (simp; done) | simp [Value.oneCell']) ?_; intro w hs; try dsimp only [List.set_cons_succ, List.set_cons_zero, List.cons_append, List.nil_append] at hs) | (refine L_storeA hs (i := 1) rfl Try.ti25 rfl rfl (by first | rfl | exact add_lit0 _ _ | exact Addr.add_lit .. | (rw [add_add]; exact add_lit0 _ _)) (by simp) (by first | (simp; done) | simp [Value.oneCell']) ?_; intro w hs; try dsimp only [List.set_cons_succ, List.set_cons_zero, List.cons_append, List.nil_append] at hs)
         refine RL_sg ?_
         refine SG_pick1 (i := 7) (l1 := #[true, true, true, true, true, true, true, true]) (by kernel_rfl) (by kernel_rfl) (by kernel_rfl) ?_
         first | (refine L_storeA hs (i := 0) rfl Try.ti25 rfl rfl (by first | rfl | exact add_lit0 _ _ | exact Addr.add_lit .. | (rw [add_add]; exact add_lit0 _ _)) (by simp) (by first | (simp; done) | simp [Value.oneCell']) ?_; intro w hs; try dsimp only [List.set_cons_succ, List.set_cons_zero, List.cons_append, List.nil_append] at hs) | (refine L_storeA hs (i := 1) rfl Try.ti25 rfl rfl (by first | rfl | exact add_lit0 _ _ | exact Addr.add_lit .. | (rw [add_add]; exact add_lit0 _ _)) (by simp) (by first | (simp; done) | simp [Value.oneCell']) ?_; intro w hs; try dsimp only [List.set_cons_succ, List.set_cons_zero, List.cons_append, List.nil_append] at hs)
         refine RL_sg ?_
         refine SG_env (fin _ _ _ ⟨hb9, hb10, (by first | exact hs | exact HS.swap (p := (b10, Row 25 [.float .f64 u.1, .float .f64 u.2])) (q := (b9, Row 25 [.float .f64 e.1, .float .f64 e.2])) hs)⟩) (looks_cons rfl (looks_cons rfl (looks_cons rfl (looks_cons rfl (looks_cons rfl (looks_cons rfl (looks_cons rfl (looks_cons rfl (looks_cons rfl (looks_cons rfl looks_nil))))))))))
        ·
         refine L_alloc rfl hs Try.ti25 ?_; intro b9 w hb9 _ hs; replace hs := HS.push hs
         refine RL_sg ?_
         refine SG_pick1 (i := 1) (l1 := #[true, true, true, true, true, true, false, false]) (by kernel_rfl) (by kernel_rfl) (by kernel_rfl) ?_
         refine L_loadA rfl Try.agg25 Try.ti25 rfl (by first | exact cellsAt2 (hs.get (i := 1) rfl) rfl rfl | exact cellsAt2 (hs.get (i := 2) rfl) rfl rfl | exact cellsAt2 (hs.get (i := 3) rfl) rfl rfl) ?_
         refine RL_sg ?_
         refine SG_pick1 (i := 6) (l1 := #[true, true, true, true, true, true, true, false]) (by kernel_rfl) (by kernel_rfl) (by kernel_rfl) ?_
         first | (refine L_storeA hs (i := 0) rfl Try.ti25 rfl rfl (by first | rfl | exact add_lit0 _ _ | exact Addr.add_lit .. | (rw [add_add]; exact add_lit0 _ _)) (by simp) (by first | (simp; done) | simp [Value.oneCell']) ?_; intro w hs; try dsimp only [List.set_cons_succ, List.set_cons_zero, List.cons_append, List.nil_append] at hs) | (refine L_storeA hs (i := 1) rfl Try.ti25 rfl rfl (by first | rfl | exact add_lit0 _ _ | exact Addr.add_lit .. | (rw [add_add]; exact add_lit0 _ _)) (by simp) (by first | (simp; done) | simp [Value.oneCell']) ?_; intro w hs; try dsimp only [List.set_cons_succ, List.set_cons_zero, List.cons_append, List.nil_append] at hs)
         refine RL_sg ?_
         refine SG_pick1 (i := 7) (l1 := #[true, true, true, true, true, true, true, true]) (by kernel_rfl) (by kernel_rfl) (by kernel_rfl) ?_
         first | (refine L_storeA hs (i := 0) rfl Try.ti25 rfl rfl (by first | rfl | exact add_lit0 _ _ | exact Addr.add_lit .. | (rw [add_add]; exact add_lit0 _ _)) (by simp) (by first | (simp; done) | simp [Value.oneCell']) ?_; intro w hs; try dsimp only [List.set_cons_succ, List.set_cons_zero, List.cons_append, List.nil_append] at hs) | (refine L_storeA hs (i := 1) rfl Try.ti25 rfl rfl (by first | rfl | exact add_lit0 _ _ | exact Addr.add_lit .. | (rw [add_add]; exact add_lit0 _ _)) (by simp) (by first | (simp; done) | simp [Value.oneCell']) ?_; intro w hs; try dsimp only [List.set_cons_succ, List.set_cons_zero, List.cons_append, List.nil_append] at hs)
         refine RL_sg ?_
         refine SG_env (fin _ _ _ ⟨hb9, hb10, (by first | exact hs | exact HS.swap (p := (b10, Row 25 [.float .f64 u.1, .float .f64 u.2])) (q := (b9, Row 25 [.float .f64 e.1, .float .f64 e.2])) hs)⟩) (looks_cons rfl (looks_cons rfl (looks_cons rfl (looks_cons rfl (looks_cons rfl (looks_cons rfl (looks_cons rfl (looks_cons rfl (looks_cons rfl (looks_cons rfl looks_nil))))))))))
       ·
        refine L_alloc rfl hs Try.ti25 ?_; intro b9 w hb9 _ hs; replace hs := HS.push hs
        refine RL_sg ?_
        refine SG_pick2 (i := 1) (l1 := #[true, true, true, false, true, true, false, false]) (j := 3) (l2 := #[true, false, true, true, true, true, false, false]) (by kernel_rfl) (by kernel_rfl) (by kernel_rfl) (by kernel_rfl) ?_ ?_
        ·
         refine L_loadA rfl Try.agg25 Try.ti25 rfl (by first | exact cellsAt2 (hs.get (i := 1) rfl) rfl rfl | exact cellsAt2 (hs.get (i := 2) rfl) rfl rfl | exact cellsAt2 (hs.get (i := 3) rfl) rfl rfl) ?_
         refine RL_sg ?_
         refine SG_pick2 (i := 3) (l1 := #[true, true, true, true, true, true, false, false]) (j := 6) (l2 := #[true, true, true, false, true, true, true, false]) (by kernel_rfl) (by kernel_rfl) (by kernel_rfl) (by kernel_rfl) ?_ ?_
         ·
          refine L_loadA rfl Try.agg25 Try.ti25 rfl (by first | exact cellsAt2 (hs.get (i := 1) rfl) rfl rfl | exact cellsAt2 (hs.get (i := 2) rfl) rfl rfl | exact cellsAt2 (hs.get (i := 3) rfl) rfl rfl) ?_
          refine RL_sg ?_
          refine SG_pick1 (i := 6) (l1 := #[true, true, true, true, true, true, true, false]) (by kernel_rfl) (by kernel_rfl) (by kernel_rfl) ?_
          first | (refine L_storeA hs (i := 0) rfl Try.ti25 rfl rfl (by first | rfl | exact add_lit0 _ _ | exact Addr.add_lit .. | (rw [add_add]; exact add_lit0 _ _)) (by simp) (by first | (simp; done) | simp [Value.oneCell']) ?_; intro w hs; try dsimp only [List.set_cons_succ, List.set_cons_zero, List.cons_append, List.nil_append] at hs) | (refine L_storeA hs (i := 1) rfl Try.ti25 rfl rfl (by first | rfl | exact add_lit0 _ _ | exact Addr.add_lit .. | (rw [add_add]; exact add_lit0 _ _)) (by simp) (by first | (simp; done) | simp [Value.oneCell']) ?_; intro w hs; try dsimp only [List.set_cons_succ, List.set_cons_zero, List.cons_append, List.nil_append] at hs)
          refine RL_sg ?_
          refine SG_pick1 (i := 7) (l1 := #[true, true, true, true, true, true, true, true]) (by kernel_rfl) (by kernel_rfl) (by kernel_rfl) ?_
          first | (refine L_storeA hs (i := 0) rfl Try.ti25 rfl rfl (by first | rfl | exact add_lit0 _ _ | exact Addr.add_lit .. | (rw [add_add]; exact add_lit0 _ _)) (by simp) (by first | (simp; done) | simp [Value.oneCell']) ?_; intro w hs; try dsimp only [List.set_cons_succ, List.set_cons_zero, List.cons_append, List.nil_append] at hs) | (refine L_storeA hs (i := 1) rfl Try.ti25 rfl rfl (by first | rfl | exact add_lit0 _ _ | exact Addr.add_lit .. | (rw [add_add]; exact add_lit0 _ _)) (by simp) (by first | (simp; done) | simp [Value.oneCell']) ?_; intro w hs; try dsimp only [List.set_cons_succ, List.set_cons_zero, List.cons_append, List.nil_append] at hs)
          refine RL_sg ?_
          refine SG_env (fin _ _ _ ⟨hb9, hb10, (by first | exact hs | exact HS.swap (p := (b10, Row 25 [.float .f64 u.1, .float .f64 u.2])) (q := (b9, Row 25 [.float .f64 e.1, .float .f64 e.2])) hs)⟩) (looks_cons rfl (looks_cons rfl (looks_cons rfl (looks_cons rfl (looks_cons rfl (looks_cons rfl (looks_cons rfl (looks_cons rfl (looks_cons rfl (looks_cons rfl looks_nil))))))))))
         ·
          first | (refine L_storeA hs (i := 0) rfl Try.ti25 rfl rfl (by first | rfl | exact add_lit0 _ _ | exact Addr.add_lit .. | (rw [add_add]; exact add_lit0 _ _)) (by simp) (by first | (simp; done) | simp [Value.oneCell']) ?_; intro w hs; try dsimp only [List.set_cons_succ, List.set_cons_zero, List.cons_append, List.nil_append] at hs) | (refine L_storeA hs (i := 1) rfl Try.ti25 rfl rfl (by first | rfl | exact add_lit0 _ _ | exact Addr.add_lit .. | (rw [add_add]; exact add_lit0 _ _)) (by simp) (by first | (simp; done) | simp [Value.oneCell']) ?_; intro w hs; try dsimp only [List.set_cons_succ, List.set_cons_zero, List.cons_append, List.nil_append] at hs)
          refine RL_sg ?_
          refine SG_pick1 (i := 3) (l1 := #[true, true, true, true, true, true, true, false]) (by kernel_rfl) (by kernel_rfl) (by kernel_rfl) ?_
          refine L_loadA rfl Try.agg25 Try.ti25 rfl (by first | exact cellsAt2 (hs.get (i := 1) rfl) rfl rfl | exact cellsAt2 (hs.get (i := 2) rfl) rfl rfl | exact cellsAt2 (hs.get (i := 3) rfl) rfl rfl) ?_
          refine RL_sg ?_
          refine SG_pick1 (i := 7) (l1 := #[true, true, true, true, true, true, true, true]) (by kernel_rfl) (by kernel_rfl) (by kernel_rfl) ?_
          first | (refine L_storeA hs (i := 0) rfl Try.ti25 rfl rfl (by first | rfl | exact add_lit0 _ _ | exact Addr.add_lit .. | (rw [add_add]; exact add_lit0 _ _)) (by simp) (by first | (simp; done) | simp [Value.oneCell']) ?_; intro w hs; try dsimp only [List.set_cons_succ, List.set_cons_zero, List.cons_append, List.nil_append] at hs) | (refine L_storeA hs (i := 1) rfl Try.ti25 rfl rfl (by first | rfl | exact add_lit0 _ _ | exact Addr.add_lit .. | (rw [add_add]; exact add_lit0 _ _)) (by simp) (by first | (simp; done) | simp [Value.oneCell']) ?_; intro w hs; try dsimp only [List.set_cons_succ, List.set_cons_zero, List.cons_append, List.nil_append] at hs)
          refine RL_sg ?_
          refine SG_env (fin _ _ _ ⟨hb9, hb10, (by first | exact hs | exact HS.swap (p := (b10, Row 25 [.float .f64 u.1, .float .f64 u.2])) (q := (b9, Row 25 [.float .f64 e.1, .float .f64 e.2])) hs)⟩) (looks_cons rfl (looks_cons rfl (looks_cons rfl (looks_cons rfl (looks_cons rfl (looks_cons rfl (looks_cons rfl (looks_cons rfl (looks_cons rfl (looks_cons rfl looks_nil))))))))))
        ·
         refine L_loadA rfl Try.agg25 Try.ti25 rfl (by first | exact cellsAt2 (hs.get (i := 1) rfl) rfl rfl | exact cellsAt2 (hs.get (i := 2) rfl) rfl rfl | exact cellsAt2 (hs.get (i := 3) rfl) rfl rfl) ?_
         refine RL_sg ?_
         refine SG_pick1 (i := 1) (l1 := #[true, true, true, true, true, true, false, false]) (by kernel_rfl) (by kernel_rfl) (by kernel_rfl) ?_
         refine L_loadA rfl Try.agg25 Try.ti25 rfl (by first | exact cellsAt2 (hs.get (i := 1) rfl) rfl rfl | exact cellsAt2 (hs.get (i := 2) rfl) rfl rfl | exact cellsAt2 (hs.get (i := 3) rfl) rfl rfl) ?_
         refine RL_sg ?_
         refine SG_pick1 (i := 6) (l1 := #[true, true, true, true, true, true, true, false]) (by kernel_rfl) (by kernel_rfl) (by kernel_rfl) ?_
         first | (refine L_storeA hs (i := 0) rfl Try.ti25 rfl rfl (by first | rfl | exact add_lit0 _ _ | exact Addr.add_lit .. | (rw [add_add]; exact add_lit0 _ _)) (by simp) (by first | (simp; done) | simp [Value.oneCell']) ?_; intro w hs; try dsimp only [List.set_cons_succ, List.set_cons_zero, List.cons_append, List.nil_append] at hs) | (refine L_storeA hs (i := 1) rfl Try.ti25 rfl rfl (by first | rfl | exact add_lit0 _ _ | exact Addr.add_lit .. | (rw [add_add]; exact add_lit0 _ _)) (by simp) (by first | (simp; done) | simp [Value.oneCell']) ?_; intro w hs; try dsimp only [List.set_cons_succ, List.set_cons_zero, List.cons_append, List.nil_append] at hs)
         refine RL_sg ?_
         refine SG_pick1 (i := 7) (l1 := #[true, true, true, true, true, true, true, true]) (by kernel_rfl) (by kernel_rfl) (by kernel_rfl) ?_
         first | (refine L_storeA hs (i := 0) rfl Try.ti25 rfl rfl (by first | rfl | exact add_lit0 _ _ | exact Addr.add_lit .. | (rw [add_add]; exact add_lit0 _ _)) (by simp) (by first | (simp; done) | simp [Value.oneCell']) ?_; intro w hs; try dsimp only [List.set_cons_succ, List.set_cons_zero, List.cons_append, List.nil_append] at hs) | (refine L_storeA hs (i := 1) rfl Try.ti25 rfl rfl (by first | rfl | exact add_lit0 _ _ | exact Addr.add_lit .. | (rw [add_add]; exact add_lit0 _ _)) (by simp) (by first | (simp; done) | simp [Value.oneCell']) ?_; intro w hs; try dsimp only [List.set_cons_succ, List.set_cons_zero, List.cons_append, List.nil_append] at hs)
         refine RL_sg ?_
         refine SG_env (fin _ _ _ ⟨hb9, hb10, (by first | exact hs | exact HS.swap (p := (b10, Row 25 [.float .f64 u.1, .float .f64 u.2])) (q := (b9, Row 25 [.float .f64 e.1, .float .f64 e.2])) hs)⟩) (looks_cons rfl (looks_cons rfl (looks_cons rfl (looks_cons rfl (looks_cons rfl (looks_cons rfl (looks_cons rfl (looks_cons rfl (looks_cons rfl (looks_cons rfl looks_nil))))))))))
     ·
      clear hs
      intro b9 b10 w hI
      show SG _ _ _ _ _ _ [(0, .slice a k c), (3, .pointer (some ⟨b3, 0, none⟩)), (5, .bool (oddP ps px py i)), (6, .pointer (some ⟨b6, 0, none⟩)), (8, .pointer (some ⟨b8, 0, none⟩)), (9, .pointer (some ⟨b9, 0, none⟩)), (10, .pointer (some ⟨b10, 0, none⟩)), (27, .slice a k c), (28, .int .i64 k), (29, .int .i64 i)] w
      obtain ⟨hb9, hb10, hs⟩ := hI
      refine SG_end (by kernel_rfl) ?_
      refine Nx_then ?_
      refine W_seq ?_
      refine W_seq ?_
      refine W_region ?_
      refine L_fieldAddr rfl (off := 1) Try.underlying25 rfl rfl Try.ti23 rfl ?_
      refine L_load rfl Try.one23 rfl (by first | exact hs.cell (i := 0) rfl rfl | exact hs.cell (i := 1) rfl rfl) ?_
      refine L_fieldAddr rfl (off := 1) Try.underlying25 rfl rfl Try.ti23 rfl ?_
      refine L_load rfl Try.one23 rfl (by first | exact hs.cell (i := 0) rfl rfl | exact hs.cell (i := 1) rfl rfl) ?_
      refine L_fcmp rfl rfl rfl (fun _ => by rw [binOp_float_cmp_lss]; rfl) ?_
      refine RL_then ?_
      refine W_cut3 (fun (lo : Pt) (hi : Pt) (w : World) => [(0, .slice a k c), (3, .pointer (some ⟨b3, 0, none⟩)), (5, .bool (oddP ps px py i)), (6, .pointer (some ⟨b6, 0, none⟩)), (8, .pointer (some ⟨b8, 0, none⟩)), (9, .pointer (some ⟨b9, 0, none⟩)), (10, .pointer (some ⟨b10, 0, none⟩)), (27, .slice a k c), (28, .int .i64 k), (29, .int .i64 i)]) (fun (lo : Pt) (hi : Pt) (w : World) => w) (fun (lo : Pt) (hi : Pt) (w : World) => (lo = lowP e u) ∧ (hi = highP e u) ∧ (HS w0 w [(b9, Row 25 [.float .f64 lo.1, .float .f64 lo.2]), (b10, Row 25 [.float .f64 hi.1, .float .f64 hi.2]), (b8, Row 25 [.float .f64 u.1, .float .f64 u.2]), (b6, Row 102 [.float .f64 e.1, .float .f64 e.2, .float .f64 u.1, .float .f64 u.2]), (b3, Row 25 [.float .f64 px, .float .f64 py])])) ?_ ?_
      ·
       cases hsw : FloatKind.f64.format.order u.2 e.2 == some .lt
       ·
        have hsw' : ltB u.2 e.2 = false := hsw
        refine W_if_false rfl ?_
        refine W_skip' ?_
        refine Nx_cutP (e, u, _) (is := [0, 3, 5, 6, 8, 9, 10, 27, 28, 29]) (I' := (fun (lo : Pt) (hi : Pt) (w : World) => (lo = lowP e u) ∧ (hi = highP e u) ∧ (HS w0 w [(b9, Row 25 [.float .f64 lo.1, .float .f64 lo.2]), (b10, Row 25 [.float .f64 hi.1, .float .f64 hi.2]), (b8, Row 25 [.float .f64 u.1, .float .f64 u.2]), (b6, Row 102 [.float .f64 e.1, .float .f64 e.2, .float .f64 u.1, .float .f64 u.2]), (b3, Row 25 [.float .f64 px, .float .f64 py])])) (e) (u) (_)) rfl rfl rfl ?_
        exact ⟨by simp [lowP, hsw'], by simp [highP, hsw'], hs⟩
       ·
        have hsw' : ltB u.2 e.2 = true := hsw
        refine W_if_true rfl ?_
        refine W_region ?_
        refine L_loadA rfl Try.agg25 Try.ti25 rfl (by first | exact cellsAt2' (hs.get (i := 0) rfl) rfl rfl | exact cellsAt2' (hs.get (i := 1) rfl) rfl rfl) ?_
        refine L_loadA rfl Try.agg25 Try.ti25 rfl (by first | exact cellsAt2' (hs.get (i := 0) rfl) rfl rfl | exact cellsAt2' (hs.get (i := 1) rfl) rfl rfl) ?_
        first | (refine L_storeA hs (i := 0) rfl Try.ti25 rfl rfl (by first | rfl | exact add_lit0 _ _ | exact Addr.add_lit .. | (rw [add_add]; exact add_lit0 _ _)) (by simp) (by first | (simp; done) | simp [Value.oneCell']) ?_; intro w hs; try dsimp only [List.set_cons_succ, List.set_cons_zero, List.cons_append, List.nil_append] at hs) | (refine L_storeA hs (i := 1) rfl Try.ti25 rfl rfl (by first | rfl | exact add_lit0 _ _ | exact Addr.add_lit .. | (rw [add_add]; exact add_lit0 _ _)) (by simp) (by first | (simp; done) | simp [Value.oneCell']) ?_; intro w hs; try dsimp only [List.set_cons_succ, List.set_cons_zero, List.cons_append, List.nil_append] at hs)
        first | (refine L_storeA hs (i := 0) rfl Try.ti25 rfl rfl (by first | rfl | exact add_lit0 _ _ | exact Addr.add_lit .. | (rw [add_add]; exact add_lit0 _ _)) (by simp) (by first | (simp; done) | simp [Value.oneCell']) ?_; intro w hs; try dsimp only [List.set_cons_succ, List.set_cons_zero, List.cons_append, List.nil_append] at hs) | (refine L_storeA hs (i := 1) rfl Try.ti25 rfl rfl (by first | rfl | exact add_lit0 _ _ | exact Addr.add_lit .. | (rw [add_add]; exact add_lit0 _ _)) (by simp) (by first | (simp; done) | simp [Value.oneCell']) ?_; intro w hs; try dsimp only [List.set_cons_succ, List.set_cons_zero, List.cons_append, List.nil_append] at hs)
        refine RL_nil' ?_
        refine Nx_cutP (u, e, _) (is := [0, 3, 5, 6, 8, 9, 10, 27, 28, 29]) (I' := (fun (lo : Pt) (hi : Pt) (w : World) => (lo = lowP e u) ∧ (hi = highP e u) ∧ (HS w0 w [(b9, Row 25 [.float .f64 lo.1, .float .f64 lo.2]), (b10, Row 25 [.float .f64 hi.1, .float .f64 hi.2]), (b8, Row 25 [.float .f64 u.1, .float .f64 u.2]), (b6, Row 102 [.float .f64 e.1, .float .f64 e.2, .float .f64 u.1, .float .f64 u.2]), (b3, Row 25 [.float .f64 px, .float .f64 py])])) (u) (e) (_)) rfl rfl rfl ?_
        exact ⟨by simp [lowP, hsw'], by simp [highP, hsw'], hs⟩
      ·
       clear hs
       intro lo hi w hI
       show W _ _ _ _ [(0, .slice a k c), (3, .pointer (some ⟨b3, 0, none⟩)), (5, .bool (oddP ps px py i)), (6, .pointer (some ⟨b6, 0, none⟩)), (8, .pointer (some ⟨b8, 0, none⟩)), (9, .pointer (some ⟨b9, 0, none⟩)), (10, .pointer (some ⟨b10, 0, none⟩)), (27, .slice a k c), (28, .int .i64 k), (29, .int .i64 i)] w
       obtain ⟨hlo, hhi, hs⟩ := hI
       refine W_seq ?_
       refine W_seq ?_
       refine W_cut2 (fun (cnd : Bool) (w : World) => [(0, .slice a k c), (3, .pointer (some ⟨b3, 0, none⟩)), (5, .bool (oddP ps px py i)), (6, .pointer (some ⟨b6, 0, none⟩)), (8, .pointer (some ⟨b8, 0, none⟩)), (9, .pointer (some ⟨b9, 0, none⟩)), (10, .pointer (some ⟨b10, 0, none⟩)), (27, .slice a k c), (28, .int .i64 k), (29, .int .i64 i), (57, .bool cnd)]) (fun (cnd : Bool) (w : World) => w) (fun (cnd : Bool) (w : World) => (cnd = (leB lo.2 py && ltB py hi.2)) ∧ (HS w0 w [(b9, Row 25 [.float .f64 lo.1, .float .f64 lo.2]), (b10, Row 25 [.float .f64 hi.1, .float .f64 hi.2]), (b8, Row 25 [.float .f64 u.1, .float .f64 u.2]), (b6, Row 102 [.float .f64 e.1, .float .f64 e.2, .float .f64 u.1, .float .f64 u.2]), (b3, Row 25 [.float .f64 px, .float .f64 py])])) ?_ ?_
       ·
        cases h1 : (FloatKind.f64.format.order lo.2 py == some .lt || FloatKind.f64.format.order lo.2 py == some .eq)
        ·
         have h1' : leB lo.2 py = false := h1
         refine W_region ?_
         refine L_fieldAddr rfl (off := 1) Try.underlying25 rfl rfl Try.ti23 rfl ?_
         refine L_load rfl Try.one23 rfl (by first | exact hs.cell (i := 0) rfl rfl | exact hs.cell (i := 1) rfl rfl | exact hs.cell (i := 2) rfl rfl | exact hs.cell (i := 3) rfl rfl | exact hs.cell (i := 4) rfl rfl) ?_
         refine L_fieldAddr rfl (off := 1) Try.underlying25 rfl rfl Try.ti23 rfl ?_
         refine L_load rfl Try.one23 rfl (by first | exact hs.cell (i := 0) rfl rfl | exact hs.cell (i := 1) rfl rfl | exact hs.cell (i := 2) rfl rfl | exact hs.cell (i := 3) rfl rfl | exact hs.cell (i := 4) rfl rfl) ?_
         refine L_fcmp rfl rfl rfl (fun _ => by rw [binOp_float_cmp_leq, h1]; rfl) ?_
         refine L_move rfl rfl ?_
         first | (refine RL_want rfl rfl ?_; refine L_fieldAddr rfl (off := 1) Try.underlying25 rfl rfl Try.ti23 rfl ?_) | refine RL_skip rfl rfl rfl rfl ?_ | refine RL_skipU rfl rfl rfl ?_
         first | (refine RL_want rfl rfl ?_; refine L_load rfl Try.one23 rfl (by first | exact hs.cell (i := 0) rfl rfl | exact hs.cell (i := 1) rfl rfl | exact hs.cell (i := 2) rfl rfl | exact hs.cell (i := 3) rfl rfl | exact hs.cell (i := 4) rfl rfl) ?_) | refine RL_skip rfl rfl rfl rfl ?_ | refine RL_skipU rfl rfl rfl ?_
         first | (refine RL_want rfl rfl ?_; refine L_fieldAddr rfl (off := 1) Try.underlying25 rfl rfl Try.ti23 rfl ?_) | refine RL_skip rfl rfl rfl rfl ?_ | refine RL_skipU rfl rfl rfl ?_
         first | (refine RL_want rfl rfl ?_; refine L_load rfl Try.one23 rfl (by first | exact hs.cell (i := 0) rfl rfl | exact hs.cell (i := 1) rfl rfl | exact hs.cell (i := 2) rfl rfl | exact hs.cell (i := 3) rfl rfl | exact hs.cell (i := 4) rfl rfl) ?_) | refine RL_skip rfl rfl rfl rfl ?_ | refine RL_skipU rfl rfl rfl ?_
         first | (refine RL_want rfl rfl ?_; refine L_fcmp rfl rfl rfl (fun _ => by rw [binOp_float_cmp_lss]; rfl) ?_) | refine RL_skip rfl rfl rfl rfl ?_ | refine RL_skipU rfl rfl rfl ?_
         first | refine L_pick_t rfl rfl rfl ?_ | refine L_pick_f rfl rfl rfl ?_
         refine RL_nil' ?_
         refine Nx_cutP (false, _) (is := [0, 3, 5, 6, 8, 9, 10, 27, 28, 29, 57]) (I' := (fun (cnd : Bool) (w : World) => (cnd = (leB lo.2 py && ltB py hi.2)) ∧ (HS w0 w [(b9, Row 25 [.float .f64 lo.1, .float .f64 lo.2]), (b10, Row 25 [.float .f64 hi.1, .float .f64 hi.2]), (b8, Row 25 [.float .f64 u.1, .float .f64 u.2]), (b6, Row 102 [.float .f64 e.1, .float .f64 e.2, .float .f64 u.1, .float .f64 u.2]), (b3, Row 25 [.float .f64 px, .float .f64 py])])) (false) (_)) rfl rfl rfl ?_
         exact ⟨by rw [h1']; rfl, hs⟩
        ·
         have h1' : leB lo.2 py = true := h1
         refine W_region ?_
         refine L_fieldAddr rfl (off := 1) Try.underlying25 rfl rfl Try.ti23 rfl ?_
         refine L_load rfl Try.one23 rfl (by first | exact hs.cell (i := 0) rfl rfl | exact hs.cell (i := 1) rfl rfl | exact hs.cell (i := 2) rfl rfl | exact hs.cell (i := 3) rfl rfl | exact hs.cell (i := 4) rfl rfl) ?_
         refine L_fieldAddr rfl (off := 1) Try.underlying25 rfl rfl Try.ti23 rfl ?_
         refine L_load rfl Try.one23 rfl (by first | exact hs.cell (i := 0) rfl rfl | exact hs.cell (i := 1) rfl rfl | exact hs.cell (i := 2) rfl rfl | exact hs.cell (i := 3) rfl rfl | exact hs.cell (i := 4) rfl rfl) ?_
         refine L_fcmp rfl rfl rfl (fun _ => by rw [binOp_float_cmp_leq, h1]; rfl) ?_
         refine L_move rfl rfl ?_
         first | (refine RL_want rfl rfl ?_; refine L_fieldAddr rfl (off := 1) Try.underlying25 rfl rfl Try.ti23 rfl ?_) | refine RL_skip rfl rfl rfl rfl ?_ | refine RL_skipU rfl rfl rfl ?_
         first | (refine RL_want rfl rfl ?_; refine L_load rfl Try.one23 rfl (by first | exact hs.cell (i := 0) rfl rfl | exact hs.cell (i := 1) rfl rfl | exact hs.cell (i := 2) rfl rfl | exact hs.cell (i := 3) rfl rfl | exact hs.cell (i := 4) rfl rfl) ?_) | refine RL_skip rfl rfl rfl rfl ?_ | refine RL_skipU rfl rfl rfl ?_
         first | (refine RL_want rfl rfl ?_; refine L_fieldAddr rfl (off := 1) Try.underlying25 rfl rfl Try.ti23 rfl ?_) | refine RL_skip rfl rfl rfl rfl ?_ | refine RL_skipU rfl rfl rfl ?_
         first | (refine RL_want rfl rfl ?_; refine L_load rfl Try.one23 rfl (by first | exact hs.cell (i := 0) rfl rfl | exact hs.cell (i := 1) rfl rfl | exact hs.cell (i := 2) rfl rfl | exact hs.cell (i := 3) rfl rfl | exact hs.cell (i := 4) rfl rfl) ?_) | refine RL_skip rfl rfl rfl rfl ?_ | refine RL_skipU rfl rfl rfl ?_
         first | (refine RL_want rfl rfl ?_; refine L_fcmp rfl rfl rfl (fun _ => by rw [binOp_float_cmp_lss]; rfl) ?_) | refine RL_skip rfl rfl rfl rfl ?_ | refine RL_skipU rfl rfl rfl ?_
         first | refine L_pick_t rfl rfl rfl ?_ | refine L_pick_f rfl rfl rfl ?_
         refine RL_nil' ?_
         refine Nx_cutP (ltB py hi.2, _) (is := [0, 3, 5, 6, 8, 9, 10, 27, 28, 29, 57]) (I' := (fun (cnd : Bool) (w : World) => (cnd = (leB lo.2 py && ltB py hi.2)) ∧ (HS w0 w [(b9, Row 25 [.float .f64 lo.1, .float .f64 lo.2]), (b10, Row 25 [.float .f64 hi.1, .float .f64 hi.2]), (b8, Row 25 [.float .f64 u.1, .float .f64 u.2]), (b6, Row 102 [.float .f64 e.1, .float .f64 e.2, .float .f64 u.1, .float .f64 u.2]), (b3, Row 25 [.float .f64 px, .float .f64 py])])) (ltB py hi.2) (_)) rfl rfl rfl ?_
         exact ⟨by rw [h1']; rfl, hs⟩
       ·
        clear hs
        intro cnd w hI
        show W _ _ _ _ [(0, .slice a k c), (3, .pointer (some ⟨b3, 0, none⟩)), (5, .bool (oddP ps px py i)), (6, .pointer (some ⟨b6, 0, none⟩)), (8, .pointer (some ⟨b8, 0, none⟩)), (9, .pointer (some ⟨b9, 0, none⟩)), (10, .pointer (some ⟨b10, 0, none⟩)), (27, .slice a k c), (28, .int .i64 k), (29, .int .i64 i), (57, .bool cnd)] w
        obtain ⟨hcnd, hs⟩ := hI
        refine W_cut2 (fun (odd : Bool) (w : World) => [(0, .slice a k c), (3, .pointer (some ⟨b3, 0, none⟩)), (5, .bool odd), (6, .pointer (some ⟨b6, 0, none⟩)), (8, .pointer (some ⟨b8, 0, none⟩)), (27, .slice a k c), (28, .int .i64 k), (29, .int .i64 i)]) (fun (odd : Bool) (w : World) => w) (fun (odd : Bool) (w : World) => (odd = (oddP ps px py i != edgeC px py lo hi)) ∧ (HS w0 w [(b9, Row 25 [.float .f64 lo.1, .float .f64 lo.2]), (b10, Row 25 [.float .f64 hi.1, .float .f64 hi.2]), (b8, Row 25 [.float .f64 u.1, .float .f64 u.2]), (b6, Row 102 [.float .f64 e.1, .float .f64 e.2, .float .f64 u.1, .float .f64 u.2]), (b3, Row 25 [.float .f64 px, .float .f64 py])])) ?_ ?_
        ·
         cases cnd
         ·
          refine W_if_false rfl ?_
          refine W_skip' ?_
          refine Nx_cutP (oddP ps px py i, _) (is := [0, 3, 5, 6, 8, 27, 28, 29]) (I' := (fun (odd : Bool) (w : World) => (odd = (oddP ps px py i != edgeC px py lo hi)) ∧ (HS w0 w [(b9, Row 25 [.float .f64 lo.1, .float .f64 lo.2]), (b10, Row 25 [.float .f64 hi.1, .float .f64 hi.2]), (b8, Row 25 [.float .f64 u.1, .float .f64 u.2]), (b6, Row 102 [.float .f64 e.1, .float .f64 e.2, .float .f64 u.1, .float .f64 u.2]), (b3, Row 25 [.float .f64 px, .float .f64 py])])) (oddP ps px py i) (_)) rfl rfl rfl ?_
          exact ⟨by unfold edgeC; rw [← hcnd]; simp, hs⟩
         ·
          refine W_if_true rfl ?_
          refine W_seq ?_
          refine W_region ?_
          refine L_fieldAddr rfl (off := 1) Try.underlying25 rfl rfl Try.ti23 rfl ?_
          refine L_load rfl Try.one23 rfl (by first | exact hs.cell (i := 0) rfl rfl | exact hs.cell (i := 1) rfl rfl | exact hs.cell (i := 2) rfl rfl | exact hs.cell (i := 3) rfl rfl | exact hs.cell (i := 4) rfl rfl) ?_
          refine L_fieldAddr rfl (off := 1) Try.underlying25 rfl rfl Try.ti23 rfl ?_
          refine L_load rfl Try.one23 rfl (by first | exact hs.cell (i := 0) rfl rfl | exact hs.cell (i := 1) rfl rfl | exact hs.cell (i := 2) rfl rfl | exact hs.cell (i := 3) rfl rfl | exact hs.cell (i := 4) rfl rfl) ?_
          refine L_farith rfl (op := .sub) rfl rfl rfl ?_
          intro r62 k62 hr62
          try replace hs := hs.drewN k62
          refine L_fieldAddr rfl (off := 1) Try.underlying25 rfl rfl Try.ti23 rfl ?_
          refine L_load rfl Try.one23 rfl (by first | exact hs.cell (i := 0) rfl rfl | exact hs.cell (i := 1) rfl rfl | exact hs.cell (i := 2) rfl rfl | exact hs.cell (i := 3) rfl rfl | exact hs.cell (i := 4) rfl rfl) ?_
          refine L_fieldAddr rfl (off := 1) Try.underlying25 rfl rfl Try.ti23 rfl ?_
          refine L_load rfl Try.one23 rfl (by first | exact hs.cell (i := 0) rfl rfl | exact hs.cell (i := 1) rfl rfl | exact hs.cell (i := 2) rfl rfl | exact hs.cell (i := 3) rfl rfl | exact hs.cell (i := 4) rfl rfl) ?_
          refine L_farith rfl (op := .sub) rfl rfl rfl ?_
          intro r67 k67 hr67
          try replace hs := hs.drewN k67
          refine L_farith rfl (op := .quo) rfl rfl rfl ?_
          intro r68 k68 hr68
          try replace hs := hs.drewN k68
          refine L_assign rfl rfl ?_
          refine RL_then ?_
          refine W_region ?_
          refine L_move rfl rfl ?_
          refine L_fieldAddr rfl (off := 0) Try.underlying25 rfl rfl Try.ti23 rfl ?_
          refine L_load rfl Try.one23 rfl (by first | exact hs.cell (i := 0) rfl rfl | exact hs.cell (i := 1) rfl rfl | exact hs.cell (i := 2) rfl rfl | exact hs.cell (i := 3) rfl rfl | exact hs.cell (i := 4) rfl rfl) ?_
          refine L_fieldAddr rfl (off := 0) Try.underlying25 rfl rfl Try.ti23 rfl ?_
          refine L_load rfl Try.one23 rfl (by first | exact hs.cell (i := 0) rfl rfl | exact hs.cell (i := 1) rfl rfl | exact hs.cell (i := 2) rfl rfl | exact hs.cell (i := 3) rfl rfl | exact hs.cell (i := 4) rfl rfl) ?_
          refine L_move rfl rfl ?_
          refine L_fieldAddr rfl (off := 0) Try.underlying25 rfl rfl Try.ti23 rfl ?_
          refine L_load rfl Try.one23 rfl (by first | exact hs.cell (i := 0) rfl rfl | exact hs.cell (i := 1) rfl rfl | exact hs.cell (i := 2) rfl rfl | exact hs.cell (i := 3) rfl rfl | exact hs.cell (i := 4) rfl rfl) ?_
          refine L_fieldAddr rfl (off := 0) Try.underlying25 rfl rfl Try.ti23 rfl ?_
          refine L_load rfl Try.one23 rfl (by first | exact hs.cell (i := 0) rfl rfl | exact hs.cell (i := 1) rfl rfl | exact hs.cell (i := 2) rfl rfl | exact hs.cell (i := 3) rfl rfl | exact hs.cell (i := 4) rfl rfl) ?_
          refine L_farith rfl (op := .sub) rfl rfl rfl ?_
          intro r79 k79 hr79
          try replace hs := hs.drewN k79
          refine L_farith rfl (op := .mul) rfl rfl rfl ?_
          intro r80 k80 hr80
          try replace hs := hs.drewN k80
          refine L_farith rfl (op := .add) rfl rfl rfl ?_
          intro r81 k81 hr81
          try replace hs := hs.drewN k81
          refine L_fcmp rfl rfl rfl (fun _ => by rw [binOp_float_cmp_lss]; rfl) ?_
          refine RL_val rfl (R_bneq Try.underlying4 rfl rfl) ?_
          refine L_assign rfl rfl ?_
          refine RL_nil' ?_
          refine Nx_cutP (_, _) (is := [0, 3, 5, 6, 8, 27, 28, 29]) (I' := (fun (odd : Bool) (w : World) => (odd = (oddP ps px py i != edgeC px py lo hi)) ∧ (HS w0 w [(b9, Row 25 [.float .f64 lo.1, .float .f64 lo.2]), (b10, Row 25 [.float .f64 hi.1, .float .f64 hi.2]), (b8, Row 25 [.float .f64 u.1, .float .f64 u.2]), (b6, Row 102 [.float .f64 e.1, .float .f64 e.2, .float .f64 u.1, .float .f64 u.2]), (b3, Row 25 [.float .f64 px, .float .f64 py])])) (_) (_)) rfl rfl rfl ?_
          refine ⟨?_, hs⟩
          have e81 : cn r81 = cn (crossX py lo hi) := Fs.of hr81 rfl (Fs.of hr80 (Fs.of hr68 (Fs.of hr62 rfl rfl) (Fs.of hr67 rfl rfl)) (Fs.of hr79 rfl rfl))
          have e2 : ltB px r81 = ltB px (crossX py lo hi) := ltB_congr rfl e81
          show (oddP ps px py i != ltB px r81) = _
          rw [e2]; unfold edgeC; rw [← hcnd, Bool.true_and]
        ·
         clear hs
         intro odd w hI
         show W _ _ _ _ [(0, .slice a k c), (3, .pointer (some ⟨b3, 0, none⟩)), (5, .bool odd), (6, .pointer (some ⟨b6, 0, none⟩)), (8, .pointer (some ⟨b8, 0, none⟩)), (27, .slice a k c), (28, .int .i64 k), (29, .int .i64 i)] w
         obtain ⟨hodd, hs⟩ := hI
         refine W_region ?_
         refine L_loadA rfl Try.agg25 Try.ti25 rfl (by exact cellsAt2' (hs.get (i := 2) rfl) rfl rfl) ?_
         refine L_idxA rfl Try.underlying102 Try.ti25 rfl rfl (by with_reducible first | exact natc_k _ | exact natc_a1 _ | exact natc_0 | exact natc_1 | exact natc_2 | exact natc_s1 _ (by omega) | exact natc_a2 _ | exact natc_add _ _ | exact natc_mul _ _ | exact natc (by omega)) (by omega) ?_
         refine L_storeA hs (i := 3) rfl Try.ti25 rfl rfl (by first | rfl | exact add_lit0 _ _ | exact Addr.add_lit .. | (rw [add_add]; exact add_lit0 _ _)) (by simp) (by first | (simp; done) | simp [Value.oneCell']) ?_
         intro w hs
         try dsimp only [List.set_cons_succ, List.set_cons_zero, List.cons_append, List.nil_append] at hs
         refine RL_nil' ?_
         refine Nx_block ?_
         refine Nx_then ?_
         refine W_region ?_
         first | refine L_add rfl rfl rfl (wrp_i64 (by omega)) ?_ | refine L_add rfl rfl rfl rfl ?_
         refine L_move rfl rfl ?_
         refine RL_nil' ?_
         refine Nx_set 5 (v' := .bool (oddP ps px py (i + 1))) rfl (by rw [hodd, hlo, hhi, he, hu]; rfl) ?_
         refine Nx_loopP (i + 1, u, _) (is := [0, 3, 5, 6, 27, 28, 29]) (I' := (fun (i : Nat) (q : Pt) (w : World) => (i ≤ k) ∧ (HS w0 w [(b6, Row 102 [.float .f64 (prevP ps i).1, .float .f64 (prevP ps i).2, .float .f64 q.1, .float .f64 q.2]), (b3, Row 25 [.float .f64 px, .float .f64 py])])) (i + 1) (u) (_)) rfl rfl rfl ?_ ?_
         ·
          refine ⟨hlt, ?_⟩
          have e5 : prevP ps (i + 1) = u := by unfold prevP; rw [if_neg (by omega), Nat.add_sub_cancel, hu]
          rw [e5]
          exact HS.pop (HS.pop (HS.pop hs hb9) hb10) hb8
         ·
          omega
    ·
     obtain rfl : i = k := by omega
     refine W_seq ?_
     refine W_region ?_
     first | refine L_lss rfl rfl rfl (dtrue (by omega)) ?_ | refine L_lss rfl rfl rfl (dfalse (by omega)) ?_ | refine L_lss rfl rfl rfl rfl ?_
     refine RL_then ?_
     refine W_seq ?_
     refine W_if_false rfl ?_
     refine W_exit' ?_
     refine Ex_then_exit ?_
     refine Ex_loop_exit ?_
     refine Ex_block_hit ?_
     refine Nx_then ?_
     refine W_seq ?_
     refine W_region ?_
     refine L_move rfl rfl ?_
     refine L_assign rfl rfl ?_
     refine RL_then ?_
     refine W_ret' ?_
     refine Ex_done1 rfl rfl ?_
     exact ⟨_, rfl, by unfold insF; rw [if_neg (by omega), hk], hs.forget ho2⟩
end Go.Proofs.Ytoiobncojfeoiaa
