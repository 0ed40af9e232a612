/-
  A part of the proof: what functions that the statement reaches do, or a plain law on what they do. Each theorem holds under its own premises alone.
-/
import Derived.Test.YtoiobncojfeoiaaTUG
import Derived.Test.YtoiobncojfeoiaaKitY
namespace Go.Proofs.Ytoiobncojfeoiaa
open Go Go.Lk
/-! ### Where a track stands -/
structure Tk where
  id : Int
  kind : Int
  xx : Nat
  xv : Nat
  xp : Nat
  xq : Nat
  xr : Nat
  yx : Nat
  yv : Nat
  yp : Nat
  yq : Nat
  yr : Nat
  seen : Int
  steps : Int
  last : Nat
def Tk.cells (t : Tk) : List Value := [.int .i64 t.id, .int .i8 t.kind, .float .f64 t.xx, .float .f64 t.xv, .float .f64 t.xp, .float .f64 t.xq, .float .f64 t.xr, .float .f64 t.yx, .float .f64 t.yv, .float .f64 t.yp, .float .f64 t.yq, .float .f64 t.yr, .int .u16 t.seen, .int .i64 t.steps, .float .f64 t.last]
def tk0 : Tk := ⟨0, 0, 0, 0, 0, 0, 0, 0, 0, 0, 0, 0, 0, 0, 0⟩
def tcs (ts : List Tk) : List Value := ts.flatMap Tk.cells
theorem tcs_len (ts : List Tk) : (tcs ts).length = ts.length * 15 := by
  induction ts with
  | nil => rfl
  | cons t ts ih =>
    show (t.cells ++ tcs ts).length = _
    rw [List.length_append, ih, List.length_cons]
    show 15 + _ = _
    omega
theorem tcs_get : ∀ {ts : List Tk} {i q : Nat} {v : Value}, i < ts.length → (ts.getD i tk0).cells[q]? = some v → (tcs ts)[i * 15 + q]? = some v
  | t :: ts, 0, q, v, _, h => by
    show (t.cells ++ tcs ts)[0 * 15 + q]? = some v
    rw [Nat.zero_mul, Nat.zero_add]
    have hq : q < t.cells.length := (List.getElem?_eq_some_iff.1 h).1
    rw [List.getElem?_append_left hq]; exact h
  | t :: ts, i + 1, q, v, hi, h => by
    show (t.cells ++ tcs ts)[(i + 1) * 15 + q]? = some v
    have hl : t.cells.length = 15 := rfl
    rw [List.getElem?_append_right (by omega), show (i + 1) * 15 + q - t.cells.length = i * 15 + q by omega]
    exact tcs_get (by simpa using hi) h
theorem tcs_one (ts : List Tk) : ∀ u ∈ tcs ts, u.oneCell' = true := by
  intro u hu
  obtain ⟨t, _, hu⟩ := List.mem_flatMap.1 hu
  unfold Tk.cells at hu
  simp only [List.mem_cons, List.not_mem_nil, or_false] at hu
  rcases hu with rfl | rfl | rfl | rfl | rfl | rfl | rfl | rfl | rfl | rfl | rfl | rfl | rfl | rfl | rfl <;> rfl
theorem tk_at {w : World} {a : Option Addr} {ts : List Tk} (h : SlC w a (tcs ts)) {i : Nat} (hi : i < ts.length) : CellsAt w ((aD a).add (i * 15)) (ts.getD i tk0).cells := h.sub fun _ _ hv => tcs_get hi hv
theorem Tk.one (t : Tk) : ∀ v ∈ t.cells, v.oneCell' = true := fun v hv => tcs_one [t] v (by simpa [tcs] using hv)
def nowPhi0 (b5 : Nat) (t : Tk) : Nat → Value → Bks → Prop
  | 0, v, m | 1, v, m | 7, v, m => v = .pointer (some ⟨b5, 2, none⟩) ∧ m = []
  | 8, v, m => v = .pointer (some ⟨b5, 3, none⟩) ∧ m = []
  | 3, v, m | 4, v, m | 10, v, m => v = .pointer (some ⟨b5, 7, none⟩) ∧ m = []
  | 11, v, m => v = .pointer (some ⟨b5, 8, none⟩) ∧ m = []
  | 2, v, m => v = .float .f64 t.xx ∧ m = []
  | 5, v, m => v = .float .f64 t.yx ∧ m = []
  | 9, v, m => v = .float .f64 t.xv ∧ m = []
  | 12, v, m => v = .float .f64 t.yv ∧ m = []
  | 6, v, m => v = .agg #[.float .f64 t.xx, .float .f64 t.yx] ∧ m = []
  | 13, v, m => v = .agg #[.float .f64 t.xv, .float .f64 t.yv] ∧ m = []
  | _, v, m => ∃ b, v = .pointer (some ⟨b, 0, none⟩) ∧ m = [(b, Row 25 [.float .f64 0, .float .f64 0])]
def nowPhi (b5 : Nat) (t : Tk) (V : Nat → Value) (k : Nat) (v : Value) (m : Bks) : Prop :=
  match Nat.beq k 16, Nat.beq k 17 with
  | true, _ => ∃ b, V 14 = .pointer (some ⟨b, 0, none⟩) ∧ m = [(b, Row 25 [.float .f64 t.xx, .float .f64 t.yx])]
  | false, true => ∃ b, V 15 = .pointer (some ⟨b, 0, none⟩) ∧ m = [(b, Row 25 [.float .f64 t.xv, .float .f64 t.yv])]
  | false, false => nowPhi0 b5 t k v m
theorem nowPhi_loc (b5 : Nat) (t : Tk) (k : Nat) (V V' : Nat → Value) (v : Value) (m : Bks) (h : ∀ d ∈ (([[], [0], [1], [], [3], [4], [2, 5], [], [7], [8], [], [10], [11], [9, 12], [], [], [14, 6], [15, 13]] : List (List Nat)).getD k []), V d = V' d) (hp : nowPhi b5 t V k v m) : nowPhi b5 t V' k v m := by
  by_cases h1 : k = 16
  · subst h1
    obtain ⟨b, e, hm⟩ := hp
    exact ⟨b, (h 14 (by decide)).symm.trans e, hm⟩
  · by_cases h2 : k = 17
    · subst h2
      obtain ⟨b, e, hm⟩ := hp
      exact ⟨b, (h 15 (by decide)).symm.trans e, hm⟩
    · have e1 : Nat.beq k 16 = false := by cases hb : Nat.beq k 16 with
        | false => rfl
        | true => exact absurd (Nat.eq_of_beq_eq_true hb) h1
      have e2 : Nat.beq k 17 = false := by cases hb : Nat.beq k 17 with
        | false => rfl
        | true => exact absurd (Nat.eq_of_beq_eq_true hb) h2
      unfold nowPhi at hp ⊢
      rw [e1, e2] at hp ⊢
      exact hp
def nowF (far : Nat) (ps : List Pt) (t : Tk) : Int := if insF ps t.xx t.yx then 2 else if (whenF ps (t.xx, t.yx) (t.xv, t.yv) far).2 then 1 else 0
set_option maxHeartbeats 1000000 in
theorem now_ok (B far : Nat) (a : Option Addr) (k c : Nat) (ps : List Pt) (t : Tk) (w0 : World) (hx : SlC w0 a (pcs ps)) (hk : ps.length = k) (hB : w0.cell? ⟨B, 0, none⟩ = some (.float .f64 far)) :
    Ret Try.prog 39 [.pointer (some ⟨B, 0, none⟩), .slice a k c, .agg t.cells.toArray] w0 fun v w' => v = .int .i64 (nowF far ps t) ∧ HS w0 w' [] := by
  refine Ret.start fun w hs => ?_
  have hlt := World.block_lt_of_cell? w0 _ hB
  refine calls_of_W Try.func39 rfl rfl rfl ?_
  refine W_seq ?_
  refine W_region ?_
  refine L_box rfl hs rfl ?_
  intro b5 w hb5 hnb5 hs
  try dsimp only [List.set_cons_succ, List.set_cons_zero, List.cons_append, List.nil_append] at hs
  refine L_assign rfl rfl ?_
  refine RL_then ?_
  refine W_seq ?_
  replace hs : HS w0 w [(b5, Row 60 t.cells)] := hs
  refine W_anyO (nowPhi b5 t) (fun i => ([[], [0], [1], [], [3], [4], [2, 5], [], [7], [8], [], [10], [11], [9, 12], [], [], [14, 6], [15, 13]] : List (List Nat)).getD i []) (fun i => ([[], [], [], [], [], [], [], [], [], [], [], [], [], [], [], [], [14], [15]] : List (List Nat)).getD i []) (nowPhi_loc b5 t) Try.mixed (by kernel_rfl) hs ?_ ?_
  · intro o oo ho V M E R w Q' hdep hlook hold hR hs hc
    match o, ho with
    | 0, ho =>
      cases ho
      refine L_fieldAddr rfl (off := 2) Try.underlying60 rfl rfl Try.ti57 (hold 5 _ rfl (nd (by kernel_rfl))) ?_
      exact hc _ [] w ⟨rfl, rfl⟩ Own.nil hs
    | 3, ho =>
      cases ho
      refine L_fieldAddr rfl (off := 7) Try.underlying60 rfl rfl Try.ti57 (hold 5 _ rfl (nd (by kernel_rfl))) ?_
      exact hc _ [] w ⟨rfl, rfl⟩ Own.nil hs
    | 7, ho =>
      cases ho
      refine L_fieldAddr rfl (off := 2) Try.underlying60 rfl rfl Try.ti57 (hold 5 _ rfl (nd (by kernel_rfl))) ?_
      exact hc _ [] w ⟨rfl, rfl⟩ Own.nil hs
    | 10, ho =>
      cases ho
      refine L_fieldAddr rfl (off := 7) Try.underlying60 rfl rfl Try.ti57 (hold 5 _ rfl (nd (by kernel_rfl))) ?_
      exact hc _ [] w ⟨rfl, rfl⟩ Own.nil hs
    | 1, ho =>
      cases ho
      have e1 : Lk.look E 11 = some (.pointer (some ⟨b5, 2, none⟩)) := by rw [hlook 0 (by decide) _ _ rfl rfl, (hdep 0 (by decide)).1.1]
      refine L_fieldAddr rfl (off := 0) Try.underlying57 rfl rfl Try.ti23 e1 ?_
      exact hc _ [] w ⟨rfl, rfl⟩ Own.nil hs
    | 4, ho =>
      cases ho
      have e1 : Lk.look E 14 = some (.pointer (some ⟨b5, 7, none⟩)) := by rw [hlook 3 (by decide) _ _ rfl rfl, (hdep 3 (by decide)).1.1]
      refine L_fieldAddr rfl (off := 0) Try.underlying57 rfl rfl Try.ti23 e1 ?_
      exact hc _ [] w ⟨rfl, rfl⟩ Own.nil hs
    | 8, ho =>
      cases ho
      have e1 : Lk.look E 18 = some (.pointer (some ⟨b5, 2, none⟩)) := by rw [hlook 7 (by decide) _ _ rfl rfl, (hdep 7 (by decide)).1.1]
      refine L_fieldAddr rfl (off := 1) Try.underlying57 rfl rfl Try.ti23 e1 ?_
      exact hc _ [] w ⟨rfl, rfl⟩ Own.nil hs
    | 11, ho =>
      cases ho
      have e1 : Lk.look E 21 = some (.pointer (some ⟨b5, 7, none⟩)) := by rw [hlook 10 (by decide) _ _ rfl rfl, (hdep 10 (by decide)).1.1]
      refine L_fieldAddr rfl (off := 1) Try.underlying57 rfl rfl Try.ti23 e1 ?_
      exact hc _ [] w ⟨rfl, rfl⟩ Own.nil hs
    | 2, ho =>
      cases ho
      have e1 : Lk.look E 12 = some (.pointer (some ⟨b5, 2, none⟩)) := by rw [hlook 1 (by decide) _ _ rfl rfl, (hdep 1 (by decide)).1.1]
      replace hs : HS w0 w (_ ++ []) := hs
      rw [List.append_nil] at hs
      refine L_load rfl Try.one23 e1 (hs.cell (i := 0) rfl rfl) ?_
      exact hc _ [] w ⟨rfl, rfl⟩ Own.nil (by rw [List.append_nil]; exact hs)
    | 5, ho =>
      cases ho
      have e1 : Lk.look E 15 = some (.pointer (some ⟨b5, 7, none⟩)) := by rw [hlook 4 (by decide) _ _ rfl rfl, (hdep 4 (by decide)).1.1]
      replace hs : HS w0 w (_ ++ []) := hs
      rw [List.append_nil] at hs
      refine L_load rfl Try.one23 e1 (hs.cell (i := 0) rfl rfl) ?_
      exact hc _ [] w ⟨rfl, rfl⟩ Own.nil (by rw [List.append_nil]; exact hs)
    | 9, ho =>
      cases ho
      have e1 : Lk.look E 19 = some (.pointer (some ⟨b5, 3, none⟩)) := by rw [hlook 8 (by decide) _ _ rfl rfl, (hdep 8 (by decide)).1.1]
      replace hs : HS w0 w (_ ++ []) := hs
      rw [List.append_nil] at hs
      refine L_load rfl Try.one23 e1 (hs.cell (i := 0) rfl rfl) ?_
      exact hc _ [] w ⟨rfl, rfl⟩ Own.nil (by rw [List.append_nil]; exact hs)
    | 12, ho =>
      cases ho
      have e1 : Lk.look E 22 = some (.pointer (some ⟨b5, 8, none⟩)) := by rw [hlook 11 (by decide) _ _ rfl rfl, (hdep 11 (by decide)).1.1]
      replace hs : HS w0 w (_ ++ []) := hs
      rw [List.append_nil] at hs
      refine L_load rfl Try.one23 e1 (hs.cell (i := 0) rfl rfl) ?_
      exact hc _ [] w ⟨rfl, rfl⟩ Own.nil (by rw [List.append_nil]; exact hs)
    | 6, ho =>
      cases ho
      have e1 : Lk.look E 13 = some (.float .f64 t.xx) := by rw [hlook 2 (by decide) _ _ rfl rfl, (hdep 2 (by decide)).1.1]
      have e2 : Lk.look E 16 = some (.float .f64 t.yx) := by rw [hlook 5 (by decide) _ _ rfl rfl, (hdep 5 (by decide)).1.1]
      refine L_build (l := [(0, .float .f64 t.xx), (1, .float .f64 t.yx)]) rfl (by simp only [evalPs, evalE, e1, e2]) (Pl.built Try.pl25 rfl) ?_
      exact hc _ [] w ⟨rfl, rfl⟩ Own.nil hs
    | 13, ho =>
      cases ho
      have e1 : Lk.look E 20 = some (.float .f64 t.xv) := by rw [hlook 9 (by decide) _ _ rfl rfl, (hdep 9 (by decide)).1.1]
      have e2 : Lk.look E 23 = some (.float .f64 t.yv) := by rw [hlook 12 (by decide) _ _ rfl rfl, (hdep 12 (by decide)).1.1]
      refine L_build (l := [(0, .float .f64 t.xv), (1, .float .f64 t.yv)]) rfl (by simp only [evalPs, evalE, e1, e2]) (Pl.built Try.pl25 rfl) ?_
      exact hc _ [] w ⟨rfl, rfl⟩ Own.nil hs
    | 14, ho =>
      cases ho
      replace hs : HS w0 w (_ ++ []) := hs
      rw [List.append_nil] at hs
      refine L_alloc rfl hs Try.ti25 ?_
      intro b w hb _ hs
      exact hc _ _ _ ⟨b, rfl, rfl⟩ (Own.cons hb Own.nil) hs
    | 15, ho =>
      cases ho
      replace hs : HS w0 w (_ ++ []) := hs
      rw [List.append_nil] at hs
      refine L_alloc rfl hs Try.ti25 ?_
      intro b w hb _ hs
      exact hc _ _ _ ⟨b, rfl, rfl⟩ (Own.cons hb Own.nil) hs
    | 16, ho =>
      cases ho
      obtain ⟨⟨b, hv, hm⟩, hob⟩ := hdep 14 (by decide)
      have e1 : Lk.look E 7 = some (.pointer (some ⟨b, 0, none⟩)) := by rw [hlook 14 (by decide) _ _ rfl rfl, hv]
      have e2 : Lk.look E 17 = some (.agg [.float .f64 t.xx, .float .f64 t.yx].toArray) := by rw [hlook 6 (by decide) _ _ rfl rfl, (hdep 6 (by decide)).1.1]
      replace hs : HS w0 w (([(b5, Row 60 t.cells)] ++ R) ++ (M 14 ++ [])) := hs
      rw [List.append_nil, hm] at hs
      rw [hm] at hob
      replace hs := HS.push hs
      refine L_storeA hs (i := 0) rfl Try.ti25 e1 e2 rfl (by simp) (by first | (simp; done) | simp [Value.oneCell']) ?_
      intro w hs
      refine hc .nilIface [(b, Row 25 [.float .f64 t.xx, .float .f64 t.yx])] w ⟨b, hv, rfl⟩ (Own.cons hob.head Own.nil) ?_
      exact HS.rot (A := [_]) hs
    | 17, ho =>
      cases ho
      obtain ⟨⟨b, hv, hm⟩, hob⟩ := hdep 15 (by decide)
      have e1 : Lk.look E 8 = some (.pointer (some ⟨b, 0, none⟩)) := by rw [hlook 15 (by decide) _ _ rfl rfl, hv]
      have e2 : Lk.look E 24 = some (.agg [.float .f64 t.xv, .float .f64 t.yv].toArray) := by rw [hlook 13 (by decide) _ _ rfl rfl, (hdep 13 (by decide)).1.1]
      replace hs : HS w0 w (([(b5, Row 60 t.cells)] ++ R) ++ (M 15 ++ [])) := hs
      rw [List.append_nil, hm] at hs
      rw [hm] at hob
      replace hs := HS.push hs
      refine L_storeA hs (i := 0) rfl Try.ti25 e1 e2 rfl (by simp) (by first | (simp; done) | simp [Value.oneCell']) ?_
      intro w hs
      refine hc .nilIface [(b, Row 25 [.float .f64 t.xv, .float .f64 t.yv])] w ⟨b, hv, rfl⟩ (Own.cons hob.head Own.nil) ?_
      exact HS.rot (A := [_]) hs
  · intro V M own w hf hs hown hnd E hold hlook
    replace hs := hs.pickOwn3 (k1 := 16) (k2 := 17) (k3 := 13) ((hown 16).2 ⟨by decide, by decide⟩) ((hown 17).2 ⟨by decide, by decide⟩) ((hown 13).2 ⟨by decide, by decide⟩) (by decide) (by decide) (by decide) (fun j hj => (hf j ((hown j).1 hj).1).2)
    obtain ⟨b7, hv7, hm7⟩ : ∃ b, V 14 = .pointer (some ⟨b, 0, none⟩) ∧ M 16 = [(b, Row 25 [.float .f64 t.xx, .float .f64 t.yx])] := (hf 16 (by decide)).1
    obtain ⟨b8, hv8, hm8⟩ : ∃ b, V 15 = .pointer (some ⟨b, 0, none⟩) ∧ M 17 = [(b, Row 25 [.float .f64 t.xv, .float .f64 t.yv])] := (hf 17 (by decide)).1
    have hm13 : M 13 = [] := (hf 13 (by decide)).1.2
    have o16 := (hf 16 (by decide)).2
    have o17 := (hf 17 (by decide)).2
    rw [hm7] at o16
    rw [hm8] at o17
    rw [hm7, hm8, hm13] at hs
    replace hs : HS w0 w [(b5, Row 60 t.cells), (b7, Row 25 [.float .f64 t.xx, .float .f64 t.yx]), (b8, Row 25 [.float .f64 t.xv, .float .f64 t.yv])] := hs
    have ho3 : Own w0 [(b5, Row 60 t.cells), (b7, Row 25 [.float .f64 t.xx, .float .f64 t.yx]), (b8, Row 25 [.float .f64 t.xv, .float .f64 t.yv])] := Own.cons hb5 (Own.cons o16.head (Own.cons o17.head Own.nil))
    refine Nx_env (e := [(0, .pointer (some ⟨B, 0, none⟩)), (1, .slice a k c), (7, .pointer (some ⟨b7, 0, none⟩)), (8, .pointer (some ⟨b8, 0, none⟩))]) ?_ (looks_cons (hold 0 _ rfl (nd (by kernel_rfl))) (looks_cons (hold 1 _ rfl (nd (by kernel_rfl))) (looks_cons ((hlook 14 _ 7 rfl rfl).trans (congrArg some hv7)) (looks_cons ((hlook 15 _ 8 rfl rfl).trans (congrArg some hv8)) looks_nil))))
    refine Nx_then ?_
    refine W_seq ?_
    refine W_seq ?_
    refine W_region ?_
    refine L_move rfl rfl ?_
    refine L_loadA rfl Try.agg25 Try.ti25 rfl (by first | exact cellsAt2' (hs.get (i := 1) rfl) rfl rfl | exact cellsAt2' (hs.get (i := 2) rfl) rfl rfl) ?_
    refine L_call rfl Try.fun18 rfl (within_ok a k c ps t.xx t.yx w (hx.old hs ho3) hk) ?_
    rintro _ w ⟨rfl, hs'⟩
    replace hs := hs.nil hs'
    clear hs'
    refine RL_then ?_
    cases hin : insF ps t.xx t.yx
    · refine W_if_false rfl ?_
      refine W_skip' ?_
      refine Nx_then ?_
      refine W_seq ?_
      refine W_seq ?_
      refine W_sg Try.mixed ?_
      replace hs := hs.drewN 1
      refine SG_stage [0, 3, 4, 5] [1, 2, 6] [7, 8] (fun _ _ _ => False) (g' := 4) (by kernel_rfl) (by kernel_rfl) (fun _ _ _ _ _ h => h) hs ?_
      refine PL_val rfl (fun w => R_move rfl) ?_
      refine PL_val rfl (fun w => R_move rfl) ?_
      refine PL_val rfl (fun w => R_nilCheck rfl) ?_
      refine PL_val rfl (fun w => R_fieldAddr (off := 0) Try.underlying87 rfl rfl Try.ti23 rfl) ?_
      refine PL_end ?_
      refine HL_val rfl (fun w hs => R_loadA Try.agg25 Try.ti25 rfl (by exact cellsAt2' (hs.get (i := 1) rfl) rfl rfl)) ?_
      refine HL_val rfl (fun w hs => R_loadA Try.agg25 Try.ti25 rfl (by exact cellsAt2' (hs.get (i := 2) rfl) rfl rfl)) ?_
      refine HL_val rfl (fun w hs => R_load Try.one23 rfl (by exact hs.oldcell hB (ho3.notin hlt))) ?_
      refine HL_tail ?_
      intro w hs
      refine L_call rfl Try.fun9 rfl (when_ok a k c ps (t.xx, t.yx) (t.xv, t.yv) far w (hx.old hs ho3) hk) ?_
      rintro _ w ⟨rfl, hs'⟩
      replace hs := hs.nil hs'
      clear hs'
      refine L_move rfl rfl ?_
      refine RL_sg ?_
      refine SG_stage [9, 10, 11, 12] [] [] (fun _ _ _ => False) (g' := 0) (by kernel_rfl) (by kernel_rfl) (fun _ _ _ _ _ h => h) hs ?_
      refine PL_val rfl (fun w => R_extract rfl rfl) ?_
      refine PL_val rfl (fun w => R_extract rfl rfl) ?_
      refine PL_val rfl (fun w => R_assign rfl) ?_
      refine PL_val rfl (fun w => R_assign rfl) ?_
      refine PL_end ?_
      refine HL_tail ?_
      intro w hs
      refine RL_sg ?_
      refine SG_end (by kernel_rfl) ?_
      refine Nx_then ?_
      refine W_seq ?_
      refine W_region ?_
      refine L_move rfl rfl ?_
      refine RL_then ?_
      cases hw : (whenF ps (t.xx, t.yx) (t.xv, t.yv) far).2
      · refine W_if_false rfl ?_
        refine W_skip' ?_
        refine Nx_then ?_
        refine W_seq ?_
        refine W_region ?_
        refine L_assign rfl rfl ?_
        refine RL_then ?_
        refine W_ret' ?_
        refine Ex_done1 rfl rfl ?_
        exact ⟨_, rfl, by unfold nowF; rw [hin, if_neg (by decide), hw, if_neg (by decide)], hs.forget ho3⟩
      · refine W_if_true rfl ?_
        refine W_seq ?_
        refine W_region ?_
        refine L_assign rfl rfl ?_
        refine RL_then ?_
        refine W_ret' ?_
        refine Ex_then_ret ?_
        refine Ex_done1 rfl rfl ?_
        exact ⟨_, rfl, by unfold nowF; rw [hin, if_neg (by decide), hw, if_pos rfl], hs.forget ho3⟩
    · refine W_if_true rfl ?_
      refine W_seq ?_
      refine W_region ?_
      refine L_assign rfl rfl ?_
      refine RL_then ?_
      refine W_ret' ?_
      refine Ex_then_ret ?_
      refine Ex_done1 rfl rfl ?_
      exact ⟨_, rfl, by unfold nowF; rw [hin, if_pos rfl], hs.forget ho3⟩
end Go.Proofs.Ytoiobncojfeoiaa
