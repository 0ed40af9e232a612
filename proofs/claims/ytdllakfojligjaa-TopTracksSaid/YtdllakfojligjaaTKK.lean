/-
  A part of the proof: what functions that the statement reaches do, or a plain law on what they do. Each theorem holds under its own premises alone.
-/
import Derived.Test.YtdllakfojligjaaTKJ
namespace Go.Proofs.Ytdllakfojligjaa
open Go Go.Lk
/-! ### A book in memory; New -/
structure Bok where
 B : Nat
 mb : Nat
 r : Rul
 os : List On
 ck : Nat
 next : Int
 last : Nat
abbrev Bok.cells (k : Bok) : List Value := k.r.cells ++ [.map (some k.mb), .int .i64 k.next, .float .f64 k.last]
def entOf (o : On) : Ent := (o.t.id, o.p, o.c)
def Bok.ents (k : Bok) : List Ent := k.os.map entOf
def obs (os : List On) : Bks := os.flatMap On.bks
abbrev Bok.row (k : Bok) : Nat × Obj := (k.B, Row 88 k.cells)
abbrev Bok.mrow (k : Bok) : Nat × Obj := (k.mb, MapO (Value.int .i64) pv k.ents k.ck)
abbrev Bok.bks (k : Bok) : Bks := k.row :: k.mrow :: obs k.os
def bv (B : Nat) : Value := .pointer (some ⟨B, 0, none⟩)
structure Bok.ok (w0 : World) (n : Nat) (k : Bok) : Prop where
 B : w0.heap.size ≤ k.B
 mb : w0.heap.size ≤ k.mb
 each : ∀ o ∈ k.os, o.ok w0
 ents : EntOk k.ents k.ck
 low : ∀ o ∈ k.os, 1 ≤ o.t.id ∧ o.t.id < k.next
 next1 : 1 ≤ k.next
 next2 : k.next ≤ 1000000
 hist : ∀ o ∈ k.os, o.xs.length ≤ n ∧ o.ys.length ≤ n ∧ 0 ≤ o.t.steps ∧ o.t.steps ≤ n
 rul : RulOk k.r
 cnt : k.os.length ≤ 256
def inB (n a b : Int) : Bool := decide (a ≤ n) && decide (n ≤ b)
def gtB (x y : Nat) : Bool := FloatKind.f64.format.order x y == some .gt
def newE (r : Rul) : Int := if [r.noise, r.sway, r.gate].all finB = false then 6 else if leB r.noise 0 then 2 else if ltB r.sway 0 then 2 else if leB r.gate 0 then 2 else if gtB r.gate 4697254411347427328 then 2 else if inB r.of 1 16 = false then 2 else if inB r.need 1 r.of = false then 2 else if inB r.miss 1 16 = false then 2 else 0
def ninf : Nat := 18442240474082181120
abbrev bok0 (r : Rul) (B mb : Nat) : Bok := ⟨B, mb, r, [], 0, 1, ninf⟩
abbrev newCells (r : Rul) (mb : Nat) : List Value := r.cells ++ [.map (some mb), .int .i64 1, .float .f64 ninf]
theorem HS.swp {w0 w : World} {p q : Nat × Obj} (h : HS w0 w [q, p]) : HS w0 w [p, q] := HS.push (L := [q]) h
def newPhi (r : Rul) (b1 : Nat) (i : Nat) (v : Value) (m : Bks) : Prop := match i with
 | 0 => v = .agg r.cells.toArray ∧ m = []
 | 1 => ∃ mb, v = .map (some mb) ∧ m = [(mb, MapO (Value.int .i64) pv [] 0)]
 | 2 => v = .float .f64 ninf ∧ m = []
 | 3 => ∃ mb, v = .agg (newCells r mb).toArray ∧ m = [(mb, MapO (Value.int .i64) pv [] 0)]
 | 6 => v = .int .i64 0 ∧ m = []
 | _ => ∃ B mb, v = bv B ∧ m = [(mb, MapO (Value.int .i64) pv [] 0), (B, Row 88 (newCells r mb))]
set_option maxHeartbeats 1000000 in
theorem new_ok (r : Rul) (hn : r.noise < 18446744073709551616) (hsw : r.sway < 18446744073709551616) (hg : r.gate < 18446744073709551616) (w0 : World) : Ret Try.prog 9 [.agg r.cells.toArray] w0 fun v w' =>
  (newE r ≠ 0 ∧ v = .tuple #[.pointer none, .int .i64 (newE r)] ∧ HS w0 w' []) ∨ (newE r = 0 ∧ ∃ B mb, v = .tuple #[bv B, .int .i64 0] ∧ HS w0 w' (bok0 r B mb).bks ∧ (bok0 r B mb).ok w0 0) := by
 refine Ret.start fun w hs => ?_
 refine calls_of_W Try.func9 rfl rfl rfl ?_
 refine W_seq ?_
 refine W_region ?_
 refine L_box rfl hs rfl ?_
 intro b1 w hb1 hnb1 hs
 try dsimp only [List.set_cons_succ, List.set_cons_zero, List.cons_append, List.nil_append] at hs
 replace hs : HS w0 w [(b1, Row 25 r.cells)] := hs
 refine L_assign rfl rfl ?_
 refine L_assign rfl rfl ?_
 refine RL_then ?_
 refine W_seq ?_
 refine W_block ?_
 refine W_seq ?_
 refine W_region ?_
 refine L_fieldAddr rfl (off := 0) Try.underlying25 rfl rfl Try.ti23 rfl ?_
 refine L_load rfl Try.one23 rfl (by exact hs.cell (i := 0) rfl rfl) ?_
 refine L_fieldAddr rfl (off := 1) Try.underlying25 rfl rfl Try.ti23 rfl ?_
 refine L_load rfl Try.one23 rfl (by exact hs.cell (i := 0) rfl rfl) ?_
 refine L_fieldAddr rfl (off := 2) Try.underlying25 rfl rfl Try.ti23 rfl ?_
 refine L_load rfl Try.one23 rfl (by exact hs.cell (i := 0) rfl rfl) ?_
 refine L_buildSlice1 rfl hs Try.underlying79 Try.ti23 rfl (by decide) rfl rfl ?_
 intro b11 w hb11 hnb11 hs
 simp only [List.map_cons, List.map_nil] at hs
 try dsimp only [List.set_cons_succ, List.set_cons_zero, List.cons_append, List.nil_append] at hs
 replace hs : HS w0 w [(b1, Row 25 r.cells), (b11, Row 23 (fl [r.noise, r.sway, r.gate]))] := hs
 have hx : SlC w (some ⟨b11, 0, none⟩) (fl [r.noise, r.sway, r.gate]) := SlC.of_row (sp := []) (hs.get (i := 1) rfl)
 refine L_call rfl Try.fun34 rfl (finite_ok (some ⟨b11, 0, none⟩) 3 3 [r.noise, r.sway, r.gate] w hx rfl (by decide) (fun z hz => by match z, hz with | 0, _ => exact hn | 1, _ => exact hsw | 2, _ => exact hg)) ?_
 rintro _ w1 ⟨rfl, hs'⟩
 replace hs := hs.nil hs'
 clear hs'
 have hs1 : HS w0 w1 [(b1, Row 25 r.cells)] := HS.pop (HS.swp (p := (b11, Row 23 (fl [r.noise, r.sway, r.gate]))) hs) hb11
 clear hs hx
 have hs := hs1
 clear hs1
 cases h0 : [r.noise, r.sway, r.gate].all finB
 ·
  skip
  refine L_not rfl rfl ?_
  refine L_assign rfl rfl ?_
  refine RL_then ?_
  refine W_if_true rfl ?_
  refine W_seq ?_
  refine W_region ?_
  refine L_assign rfl rfl ?_
  refine L_assign rfl rfl ?_
  refine RL_then ?_
  refine W_ret' ?_
  refine Ex_block_ret ?_
  refine Ex_then_ret ?_
  refine Ex_done2 rfl rfl rfl ?_
  have e : newE r = 6 := by unfold newE; rw [if_pos h0]
  exact ⟨_, rfl, .inl ⟨by rw [e]; decide, by rw [e], hs.forget (Own.cons hb1 Own.nil)⟩⟩
 ·
  skip
  refine L_not rfl rfl ?_
  refine L_assign rfl rfl ?_
  refine RL_then ?_
  refine W_if_false rfl ?_
  cases h1 : leB r.noise 0
  ·
   skip
   have f1 : (FloatKind.f64.format.order r.noise 0 == some .lt || FloatKind.f64.format.order r.noise 0 == some .eq) = false := h1
   refine W_seq ?_
   refine W_seq ?_
   refine W_region ?_
   refine L_fieldAddr rfl (off := 0) Try.underlying25 rfl rfl Try.ti23 rfl ?_
   refine L_load rfl Try.one23 rfl (by exact hs.cell (i := 0) rfl rfl) ?_
   refine L_fcmp rfl rfl rfl (fun _ => by rw [binOp_float_cmp_leq, f1]; rfl) ?_
   refine L_assign rfl rfl ?_
   refine RL_then ?_
   refine W_if_false rfl ?_
   cases h2 : ltB r.sway 0
   ·
    skip
    have f2 : (FloatKind.f64.format.order r.sway 0 == some .lt) = false := h2
    refine W_seq ?_
    refine W_region ?_
    refine L_fieldAddr rfl (off := 1) Try.underlying25 rfl rfl Try.ti23 rfl ?_
    refine L_load rfl Try.one23 rfl (by exact hs.cell (i := 0) rfl rfl) ?_
    refine L_fcmp rfl rfl rfl (fun _ => by rw [binOp_float_cmp_lss, f2]; rfl) ?_
    refine L_assign rfl rfl ?_
    refine RL_then ?_
    refine W_if_false rfl ?_
    cases h3 : leB r.gate 0
    ·
     skip
     have f3 : (FloatKind.f64.format.order r.gate 0 == some .lt || FloatKind.f64.format.order r.gate 0 == some .eq) = false := h3
     refine W_seq ?_
     refine W_region ?_
     refine L_fieldAddr rfl (off := 2) Try.underlying25 rfl rfl Try.ti23 rfl ?_
     refine L_load rfl Try.one23 rfl (by exact hs.cell (i := 0) rfl rfl) ?_
     refine L_fcmp rfl rfl rfl (fun _ => by rw [binOp_float_cmp_leq, f3]; rfl) ?_
     refine L_assign rfl rfl ?_
     refine RL_then ?_
     refine W_if_false rfl ?_
     cases h4 : gtB r.gate 4697254411347427328
     ·
      skip
      have f4 : (FloatKind.f64.format.order r.gate 4697254411347427328 == some .gt) = false := h4
      refine W_region ?_
      refine L_fieldAddr rfl (off := 2) Try.underlying25 rfl rfl Try.ti23 rfl ?_
      refine L_load rfl Try.one23 rfl (by exact hs.cell (i := 0) rfl rfl) ?_
      refine L_fcmp rfl rfl rfl (fun _ => by rw [binOp_float_cmp_gtr, f4]; rfl) ?_
      refine L_assign rfl rfl ?_
      refine RL_then ?_
      refine W_if_false rfl ?_
      refine W_seq ?_
      refine W_seq ?_
      refine W_region ?_
      refine L_fieldAddr rfl (off := 4) Try.underlying25 rfl rfl Try.ti3 rfl ?_
      refine L_load rfl Try.one3 rfl (by exact hs.cell (i := 0) rfl rfl) ?_
      refine L_call rfl Try.fun35 rfl (in_ok r.of 1 16 w1) ?_
      rintro _ w1 ⟨rfl, rfl⟩
      rw [show (decide (1 ≤ r.of) && decide (r.of ≤ 16)) = inB r.of 1 16 from rfl]
      cases h5 : inB r.of 1 16
      ·
       skip
       refine L_not rfl rfl ?_
       refine L_assign rfl rfl ?_
       refine RL_then ?_
       refine W_if_true rfl ?_
       refine W_skip' ?_
       refine Nx_then ?_
       refine W_if_true rfl ?_
       refine W_seq ?_
       refine W_region ?_
       refine L_assign rfl rfl ?_
       refine L_assign rfl rfl ?_
       refine RL_then ?_
       refine W_ret' ?_
       refine Ex_block_ret ?_
       refine Ex_then_ret ?_
       refine Ex_done2 rfl rfl rfl ?_
       have e : newE r = 2 := by unfold newE; rw [if_neg (by rw [h0]; decide)]; rw [if_neg (by rw [h1]; decide)]; rw [if_neg (by rw [h2]; decide)]; rw [if_neg (by rw [h3]; decide)]; rw [if_neg (by rw [h4]; decide)]; rw [if_pos h5]
       exact ⟨_, rfl, .inl ⟨by rw [e]; decide, by rw [e], hs.forget (Own.cons hb1 Own.nil)⟩⟩
      ·
       skip
       refine L_not rfl rfl ?_
       refine L_assign rfl rfl ?_
       refine RL_then ?_
       refine W_if_false rfl ?_
       refine W_seq ?_
       refine W_region ?_
       refine L_fieldAddr rfl (off := 3) Try.underlying25 rfl rfl Try.ti3 rfl ?_
       refine L_load rfl Try.one3 rfl (by exact hs.cell (i := 0) rfl rfl) ?_
       refine L_fieldAddr rfl (off := 4) Try.underlying25 rfl rfl Try.ti3 rfl ?_
       refine L_load rfl Try.one3 rfl (by exact hs.cell (i := 0) rfl rfl) ?_
       refine L_call rfl Try.fun35 rfl (in_ok r.need 1 r.of w1) ?_
       rintro _ w1 ⟨rfl, rfl⟩
       rw [show (decide (1 ≤ r.need) && decide (r.need ≤ r.of)) = inB r.need 1 r.of from rfl]
       cases h6 : inB r.need 1 r.of
       ·
        skip
        refine L_not rfl rfl ?_
        refine L_assign rfl rfl ?_
        refine RL_then ?_
        refine W_if_true rfl ?_
        refine W_skip' ?_
        refine Nx_then ?_
        refine W_if_true rfl ?_
        refine W_seq ?_
        refine W_region ?_
        refine L_assign rfl rfl ?_
        refine L_assign rfl rfl ?_
        refine RL_then ?_
        refine W_ret' ?_
        refine Ex_block_ret ?_
        refine Ex_then_ret ?_
        refine Ex_done2 rfl rfl rfl ?_
        have e : newE r = 2 := by unfold newE; rw [if_neg (by rw [h0]; decide)]; rw [if_neg (by rw [h1]; decide)]; rw [if_neg (by rw [h2]; decide)]; rw [if_neg (by rw [h3]; decide)]; rw [if_neg (by rw [h4]; decide)]; rw [if_neg (by rw [h5]; decide)]; rw [if_pos h6]
        exact ⟨_, rfl, .inl ⟨by rw [e]; decide, by rw [e], hs.forget (Own.cons hb1 Own.nil)⟩⟩
       ·
        skip
        refine L_not rfl rfl ?_
        refine L_assign rfl rfl ?_
        refine RL_then ?_
        refine W_if_false rfl ?_
        refine W_region ?_
        refine L_fieldAddr rfl (off := 5) Try.underlying25 rfl rfl Try.ti3 rfl ?_
        refine L_load rfl Try.one3 rfl (by exact hs.cell (i := 0) rfl rfl) ?_
        refine L_call rfl Try.fun35 rfl (in_ok r.miss 1 16 w1) ?_
        rintro _ w1 ⟨rfl, rfl⟩
        rw [show (decide (1 ≤ r.miss) && decide (r.miss ≤ 16)) = inB r.miss 1 16 from rfl]
        cases h7 : inB r.miss 1 16
        ·
         skip
         refine L_not rfl rfl ?_
         refine L_assign rfl rfl ?_
         refine RL_then ?_
         refine W_if_true rfl ?_
         refine W_seq ?_
         refine W_region ?_
         refine L_assign rfl rfl ?_
         refine L_assign rfl rfl ?_
         refine RL_then ?_
         refine W_ret' ?_
         refine Ex_block_ret ?_
         refine Ex_then_ret ?_
         refine Ex_done2 rfl rfl rfl ?_
         have e : newE r = 2 := by unfold newE; rw [if_neg (by rw [h0]; decide)]; rw [if_neg (by rw [h1]; decide)]; rw [if_neg (by rw [h2]; decide)]; rw [if_neg (by rw [h3]; decide)]; rw [if_neg (by rw [h4]; decide)]; rw [if_neg (by rw [h5]; decide)]; rw [if_neg (by rw [h6]; decide)]; rw [if_pos h7]
         exact ⟨_, rfl, .inl ⟨by rw [e]; decide, by rw [e], hs.forget (Own.cons hb1 Own.nil)⟩⟩
        ·
         skip
         refine L_not rfl rfl ?_
         refine L_assign rfl rfl ?_
         refine RL_then ?_
         refine W_if_false rfl ?_
         have e : newE r = 0 := by unfold newE; rw [if_neg (by rw [h0]; decide)]; rw [if_neg (by rw [h1]; decide)]; rw [if_neg (by rw [h2]; decide)]; rw [if_neg (by rw [h3]; decide)]; rw [if_neg (by rw [h4]; decide)]; rw [if_neg (by rw [h5]; decide)]; rw [if_neg (by rw [h6]; decide)]; rw [if_neg (by rw [h7]; decide)]
         have hs0 : HS w0 w1 [(b1, Row 25 r.cells)] := hs
         refine W_skip' ?_
         refine Nx_block ?_
         refine Nx_then ?_
         refine W_seq ?_
         refine W_any (newPhi r b1) (fun i => ([[], [], [], [0, 1, 2], [3], [4], []] : List (List Nat)).getD i []) (fun i => ([[], [], [], [1], [3], [4], []] : List (List Nat)).getD i []) Try.mixed (by kernel_rfl) hs ?_ ?_
         ·
          intro i oo d ho hd V M E R w Q' hdep hlook hold hR hs hc
          match i, ho with
          | 0, ho =>
           cases ho; cases hd
           refine L_loadA rfl Try.agg25 Try.ti25 (hold 1 _ rfl (nd (by kernel_rfl))) (cellsAt_whole (hs.has _ (List.mem_append_left _ (List.mem_append_left _ (List.mem_cons_self ..))))) ?_
           exact hc _ [] w ⟨rfl, rfl⟩ Own.nil hs
          | 1, ho =>
           cases ho; cases hd
           replace hs : HS w0 w (_ ++ []) := hs
           rw [List.append_nil] at hs
           refine L_makeMap rfl hs ?_
           intro mb w hm _ hs
           exact hc _ _ _ ⟨mb, rfl, rfl⟩ (Own.cons hm Own.nil) hs
          | 2, ho =>
           cases ho; cases hd
           refine L_call rfl Try.fun36 rfl (ninf_ok w) ?_
           rintro _ w ⟨rfl, rfl⟩
           exact hc _ [] w ⟨rfl, rfl⟩ Own.nil hs
          | 3, ho =>
           cases ho; cases hd
           have e0 : Lk.look E 42 = some (.agg r.cells.toArray) := by rw [hlook 0 (by decide) _ _ rfl rfl, (hdep 0 (by decide)).1.1]
           have e2 : Lk.look E 44 = some (.float .f64 ninf) := by rw [hlook 2 (by decide) _ _ rfl rfl, (hdep 2 (by decide)).1.1]
           obtain ⟨mb, hv1, hm1⟩ : ∃ mb, V 1 = .map (some mb) ∧ M 1 = [(mb, MapO (Value.int .i64) pv [] 0)] := (hdep 1 (by decide)).1
           have o1 := (hdep 1 (by decide)).2
           have e1 : Lk.look E 43 = some (.map (some mb)) := by rw [hlook 1 (by decide) _ _ rfl rfl, hv1]
           rw [hm1] at o1
           replace hs : HS w0 w (_ ++ (M 1 ++ [])) := hs
           rw [hm1, List.append_nil] at hs
           have hev : evalPs E [(0, .tmp 42), (1, .tmp 43), (2, .const (.int .i64 1)), (3, .tmp 44)] = some [(0, .agg r.cells.toArray), (1, .map (some mb)), (2, .int .i64 1), (3, .float .f64 ninf)] := by
            simp [evalPs, evalE, e0, e1, e2]
           refine L_build rfl hev (Pl.builtN Try.pl88 rfl) ?_
           exact hc _ _ _ ⟨mb, rfl, rfl⟩ o1 hs
          | 4, ho =>
           cases ho; cases hd
           obtain ⟨mb, hv3, hm3⟩ : ∃ mb, V 3 = .agg (newCells r mb).toArray ∧ M 3 = [(mb, MapO (Value.int .i64) pv [] 0)] := (hdep 3 (by decide)).1
           have o3 := (hdep 3 (by decide)).2
           have e3 : Lk.look E 45 = some (.agg (newCells r mb).toArray) := by rw [hlook 3 (by decide) _ _ rfl rfl, hv3]
           rw [hm3] at o3
           replace hs : HS w0 w (_ ++ (M 3 ++ [])) := hs
           rw [hm3, List.append_nil] at hs
           refine L_box rfl hs e3 ?_
           intro B w hB _ hs
           rw [List.append_assoc] at hs
           exact hc _ _ _ ⟨B, mb, rfl, rfl⟩ (o3.app (Own.cons hB Own.nil)) hs
          | 5, ho =>
           cases ho; cases hd
           have o4 := (hdep 4 (by decide)).2
           have e4 : Lk.look E 46 = some (V 4) := hlook 4 (by decide) _ _ rfl rfl
           replace hs : HS w0 w (_ ++ (M 4 ++ [])) := hs
           rw [List.append_nil] at hs
           refine L_assign rfl e4 ?_
           exact hc _ (M 4) w (hdep 4 (by decide)).1 o4 hs
          | 6, ho =>
           cases ho; cases hd
           refine L_assign rfl rfl ?_
           exact hc _ [] w ⟨rfl, rfl⟩ Own.nil hs
         ·
          intro V M own w hΦ hs hown hnd E hold hlook
          have h56 : ∀ j ∈ own, j = 5 ∨ M j = [] := fun j hj => by
           have h1 := (hown j).1 hj
           have h2 := h1.1
           match j, h2 with
           | 0, _ => exact .inr (hΦ 0 (by decide)).1.2
           | 1, _ => exact absurd (List.mem_singleton.2 rfl) (h1.2 3 (by decide))
           | 2, _ => exact .inr (hΦ 2 (by decide)).1.2
           | 3, _ => exact absurd (List.mem_singleton.2 rfl) (h1.2 4 (by decide))
           | 4, _ => exact absurd (List.mem_singleton.2 rfl) (h1.2 5 (by decide))
           | 5, _ => exact .inl rfl
           | 6, _ => exact .inr (hΦ 6 (by decide)).1.2
          obtain ⟨B, mb, hv, hm⟩ : ∃ B mb, V 5 = bv B ∧ M 5 = [(mb, MapO (Value.int .i64) pv [] 0), (B, Row 88 (newCells r mb))] := (hΦ 5 (by decide)).1
          have ho5 := (hΦ 5 (by decide)).2
          have hs2 := hs.pickOwn (k := 5) ((hown 5).2 ⟨by decide, by decide⟩) (fun j hj => (hΦ j ((hown j).1 hj).1).2)
          rw [hm] at hs2 ho5
          have e2 : Lk.look E 2 = some (bv B) := by rw [hlook 5 _ _ rfl rfl, hv]
          have e3 : Lk.look E 3 = some (.int .i64 0) := by rw [hlook 6 _ _ rfl rfl, (hΦ 6 (by decide)).1.1]
          refine Nx_env (e := [(2, bv B), (3, .int .i64 0)]) ?_ (looks_cons e2 (looks_cons e3 looks_nil))
          have hBo := ho5 (B, Row 88 (newCells r mb)) (by simp)
          have hmo := ho5 (mb, MapO (Value.int .i64) pv [] 0) (by simp)
          clear hΦ hown hold hlook hnd hm hv e2 e3
          refine Nx_then ?_
          refine W_ret' ?_
          refine Ex_done2 rfl rfl rfl ?_
          refine ⟨_, rfl, .inr ⟨e, B, mb, rfl, ?_, ?_⟩⟩
          ·
           have h3 : HS w0 w (([(b1, Row 25 r.cells)] : Bks) ++ [(mb, MapO (Value.int .i64) pv [] 0), (B, Row 88 (newCells r mb))]) := hs2
           have h4 : HS w0 w [(mb, MapO (Value.int .i64) pv [] 0), (B, Row 88 (newCells r mb))] := HS.pop h3 hb1
           exact HS.swp h4
          ·
           unfold inB at h5 h6 h7
           rw [Bool.and_eq_true, decide_eq_true_eq, decide_eq_true_eq] at h5 h6 h7
           have hfin : finB r.gate = true := List.all_eq_true.1 h0 _ (by simp)
           exact ⟨hBo, hmo, fun o ho => (by cases ho), ⟨List.Pairwise.nil, fun x hx => (by cases hx), fun x hx => (by cases hx), List.nodup_nil, (show (0 : Nat) ≤ 1000 by decide)⟩, fun o ho => (by cases ho), (show (1 : Int) ≤ 1 by decide), (show (1 : Int) ≤ 1000000 by decide), fun o ho => (by cases ho), ⟨⟨hg, hfin, h4⟩, hn, hsw, h5.1, h5.2, h6.1, h6.2, h7.1, h7.2⟩, (show (0 : Nat) ≤ 256 by decide)⟩
     ·
      skip
      have f4 : (FloatKind.f64.format.order r.gate 4697254411347427328 == some .gt) = true := h4
      refine W_region ?_
      refine L_fieldAddr rfl (off := 2) Try.underlying25 rfl rfl Try.ti23 rfl ?_
      refine L_load rfl Try.one23 rfl (by exact hs.cell (i := 0) rfl rfl) ?_
      refine L_fcmp rfl rfl rfl (fun _ => by rw [binOp_float_cmp_gtr, f4]; rfl) ?_
      refine L_assign rfl rfl ?_
      refine RL_then ?_
      refine W_if_true rfl ?_
      refine W_seq ?_
      refine W_region ?_
      refine L_assign rfl rfl ?_
      refine L_assign rfl rfl ?_
      refine RL_then ?_
      refine W_ret' ?_
      refine Ex_block_ret ?_
      refine Ex_then_ret ?_
      refine Ex_done2 rfl rfl rfl ?_
      have e : newE r = 2 := by unfold newE; rw [if_neg (by rw [h0]; decide)]; rw [if_neg (by rw [h1]; decide)]; rw [if_neg (by rw [h2]; decide)]; rw [if_neg (by rw [h3]; decide)]; rw [if_pos h4]
      exact ⟨_, rfl, .inl ⟨by rw [e]; decide, by rw [e], hs.forget (Own.cons hb1 Own.nil)⟩⟩
    ·
     skip
     have f3 : (FloatKind.f64.format.order r.gate 0 == some .lt || FloatKind.f64.format.order r.gate 0 == some .eq) = true := h3
     refine W_seq ?_
     refine W_region ?_
     refine L_fieldAddr rfl (off := 2) Try.underlying25 rfl rfl Try.ti23 rfl ?_
     refine L_load rfl Try.one23 rfl (by exact hs.cell (i := 0) rfl rfl) ?_
     refine L_fcmp rfl rfl rfl (fun _ => by rw [binOp_float_cmp_leq, f3]; rfl) ?_
     refine L_assign rfl rfl ?_
     refine RL_then ?_
     refine W_if_true rfl ?_
     refine W_skip' ?_
     refine Nx_then ?_
     refine W_if_true rfl ?_
     refine W_seq ?_
     refine W_region ?_
     refine L_assign rfl rfl ?_
     refine L_assign rfl rfl ?_
     refine RL_then ?_
     refine W_ret' ?_
     refine Ex_block_ret ?_
     refine Ex_then_ret ?_
     refine Ex_done2 rfl rfl rfl ?_
     have e : newE r = 2 := by unfold newE; rw [if_neg (by rw [h0]; decide)]; rw [if_neg (by rw [h1]; decide)]; rw [if_neg (by rw [h2]; decide)]; rw [if_pos h3]
     exact ⟨_, rfl, .inl ⟨by rw [e]; decide, by rw [e], hs.forget (Own.cons hb1 Own.nil)⟩⟩
   ·
    skip
    have f2 : (FloatKind.f64.format.order r.sway 0 == some .lt) = true := h2
    refine W_seq ?_
    refine W_region ?_
    refine L_fieldAddr rfl (off := 1) Try.underlying25 rfl rfl Try.ti23 rfl ?_
    refine L_load rfl Try.one23 rfl (by exact hs.cell (i := 0) rfl rfl) ?_
    refine L_fcmp rfl rfl rfl (fun _ => by rw [binOp_float_cmp_lss, f2]; rfl) ?_
    refine L_assign rfl rfl ?_
    refine RL_then ?_
    refine W_if_true rfl ?_
    refine W_skip' ?_
    refine Nx_then ?_
    refine W_if_true rfl ?_
    refine W_seq ?_
    refine W_region ?_
    refine L_assign rfl rfl ?_
    refine L_assign rfl rfl ?_
    refine RL_then ?_
    refine W_ret' ?_
    refine Ex_block_ret ?_
    refine Ex_then_ret ?_
    refine Ex_done2 rfl rfl rfl ?_
    have e : newE r = 2 := by unfold newE; rw [if_neg (by rw [h0]; decide)]; rw [if_neg (by rw [h1]; decide)]; rw [if_pos h2]
    exact ⟨_, rfl, .inl ⟨by rw [e]; decide, by rw [e], hs.forget (Own.cons hb1 Own.nil)⟩⟩
  ·
   skip
   have f1 : (FloatKind.f64.format.order r.noise 0 == some .lt || FloatKind.f64.format.order r.noise 0 == some .eq) = true := h1
   refine W_seq ?_
   refine W_seq ?_
   refine W_region ?_
   refine L_fieldAddr rfl (off := 0) Try.underlying25 rfl rfl Try.ti23 rfl ?_
   refine L_load rfl Try.one23 rfl (by exact hs.cell (i := 0) rfl rfl) ?_
   refine L_fcmp rfl rfl rfl (fun _ => by rw [binOp_float_cmp_leq, f1]; rfl) ?_
   refine L_assign rfl rfl ?_
   refine RL_then ?_
   refine W_if_true rfl ?_
   refine W_skip' ?_
   refine Nx_then ?_
   refine W_if_true rfl ?_
   refine W_seq ?_
   refine W_region ?_
   refine L_assign rfl rfl ?_
   refine L_assign rfl rfl ?_
   refine RL_then ?_
   refine W_ret' ?_
   refine Ex_block_ret ?_
   refine Ex_then_ret ?_
   refine Ex_done2 rfl rfl rfl ?_
   have e : newE r = 2 := by unfold newE; rw [if_neg (by rw [h0]; decide)]; rw [if_pos h1]
   exact ⟨_, rfl, .inl ⟨by rw [e]; decide, by rw [e], hs.forget (Own.cons hb1 Own.nil)⟩⟩
end Go.Proofs.Ytdllakfojligjaa
