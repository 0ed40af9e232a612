/-
  A part of the proof: what functions that the statement reaches do, or a plain law on what they do. Each theorem holds under its own premises alone.
-/
import Derived.Test.YtdllakfojligjaaTKF
import Derived.Test.YtdllakfojligjaaKitY
namespace Go.Proofs.Ytdllakfojligjaa
open Go Go.Lk
/-! ### A book's rule, a track in memory; 'ends' up to the histories -/
structure Rul where
 noise : Nat
 sway : Nat
 gate : Nat
 need : Int
 of : Int
 miss : Int
def Rul.cells (r : Rul) : List Value := [.float .f64 r.noise, .float .f64 r.sway, .float .f64 r.gate, .int .i64 r.need, .int .i64 r.of, .int .i64 r.miss]
structure RulOk (r : Rul) : Prop where
 gate : GateOk r.gate
 noise : r.noise < 18446744073709551616
 sway : r.sway < 18446744073709551616
 of1 : 1 ≤ r.of
 of16 : r.of ≤ 16
 need1 : 1 ≤ r.need
 needof : r.need ≤ r.of
 miss1 : 1 ≤ r.miss
 miss16 : r.miss ≤ 16
def kindF (r : Rul) (kind : Int) (seen : Nat) (steps : Int) : Int := if r.miss ≤ steps ∧ lowF seen r.miss.toNat = 0 then 2 else if kind = 1 ∨ r.need ≤ (lowF seen r.of.toNat : Int) then 1 else kind
def endT (r : Rul) (t : Trk) (time : Nat) : Trk := { t with kind := kindF r t.kind t.seen (t.steps + 1), steps := t.steps + 1, last := time }
structure On where
 p : Nat
 t : Trk
 vx : Value
 Mx : Bks
 xs : List Stt
 vy : Value
 My : Bks
 ys : List Stt
 c : Nat
def on0 : On := ⟨0, trk0, .slice none 0 0, [], [], .slice none 0 0, [], [], 0⟩
def On.cells (o : On) : List Value := [.int .i64 o.t.id, .int .i8 o.t.kind, .float .f64 o.t.x.x, .float .f64 o.t.x.v, .float .f64 o.t.x.p, .float .f64 o.t.x.q, .float .f64 o.t.x.r, .float .f64 o.t.y.x, .float .f64 o.t.y.v, .float .f64 o.t.y.p, .float .f64 o.t.y.q, .float .f64 o.t.y.r, .int .u16 o.t.seen, .int .i64 o.t.steps, .float .f64 o.t.last, o.vx, o.vy]
def On.row (o : On) : Nat × Obj := (o.p, Row 93 o.cells)
def On.bks (o : On) : Bks := o.row :: (o.Mx ++ o.My)
structure On.ok (w0 : World) (o : On) : Prop where
 p : w0.heap.size ≤ o.p
 bx : Bl w0 46 5 o.vx o.xs.length (scs o.xs) o.Mx
 by' : Bl w0 46 5 o.vy o.ys.length (scs o.ys) o.My
 seen : o.t.seen < 65536
theorem On.ok.own {w0 : World} {o : On} (h : o.ok w0) : Own w0 o.bks := Own.cons h.p (h.bx.own.app h.by'.own)
def SPL (s : Nat) (f : FuncId) (args : Array Value) (v : Value) : Prop := match f, args.toList with
 | 70, [.int .i64 n, _] => v = .int .i64 (lowF s n.toNat)
 | _, _ => False
theorem lowestH {w0 w : World} {L : Bks} (hs : HS w0 w L) (b p s : Nat) (n : Int) (hb : w.cell? ⟨b, 0, none⟩ = some (.pointer (some ⟨p, 0, none⟩))) (hs12 : w.cell? ⟨p, 12, none⟩ = some (.int .u16 s)) (hs16 : s < 65536) (h0 : 0 ≤ n) (hn : n ≤ 16) :
  Ret Try.prog 70 ([] ++ [Value.int .i64 n] ++ [Value.pointer (some ⟨b, 0, none⟩)]) w fun v w' => SPL s 70 (([] : List Value) ++ [Value.int .i64 n] ++ [Value.pointer (some ⟨b, 0, none⟩)]).toArray v ∧ HS w0 w' L := by
 obtain ⟨m, rfl⟩ : ∃ m : Nat, n = (m : Int) := ⟨n.toNat, by omega⟩
 refine Calls.mono (lowest_ok b p s m w hb hs12 hs16 (by omega)) fun e w' => ?_
 rintro ⟨v, rfl, rfl, hs'⟩
 exact ⟨_, rfl, rfl, hs.nil hs'⟩
abbrev oRow (o : On) (t : Trk) : List Value := On.cells { o with t := t }
/-- what the operations of 'o.x, o.y = kept(o.x, t.X), kept(o.y, t.Y)' yield, in whatever order -/
def endP (w0 : World) (o : On) (t : Trk) (V : Nat → Value) (k : Nat) (v : Value) (m : Bks) : Prop := match k with
 | 0 | 1 | 3 | 4 | 7 | 8 | 13 | 14 | 17 | 18 | 22 | 25 => v = .pointer (some ⟨o.p, 0, none⟩) ∧ m = []
 | 2 | 12 => v = .func (.func 72) #[] #[] ∧ m = []
 | 5 | 23 => v = .pointer (some ((Addr.mk o.p 0 none).add 15)) ∧ m = []
 | 15 | 26 => v = .pointer (some ((Addr.mk o.p 0 none).add 16)) ∧ m = []
 | 9 => v = .pointer (some ((Addr.mk o.p 0 none).add 2)) ∧ m = []
 | 19 => v = .pointer (some ((Addr.mk o.p 0 none).add 7)) ∧ m = []
 | 6 => v = o.vx ∧ m = []
 | 16 => v = o.vy ∧ m = []
 | 10 => v = .agg o.t.x.cells.toArray ∧ m = []
 | 20 => v = .agg o.t.y.cells.toArray ∧ m = []
 | 11 => Bl w0 46 5 v (o.xs.length + 1) (scs (o.xs ++ [o.t.x])) m
 | 21 => Bl w0 46 5 v (o.ys.length + 1) (scs (o.ys ++ [o.t.y])) m
 | 24 => m = [(o.p, Row 93 ((oRow o t).set 15 (V 11)))]
 | 27 => m = [(o.p, Row 93 (((oRow o t).set 15 (V 11)).set 16 (V 21)))]
 | 100 => m = o.Mx
 | 101 => m = o.My
 | 102 => m = [(o.p, Row 93 (oRow o t))]
 | _ => False
def endM (o : On) (t : Trk) (k : Nat) : Bks := if k = 100 then o.Mx else if k = 101 then o.My else if k = 102 then [(o.p, Row 93 (oRow o t))] else []
theorem endP_loc (w0 : World) (o : On) (t : Trk) : ∀ (k : Nat) (V V' : Nat → Value) (v : Value) (m : Bks), (∀ d ∈ (([[], [], [], [], [3], [4], [5, 102], [], [7], [8], [9, 102], [2, 6, 10, 100], [], [], [13], [14], [15, 102], [], [17], [18], [19, 102], [12, 16, 20, 101], [0], [22], [23, 11, 102], [1], [25], [26, 21, 24, 11]] : List (List Nat)).getD k []), V d = V' d) → endP w0 o t V k v m → endP w0 o t V' k v m := by
 intro k V V' v m h hp
 by_cases h24 : k = 24
 ·
  subst h24
  have e := h 11 (by decide)
  show m = _
  rw [← e]; exact hp
 ·
  by_cases h27 : k = 27
  ·
   subst h27
   have e1 := h 11 (by decide)
   have e2 := h 21 (by decide)
   show m = _
   rw [← e1, ← e2]; exact hp
  ·
   unfold endP at hp
   split at hp <;> first | exact hp | exact absurd rfl h24 | exact absurd rfl h27 | exact False.elim hp
set_option maxHeartbeats 1000000 in
theorem ends_ok (w0 w : World) (B time : Nat) (r : Rul) (rest : List Value) (o : On) (L : Bks) (hs : HS w0 w (L ++ o.bks)) (ho : o.ok w0) (hB : (B, Row 88 (r.cells ++ rest)) ∈ L) (hr : RulOk r) (hst : 0 ≤ o.t.steps ∧ o.t.steps ≤ 1000000) (hl : o.xs.length + 1 ≤ 1024) (hl2 : o.ys.length + 1 ≤ 1024) (hoL : Own w0 L) :
  Ret Try.prog 44 [.pointer (some ⟨B, 0, none⟩), .pointer (some ⟨o.p, 0, none⟩), .float .f64 time] w fun _ w' => ∃ o' : On, o'.p = o.p ∧ o'.c = o.c ∧ o'.t = endT r o.t time ∧ o'.xs = o.xs ++ [o.t.x] ∧ o'.ys = o.ys ++ [o.t.y] ∧ HS w0 w' (L ++ o'.bks) ∧ o'.ok w0 := by
 obtain ⟨Z, hZ⟩ : ∃ Z, Z = o.Mx ++ (o.My ++ L) := ⟨_, rfl⟩
 have hBZ : (B, Row 88 (r.cells ++ rest)) ∈ Z := by rw [hZ]; simp [hB]
 have h1 : HS w0 w ((o.p, Row 93 (oRow o o.t)) :: Z) := by
  have h2 : HS w0 w (L ++ (o.row :: (o.Mx ++ o.My))) := hs
  rw [hZ]
  exact HS.re (L' := o.row :: (o.Mx ++ (o.My ++ L))) h2 (fun c => by simp only [List.map_append, List.map_cons, List.map_nil, List.sum_append, List.sum_cons, List.sum_nil]; omega)
 clear hs
 have hs := h1
 clear h1
 have hp := ho.p
 have hrB : ∀ {w' : World} {L' : Bks} {j : Nat} {v : Value}, HS w0 w' L' → (∀ q ∈ Z, q ∈ L') → (r.cells ++ rest)[j]? = some v → w'.cell? ⟨B, j, none⟩ = some v := fun h1 h2 h3 => Lk.cell_of_row (h1.has _ (h2 _ hBZ)) h3
 refine calls_of_W Try.func44 rfl rfl rfl ?_
 refine W_seq ?_
 refine W_region ?_
 refine L_move rfl rfl ?_
 refine L_nilCheck rfl rfl ?_
 refine L_fieldAddr rfl (off := 0) Try.underlying93 rfl rfl Try.ti49 rfl ?_
 refine L_alloc rfl hs Try.ti100 ?_; intro b6 w hb6 _ hs; replace hs := HS.push hs
 refine L_store hs (i := 0) rfl Try.ti100 rfl rfl (by first | rfl | exact add_lit0 _ _ | exact Addr.add_lit .. | (rw [add_add]; exact add_lit0 _ _)) (by simp) rfl ?_
 intro w hs
 try dsimp only [List.set_cons_succ, List.set_cons_zero, List.cons_append, List.nil_append] at hs
 refine RL_then ?_
 refine W_seq ?_
 replace hs : HS w0 w ((b6, Row 100 [.pointer (some ⟨o.p, 0, none⟩)]) :: (o.p, Row 93 (oRow o o.t)) :: Z) := hs
 refine W_region ?_
 refine L_load rfl Try.one100 rfl (by first | exact hs.cell (i := 0) rfl rfl | exact hs.cell (i := 1) rfl rfl) ?_
 refine L_nilCheck rfl rfl ?_
 refine L_fieldAddr rfl (off := 13) Try.underlying49 rfl rfl Try.ti3 rfl ?_
 refine L_load rfl Try.one3 rfl (by first | exact hs.cell (i := 0) rfl rfl | exact hs.cell (i := 1) rfl rfl) ?_
 refine RL_set 15 (v' := .int .i64 o.t.steps) rfl (rfl) ?_
 first | refine L_add rfl rfl rfl (wrp_i64 (by omega)) ?_ | refine L_add rfl rfl rfl rfl ?_
 refine L_nilCheck rfl rfl ?_
 refine L_fieldAddr rfl (off := 13) Try.underlying49 rfl rfl Try.ti3 rfl ?_
 refine L_store hs (i := 1) rfl Try.ti3 rfl rfl (by first | rfl | exact add_lit0 _ _ | exact Addr.add_lit .. | (rw [add_add]; exact add_lit0 _ _)) (by simp [On.cells]) rfl ?_
 intro w hs
 try dsimp only [List.set_cons_succ, List.set_cons_zero, List.cons_append, List.nil_append] at hs
 refine RL_then ?_
 refine W_seq ?_
 refine W_region ?_
 refine L_load rfl Try.one100 rfl (by first | exact hs.cell (i := 0) rfl rfl | exact hs.cell (i := 1) rfl rfl) ?_
 refine L_move rfl rfl ?_
 refine L_nilCheck rfl rfl ?_
 refine L_fieldAddr rfl (off := 14) Try.underlying49 rfl rfl Try.ti23 rfl ?_
 refine L_store hs (i := 1) rfl Try.ti23 rfl rfl (by first | rfl | exact add_lit0 _ _ | exact Addr.add_lit .. | (rw [add_add]; exact add_lit0 _ _)) (by simp [On.cells]) rfl ?_
 intro w hs
 try dsimp only [List.set_cons_succ, List.set_cons_zero, List.cons_append, List.nil_append] at hs
 refine RL_then ?_
 refine W_seq ?_
 obtain ⟨st, hst'⟩ : ∃ st, st = o.t.steps + 1 := ⟨_, rfl⟩
 replace hs : HS w0 w ((b6, Row 100 [.pointer (some ⟨o.p, 0, none⟩)]) :: (o.p, Row 93 (oRow o { o.t with steps := st, last := time })) :: Z) := by rw [hst']; exact hs
 refine W_region ?_
 refine RL_val rfl (R_makeFunc rfl rfl) ?_
 refine L_assign rfl rfl ?_
 refine RL_then ?_
 refine W_seq ?_
 refine W_cut2 (fun (kd : Int) (w : World) => [(0, .pointer (some ⟨B, 0, none⟩)), (1, .pointer (some ⟨o.p, 0, none⟩)), (6, .pointer (some ⟨b6, 0, none⟩))]) (fun (kd : Int) (w : World) => w) (fun (kd : Int) (w : World) => (kd = kindF r o.t.kind o.t.seen st) ∧ (HS w0 w ((b6, Row 100 [.pointer (some ⟨o.p, 0, none⟩)]) :: (o.p, Row 93 (oRow o { o.t with kind := kd, steps := st, last := time })) :: Z))) ?_ ?_
 ·
  have hZ1 : ∀ {v1 v2 : Nat × Obj}, ∀ q ∈ Z, q ∈ v1 :: v2 :: Z := fun q hq => List.mem_cons_of_mem _ (List.mem_cons_of_mem _ hq)
  have hm1 := hr.miss1
  have hm16 := hr.miss16
  have ho1 := hr.of1
  have ho16 := hr.of16
  obtain ⟨lm, hlm⟩ : ∃ lm, lm = lowF o.t.seen r.miss.toNat := ⟨_, rfl⟩
  refine W_block ?_
  refine W_seq ?_
  refine W_cut2 (fun (g : Bool) (w : World) => [(0, .pointer (some ⟨B, 0, none⟩)), (1, .pointer (some ⟨o.p, 0, none⟩)), (6, .pointer (some ⟨b6, 0, none⟩)), (7, .func (.func 70) #[] #[.pointer (some ⟨b6, 0, none⟩)]), (24, .bool g)]) (fun (g : Bool) (w : World) => w) (fun (g : Bool) (w : World) => (g = decide (r.miss ≤ st ∧ lm = 0)) ∧ (HS w0 w ((b6, Row 100 [.pointer (some ⟨o.p, 0, none⟩)]) :: (o.p, Row 93 (oRow o { o.t with steps := st, last := time })) :: Z))) ?_ ?_
  ·
   by_cases h1 : r.miss ≤ st
   ·
    skip
    refine W_pht [4, 5, 6, 7] [0, 1, 2, 3, 8, 9, 10, 11, 12, 13, 14, 15, 16] [17, 18, 19, 20] (fun _ _ _ => False) Try.mixed (by kernel_rfl) (fun _ _ _ _ _ h => h) hs ?_
    refine PL_val rfl (fun w => R_move rfl) ?_
    refine PL_val rfl (fun w => R_nilCheck rfl) ?_
    refine PL_val rfl (fun w => R_fieldAddr (off := 0) Try.underlying88 rfl rfl Try.ti25 rfl) ?_
    refine PL_val rfl (fun w => R_fieldAddr (off := 5) Try.underlying25 rfl rfl Try.ti3 rfl) ?_
    refine PL_end ?_
    refine HL_val rfl (fun w hs => R_load Try.one100 rfl (by first | exact hs.cell (i := 0) rfl rfl | exact hs.cell (i := 1) rfl rfl)) ?_
    refine HL_val rfl (fun w hs => R_nilCheck rfl) ?_
    refine HL_val rfl (fun w hs => R_fieldAddr (off := 13) Try.underlying49 rfl rfl Try.ti3 rfl) ?_
    refine HL_val rfl (fun w hs => R_load Try.one3 rfl (by first | exact hs.cell (i := 0) rfl rfl | exact hs.cell (i := 1) rfl rfl)) ?_
    refine HL_val rfl (fun w hs => R_load Try.one3 rfl (by exact hrB hs hZ1 (j := 5) rfl)) ?_
    first | refine HL_val rfl (fun w hs => R_geq rfl rfl (dtrue (by omega))) ?_ | refine HL_val rfl (fun w hs => R_geq rfl rfl (dfalse (by omega))) ?_ | refine HL_val rfl (fun w hs => R_geq rfl rfl rfl) ?_
    refine HL_val rfl (fun w hs => R_move rfl) ?_
    first | (refine HL_want rfl rfl ?_; refine HL_val rfl (fun w hs => R_move rfl) ?_) | refine HL_skip rfl rfl rfl rfl ?_ | refine HL_skipU rfl rfl rfl ?_
    first | (refine HL_want rfl rfl ?_; refine HL_val rfl (fun w hs => R_move rfl) ?_) | refine HL_skip rfl rfl rfl rfl ?_ | refine HL_skipU rfl rfl rfl ?_
    first | (refine HL_want rfl rfl ?_; refine HL_val rfl (fun w hs => R_nilCheck rfl) ?_) | refine HL_skip rfl rfl rfl rfl ?_ | refine HL_skipU rfl rfl rfl ?_
    first | (refine HL_want rfl rfl ?_; refine HL_val rfl (fun w hs => R_fieldAddr (off := 0) Try.underlying88 rfl rfl Try.ti25 rfl) ?_) | refine HL_skip rfl rfl rfl rfl ?_ | refine HL_skipU rfl rfl rfl ?_
    first | (refine HL_want rfl rfl ?_; refine HL_val rfl (fun w hs => R_fieldAddr (off := 5) Try.underlying25 rfl rfl Try.ti3 rfl) ?_) | refine HL_skip rfl rfl rfl rfl ?_ | refine HL_skipU rfl rfl rfl ?_
    first | (refine HL_want rfl rfl ?_; refine HL_val rfl (fun w hs => R_load Try.one3 rfl (by exact hrB hs hZ1 (j := 5) rfl)) ?_) | refine HL_skip rfl rfl rfl rfl ?_ | refine HL_skipU rfl rfl rfl ?_
    refine HL_tail ?_
    intro w hs
    refine RL_want rfl rfl (L_callV rfl Try.fun70 rfl rfl (lowestH hs b6 o.p o.t.seen r.miss (hs.cell (i := 0) rfl rfl) (hs.cell (i := 1) rfl rfl) ho.seen (by omega) hm16) ?_)
    rintro _ w ⟨hv, hs⟩
    obtain rfl := hv
    rw [← hlm]
    by_cases h2 : lm = 0
    ·
     first | (refine RL_want rfl rfl ?_; (first | refine L_eql rfl rfl rfl (dtrue (by omega)) ?_ | refine L_eql rfl rfl rfl (dfalse (by omega)) ?_ | refine L_eql rfl rfl rfl rfl ?_)) | refine RL_skip rfl rfl rfl rfl ?_ | refine RL_skipU rfl rfl rfl ?_
     first | refine L_pick_t rfl rfl rfl ?_ | refine L_pick_f rfl rfl rfl ?_
     refine L_assign rfl rfl ?_
     refine RL_nil' ?_
     refine Nx_cutP (true, w) (is := [0, 1, 6, 7, 24]) (I' := (fun (g : Bool) (w : World) => (g = decide (r.miss ≤ st ∧ lm = 0)) ∧ (HS w0 w ((b6, Row 100 [.pointer (some ⟨o.p, 0, none⟩)]) :: (o.p, Row 93 (oRow o { o.t with steps := st, last := time })) :: Z))) (true) (w)) rfl rfl rfl ?_
     exact ⟨(decide_eq_true ⟨h1, h2⟩).symm, hs⟩
    ·
     first | (refine RL_want rfl rfl ?_; (first | refine L_eql rfl rfl rfl (dtrue (by omega)) ?_ | refine L_eql rfl rfl rfl (dfalse (by omega)) ?_ | refine L_eql rfl rfl rfl rfl ?_)) | refine RL_skip rfl rfl rfl rfl ?_ | refine RL_skipU rfl rfl rfl ?_
     first | refine L_pick_t rfl rfl rfl ?_ | refine L_pick_f rfl rfl rfl ?_
     refine L_assign rfl rfl ?_
     refine RL_nil' ?_
     refine Nx_cutP (false, w) (is := [0, 1, 6, 7, 24]) (I' := (fun (g : Bool) (w : World) => (g = decide (r.miss ≤ st ∧ lm = 0)) ∧ (HS w0 w ((b6, Row 100 [.pointer (some ⟨o.p, 0, none⟩)]) :: (o.p, Row 93 (oRow o { o.t with steps := st, last := time })) :: Z))) (false) (w)) rfl rfl rfl ?_
     exact ⟨(decide_eq_false fun h => h2 h.2).symm, hs⟩
   ·
    refine W_pht [4, 5, 6, 7] [0, 1, 2, 3, 8, 9, 10, 11, 12, 13, 14, 15, 16] [17, 18, 19, 20] (fun _ _ _ => False) Try.mixed (by kernel_rfl) (fun _ _ _ _ _ h => h) hs ?_
    refine PL_val rfl (fun w => R_move rfl) ?_
    refine PL_val rfl (fun w => R_nilCheck rfl) ?_
    refine PL_val rfl (fun w => R_fieldAddr (off := 0) Try.underlying88 rfl rfl Try.ti25 rfl) ?_
    refine PL_val rfl (fun w => R_fieldAddr (off := 5) Try.underlying25 rfl rfl Try.ti3 rfl) ?_
    refine PL_end ?_
    refine HL_val rfl (fun w hs => R_load Try.one100 rfl (by first | exact hs.cell (i := 0) rfl rfl | exact hs.cell (i := 1) rfl rfl)) ?_
    refine HL_val rfl (fun w hs => R_nilCheck rfl) ?_
    refine HL_val rfl (fun w hs => R_fieldAddr (off := 13) Try.underlying49 rfl rfl Try.ti3 rfl) ?_
    refine HL_val rfl (fun w hs => R_load Try.one3 rfl (by first | exact hs.cell (i := 0) rfl rfl | exact hs.cell (i := 1) rfl rfl)) ?_
    refine HL_val rfl (fun w hs => R_load Try.one3 rfl (by exact hrB hs hZ1 (j := 5) rfl)) ?_
    first | refine HL_val rfl (fun w hs => R_geq rfl rfl (dtrue (by omega))) ?_ | refine HL_val rfl (fun w hs => R_geq rfl rfl (dfalse (by omega))) ?_ | refine HL_val rfl (fun w hs => R_geq rfl rfl rfl) ?_
    refine HL_val rfl (fun w hs => R_move rfl) ?_
    first | (refine HL_want rfl rfl ?_; refine HL_val rfl (fun w hs => R_move rfl) ?_) | refine HL_skip rfl rfl rfl rfl ?_ | refine HL_skipU rfl rfl rfl ?_
    first | (refine HL_want rfl rfl ?_; refine HL_val rfl (fun w hs => R_move rfl) ?_) | refine HL_skip rfl rfl rfl rfl ?_ | refine HL_skipU rfl rfl rfl ?_
    first | (refine HL_want rfl rfl ?_; refine HL_val rfl (fun w hs => R_nilCheck rfl) ?_) | refine HL_skip rfl rfl rfl rfl ?_ | refine HL_skipU rfl rfl rfl ?_
    first | (refine HL_want rfl rfl ?_; refine HL_val rfl (fun w hs => R_fieldAddr (off := 0) Try.underlying88 rfl rfl Try.ti25 rfl) ?_) | refine HL_skip rfl rfl rfl rfl ?_ | refine HL_skipU rfl rfl rfl ?_
    first | (refine HL_want rfl rfl ?_; refine HL_val rfl (fun w hs => R_fieldAddr (off := 5) Try.underlying25 rfl rfl Try.ti3 rfl) ?_) | refine HL_skip rfl rfl rfl rfl ?_ | refine HL_skipU rfl rfl rfl ?_
    first | (refine HL_want rfl rfl ?_; refine HL_val rfl (fun w hs => R_load Try.one3 rfl (by exact hrB hs hZ1 (j := 5) rfl)) ?_) | refine HL_skip rfl rfl rfl rfl ?_ | refine HL_skipU rfl rfl rfl ?_
    refine HL_tail ?_
    intro w hs
    first | refine RL_skip rfl rfl rfl rfl ?_ | refine RL_skipU rfl rfl rfl ?_
    first | (refine RL_want rfl rfl ?_; (first | refine L_eql rfl rfl rfl (dtrue (by omega)) ?_ | refine L_eql rfl rfl rfl (dfalse (by omega)) ?_ | refine L_eql rfl rfl rfl rfl ?_)) | refine RL_skip rfl rfl rfl rfl ?_ | refine RL_skipU rfl rfl rfl ?_
    first | refine L_pick_t rfl rfl rfl ?_ | refine L_pick_f rfl rfl rfl ?_
    refine L_assign rfl rfl ?_
    refine RL_nil' ?_
    refine Nx_cutP (false, _) (is := [0, 1, 6, 7, 24]) (I' := (fun (g : Bool) (w : World) => (g = decide (r.miss ≤ st ∧ lm = 0)) ∧ (HS w0 w ((b6, Row 100 [.pointer (some ⟨o.p, 0, none⟩)]) :: (o.p, Row 93 (oRow o { o.t with steps := st, last := time })) :: Z))) (false) (_)) rfl rfl rfl ?_
    exact ⟨(decide_eq_false fun h => h1 h.1).symm, hs⟩
  ·
   clear hs
   intro g w hI
   show W _ _ _ _ [(0, .pointer (some ⟨B, 0, none⟩)), (1, .pointer (some ⟨o.p, 0, none⟩)), (6, .pointer (some ⟨b6, 0, none⟩)), (7, .func (.func 70) #[] #[.pointer (some ⟨b6, 0, none⟩)]), (24, .bool g)] w
   obtain ⟨hg, hs⟩ := hI
   by_cases h1 : r.miss ≤ st ∧ lm = 0
   ·
    obtain rfl : g = true := by rw [hg]; exact decide_eq_true h1
    have e : (2 : Int) = kindF r o.t.kind o.t.seen st := by unfold kindF; rw [← hlm, if_pos h1]
    refine W_if_true rfl ?_
    refine W_region ?_
    refine L_load rfl Try.one100 rfl (by first | exact hs.cell (i := 0) rfl rfl | exact hs.cell (i := 1) rfl rfl) ?_
    refine L_nilCheck rfl rfl ?_
    refine L_fieldAddr rfl (off := 1) Try.underlying49 rfl rfl Try.ti44 rfl ?_
    refine L_store hs (i := 1) rfl Try.ti44 rfl rfl (by first | rfl | exact add_lit0 _ _ | exact Addr.add_lit .. | (rw [add_add]; exact add_lit0 _ _)) (by simp [On.cells]) rfl ?_
    intro w hs
    try dsimp only [List.set_cons_succ, List.set_cons_zero, List.cons_append, List.nil_append] at hs
    refine RL_nil' ?_
    refine Nx_block ?_
    refine Nx_cutP (2, w) (is := [0, 1, 6]) (I' := (fun (kd : Int) (w : World) => (kd = kindF r o.t.kind o.t.seen st) ∧ (HS w0 w ((b6, Row 100 [.pointer (some ⟨o.p, 0, none⟩)]) :: (o.p, Row 93 (oRow o { o.t with kind := kd, steps := st, last := time })) :: Z))) (2) (w)) rfl rfl rfl ?_
    exact ⟨e, hs⟩
   ·
    obtain rfl : g = false := by rw [hg]; exact decide_eq_false h1
    refine W_if_false rfl ?_
    by_cases h2 : o.t.kind = 1
    ·
     have e : (1 : Int) = kindF r o.t.kind o.t.seen st := by unfold kindF; rw [← hlm, if_neg h1, if_pos (.inl h2)]
     refine W_seq ?_
     refine W_seq ?_
     refine W_region ?_
     refine L_load rfl Try.one100 rfl (by first | exact hs.cell (i := 0) rfl rfl | exact hs.cell (i := 1) rfl rfl) ?_
     refine L_nilCheck rfl rfl ?_
     refine L_fieldAddr rfl (off := 1) Try.underlying49 rfl rfl Try.ti44 rfl ?_
     refine L_load rfl Try.one44 rfl (by first | exact hs.cell (i := 0) rfl rfl | exact hs.cell (i := 1) rfl rfl) ?_
     refine RL_set 52 (v' := .int .i8 o.t.kind) rfl (rfl) ?_
     first | refine L_eql rfl rfl rfl (dtrue (by omega)) ?_ | refine L_eql rfl rfl rfl (dfalse (by omega)) ?_ | refine L_eql rfl rfl rfl rfl ?_
     refine L_assign rfl rfl ?_
     refine RL_then ?_
     refine W_if_true rfl ?_
     refine W_skip' ?_
     refine Nx_then ?_
     refine W_if_true rfl ?_
     refine W_region ?_
     refine L_load rfl Try.one100 rfl (by first | exact hs.cell (i := 0) rfl rfl | exact hs.cell (i := 1) rfl rfl) ?_
     refine L_nilCheck rfl rfl ?_
     refine L_fieldAddr rfl (off := 1) Try.underlying49 rfl rfl Try.ti44 rfl ?_
     refine L_store hs (i := 1) rfl Try.ti44 rfl rfl (by first | rfl | exact add_lit0 _ _ | exact Addr.add_lit .. | (rw [add_add]; exact add_lit0 _ _)) (by simp [On.cells]) rfl ?_
     intro w hs
     try dsimp only [List.set_cons_succ, List.set_cons_zero, List.cons_append, List.nil_append] at hs
     refine RL_nil' ?_
     refine Nx_block ?_
     refine Nx_cutP (1, _) (is := [0, 1, 6]) (I' := (fun (kd : Int) (w : World) => (kd = kindF r o.t.kind o.t.seen st) ∧ (HS w0 w ((b6, Row 100 [.pointer (some ⟨o.p, 0, none⟩)]) :: (o.p, Row 93 (oRow o { o.t with kind := kd, steps := st, last := time })) :: Z))) (1) (_)) rfl rfl rfl ?_
     exact ⟨e, hs⟩
    ·
     refine W_seq ?_
     refine W_seq ?_
     refine W_region ?_
     refine L_load rfl Try.one100 rfl (by first | exact hs.cell (i := 0) rfl rfl | exact hs.cell (i := 1) rfl rfl) ?_
     refine L_nilCheck rfl rfl ?_
     refine L_fieldAddr rfl (off := 1) Try.underlying49 rfl rfl Try.ti44 rfl ?_
     refine L_load rfl Try.one44 rfl (by first | exact hs.cell (i := 0) rfl rfl | exact hs.cell (i := 1) rfl rfl) ?_
     refine RL_set 52 (v' := .int .i8 o.t.kind) rfl (rfl) ?_
     first | refine L_eql rfl rfl rfl (dtrue (by omega)) ?_ | refine L_eql rfl rfl rfl (dfalse (by omega)) ?_ | refine L_eql rfl rfl rfl rfl ?_
     refine L_assign rfl rfl ?_
     refine RL_then ?_
     refine W_if_false rfl ?_
     refine W_sg Try.mixed ?_
     replace hs := hs.drewN 1
     refine SG_stageB [0, 1, 2, 3, 4, 7, 8, 9, 10] [5, 6, 11, 12, 13] [] (noBk (SPL o.t.seen)) (g' := 0) (by kernel_rfl) (by kernel_rfl) (fun _ _ _ _ _ h => h) hs ?_
     refine PL_val rfl (fun w => R_move rfl) ?_
     refine PL_val rfl (fun w => R_move rfl) ?_
     refine PL_val rfl (fun w => R_nilCheck rfl) ?_
     refine PL_val rfl (fun w => R_fieldAddr (off := 0) Try.underlying88 rfl rfl Try.ti25 rfl) ?_
     refine PL_val rfl (fun w => R_fieldAddr (off := 4) Try.underlying25 rfl rfl Try.ti3 rfl) ?_
     refine PL_val rfl (fun w => R_move rfl) ?_
     refine PL_val rfl (fun w => R_nilCheck rfl) ?_
     refine PL_val rfl (fun w => R_fieldAddr (off := 0) Try.underlying88 rfl rfl Try.ti25 rfl) ?_
     refine PL_val rfl (fun w => R_fieldAddr (off := 3) Try.underlying25 rfl rfl Try.ti3 rfl) ?_
     refine PL_endB ?_
     refine HB_val rfl (fun w R hR hs => R_load Try.one3 rfl (by exact hrB hs (fun q hq => List.mem_append_left _ (hZ1 q hq)) (j := 4) rfl)) ?_
     refine HB_callV rfl Try.fun70 rfl rfl (fun w R hR hs => lowestH hs b6 o.p o.t.seen r.of (hs.cell (i := 0) rfl rfl) (hs.cell (i := 1) rfl rfl) ho.seen (by omega) ho16) ?_
     rintro _ hv
     obtain rfl := hv
     obtain ⟨lo, hlo⟩ : ∃ lo, lo = lowF o.t.seen r.of.toNat := ⟨_, rfl⟩
     rw [← hlo]
     by_cases h3 : r.need ≤ (lo : Int)
     ·
      have e : (1 : Int) = kindF r o.t.kind o.t.seen st := by unfold kindF; rw [← hlm, if_neg h1, if_pos (.inr (by rw [← hlo]; exact h3))]
      refine HB_val rfl (fun w R hR hs => R_load Try.one3 rfl (by exact hrB hs (fun q hq => List.mem_append_left _ (hZ1 q hq)) (j := 3) rfl)) ?_
      first | refine HB_val rfl (fun w R hR hs => R_geq rfl rfl (dtrue (by omega))) ?_ | refine HB_val rfl (fun w R hR hs => R_geq rfl rfl (dfalse (by omega))) ?_ | refine HB_val rfl (fun w R hR hs => R_geq rfl rfl rfl) ?_
      refine HB_val rfl (fun w R hR hs => R_assign rfl) ?_
      refine HB_tail ?_
      intro w hs
      refine RL_sg ?_
      refine SG_end (by kernel_rfl) ?_
      refine Nx_then ?_
      refine W_if_true rfl ?_
      refine W_region ?_
      refine L_load rfl Try.one100 rfl (by first | exact hs.cell (i := 0) rfl rfl | exact hs.cell (i := 1) rfl rfl) ?_
      refine L_nilCheck rfl rfl ?_
      refine L_fieldAddr rfl (off := 1) Try.underlying49 rfl rfl Try.ti44 rfl ?_
      refine L_store hs (i := 1) rfl Try.ti44 rfl rfl (by first | rfl | exact add_lit0 _ _ | exact Addr.add_lit .. | (rw [add_add]; exact add_lit0 _ _)) (by simp [On.cells]) rfl ?_
      intro w hs
      try dsimp only [List.set_cons_succ, List.set_cons_zero, List.cons_append, List.nil_append] at hs
      refine RL_nil' ?_
      refine Nx_block ?_
      refine Nx_cutP (1, _) (is := [0, 1, 6]) (I' := (fun (kd : Int) (w : World) => (kd = kindF r o.t.kind o.t.seen st) ∧ (HS w0 w ((b6, Row 100 [.pointer (some ⟨o.p, 0, none⟩)]) :: (o.p, Row 93 (oRow o { o.t with kind := kd, steps := st, last := time })) :: Z))) (1) (_)) rfl rfl rfl ?_
      exact ⟨e, by rw [List.append_nil] at hs; exact hs⟩
     ·
      have e : o.t.kind = kindF r o.t.kind o.t.seen st := by unfold kindF; rw [← hlm, if_neg h1, if_neg (fun h => h.elim h2 fun h => h3 (by rw [hlo]; exact h))]
      refine HB_val rfl (fun w R hR hs => R_load Try.one3 rfl (by exact hrB hs (fun q hq => List.mem_append_left _ (hZ1 q hq)) (j := 3) rfl)) ?_
      first | refine HB_val rfl (fun w R hR hs => R_geq rfl rfl (dtrue (by omega))) ?_ | refine HB_val rfl (fun w R hR hs => R_geq rfl rfl (dfalse (by omega))) ?_ | refine HB_val rfl (fun w R hR hs => R_geq rfl rfl rfl) ?_
      refine HB_val rfl (fun w R hR hs => R_assign rfl) ?_
      refine HB_tail ?_
      intro w hs
      refine RL_sg ?_
      refine SG_end (by kernel_rfl) ?_
      refine Nx_then ?_
      refine W_if_false rfl ?_
      refine W_skip' ?_
      refine Nx_block ?_
      refine Nx_cutP (o.t.kind, _) (is := [0, 1, 6]) (I' := (fun (kd : Int) (w : World) => (kd = kindF r o.t.kind o.t.seen st) ∧ (HS w0 w ((b6, Row 100 [.pointer (some ⟨o.p, 0, none⟩)]) :: (o.p, Row 93 (oRow o { o.t with kind := kd, steps := st, last := time })) :: Z))) (o.t.kind) (_)) rfl rfl rfl ?_
      exact ⟨e, by rw [List.append_nil] at hs; exact hs⟩
 ·
  clear hs
  intro kd w hI
  show W _ _ _ _ [(0, .pointer (some ⟨B, 0, none⟩)), (1, .pointer (some ⟨o.p, 0, none⟩)), (6, .pointer (some ⟨b6, 0, none⟩))] w
  obtain ⟨hkd, hs⟩ := hI
  obtain ⟨t1, ht1⟩ : ∃ t1 : Trk, t1 = { o.t with kind := kd, steps := st, last := time } := ⟨_, rfl⟩
  have hx1 : t1.x = o.t.x := by rw [ht1]
  have hy1 : t1.y = o.t.y := by rw [ht1]
  rw [← ht1] at hs
  obtain ⟨L0, hL0⟩ : ∃ L0, L0 = (b6, Row 100 [.pointer (some ⟨o.p, 0, none⟩)]) :: L := ⟨_, rfl⟩
  have h6L : (b6, Row 100 [.pointer (some ⟨o.p, 0, none⟩)]) ∈ L0 := by rw [hL0]; exact List.mem_cons_self ..
  have hs0 : HS w0 w (L0 ++ [100, 101, 102].flatMap (endM o t1)) := by
   show HS w0 w (L0 ++ (o.Mx ++ (o.My ++ ([(o.p, Row 93 (oRow o t1))] ++ []))))
   rw [hL0]
   rw [hZ] at hs
   exact HS.re hs (fun c => by simp only [List.map_append, List.map_cons, List.map_nil, List.sum_append, List.sum_cons, List.sum_nil]; omega)
  clear hs
  have hs := hs0
  clear hs0
  refine W_seq ?_
  refine W_region ?_
  refine L_assign rfl rfl ?_
  refine RL_then ?_
  have hM0 : ∀ k ∈ [100, 101, 102], ∀ V : Nat → Value, endP w0 o t1 V k .nilIface (endM o t1 k) ∧ Own w0 (endM o t1 k) := by
   intro k hk V
   simp only [List.mem_cons, List.not_mem_nil, or_false] at hk
   rcases hk with rfl | rfl | rfl
   ·
    exact ⟨rfl, ho.bx.own⟩
   ·
    exact ⟨rfl, ho.by'.own⟩
   ·
    exact ⟨rfl, Own.cons hp Own.nil⟩
  refine W_anyP (endP w0 o t1) (fun i => ([[], [], [], [], [3], [4], [5, 102], [], [7], [8], [9, 102], [2, 6, 10, 100], [], [], [13], [14], [15, 102], [], [17], [18], [19, 102], [12, 16, 20, 101], [0], [22], [23, 11, 102], [1], [25], [26, 21, 24, 11]] : List (List Nat)).getD i []) (fun i => ([[], [], [], [], [], [], [], [], [], [], [], [100], [], [], [], [], [], [], [], [], [], [101], [], [], [102], [], [], [24]] : List (List Nat)).getD i []) [100, 101, 102] (endM o t1) (hM0) (endP_loc w0 o t1) Try.mixed (by kernel_rfl) hs ?_ ?_
  ·
   intro i oo ho' V M E R w Q' hdep hlook hold hR hin hs hc
   match i, ho' with
   | 0, ho' =>
    cases ho'
    refine L_move rfl (hold 1 _ rfl (nd (by kernel_rfl))) ?_
    exact hc _ [] w ⟨rfl, rfl⟩ Own.nil hs
   | 1, ho' =>
    cases ho'
    refine L_move rfl (hold 1 _ rfl (nd (by kernel_rfl))) ?_
    exact hc _ [] w ⟨rfl, rfl⟩ Own.nil hs
   | 3, ho' =>
    cases ho'
    refine L_move rfl (hold 1 _ rfl (nd (by kernel_rfl))) ?_
    exact hc _ [] w ⟨rfl, rfl⟩ Own.nil hs
   | 13, ho' =>
    cases ho'
    refine L_move rfl (hold 1 _ rfl (nd (by kernel_rfl))) ?_
    exact hc _ [] w ⟨rfl, rfl⟩ Own.nil hs
   | 2, ho' =>
    cases ho'
    refine L_move rfl (hold 8 _ rfl (nd (by kernel_rfl))) ?_
    exact hc _ [] w ⟨rfl, rfl⟩ Own.nil hs
   | 12, ho' =>
    cases ho'
    refine L_move rfl (hold 8 _ rfl (nd (by kernel_rfl))) ?_
    exact hc _ [] w ⟨rfl, rfl⟩ Own.nil hs
   | 4, ho' =>
    cases ho'
    have e3 : Lk.look E 73 = some (.pointer (some ⟨o.p, 0, none⟩)) := by rw [hlook 3 (by decide) _ _ rfl rfl, (hdep 3 (by decide)).1.1]
    refine L_nilCheck rfl e3 ?_
    exact hc _ [] w ⟨rfl, rfl⟩ Own.nil hs
   | 8, ho' =>
    cases ho'
    have e7 : Lk.look E 77 = some (.pointer (some ⟨o.p, 0, none⟩)) := by rw [hlook 7 (by decide) _ _ rfl rfl, (hdep 7 (by decide)).1.1]
    refine L_nilCheck rfl e7 ?_
    exact hc _ [] w ⟨rfl, rfl⟩ Own.nil hs
   | 14, ho' =>
    cases ho'
    have e13 : Lk.look E 83 = some (.pointer (some ⟨o.p, 0, none⟩)) := by rw [hlook 13 (by decide) _ _ rfl rfl, (hdep 13 (by decide)).1.1]
    refine L_nilCheck rfl e13 ?_
    exact hc _ [] w ⟨rfl, rfl⟩ Own.nil hs
   | 18, ho' =>
    cases ho'
    have e17 : Lk.look E 87 = some (.pointer (some ⟨o.p, 0, none⟩)) := by rw [hlook 17 (by decide) _ _ rfl rfl, (hdep 17 (by decide)).1.1]
    refine L_nilCheck rfl e17 ?_
    exact hc _ [] w ⟨rfl, rfl⟩ Own.nil hs
   | 22, ho' =>
    cases ho'
    have e0 : Lk.look E 70 = some (.pointer (some ⟨o.p, 0, none⟩)) := by rw [hlook 0 (by decide) _ _ rfl rfl, (hdep 0 (by decide)).1.1]
    refine L_nilCheck rfl e0 ?_
    exact hc _ [] w ⟨rfl, rfl⟩ Own.nil hs
   | 25, ho' =>
    cases ho'
    have e1 : Lk.look E 71 = some (.pointer (some ⟨o.p, 0, none⟩)) := by rw [hlook 1 (by decide) _ _ rfl rfl, (hdep 1 (by decide)).1.1]
    refine L_nilCheck rfl e1 ?_
    exact hc _ [] w ⟨rfl, rfl⟩ Own.nil hs
   | 5, ho' =>
    cases ho'
    have e4 : Lk.look E 74 = some (.pointer (some ⟨o.p, 0, none⟩)) := by rw [hlook 4 (by decide) _ _ rfl rfl, (hdep 4 (by decide)).1.1]
    refine L_fieldAddr rfl (off := 15) Try.underlying93 rfl rfl Try.ti52 e4 ?_
    exact hc _ [] w ⟨rfl, rfl⟩ Own.nil hs
   | 15, ho' =>
    cases ho'
    have e14 : Lk.look E 84 = some (.pointer (some ⟨o.p, 0, none⟩)) := by rw [hlook 14 (by decide) _ _ rfl rfl, (hdep 14 (by decide)).1.1]
    refine L_fieldAddr rfl (off := 16) Try.underlying93 rfl rfl Try.ti52 e14 ?_
    exact hc _ [] w ⟨rfl, rfl⟩ Own.nil hs
   | 23, ho' =>
    cases ho'
    have e22 : Lk.look E 92 = some (.pointer (some ⟨o.p, 0, none⟩)) := by rw [hlook 22 (by decide) _ _ rfl rfl, (hdep 22 (by decide)).1.1]
    refine L_fieldAddr rfl (off := 15) Try.underlying93 rfl rfl Try.ti52 e22 ?_
    exact hc _ [] w ⟨rfl, rfl⟩ Own.nil hs
   | 26, ho' =>
    cases ho'
    have e25 : Lk.look E 94 = some (.pointer (some ⟨o.p, 0, none⟩)) := by rw [hlook 25 (by decide) _ _ rfl rfl, (hdep 25 (by decide)).1.1]
    refine L_fieldAddr rfl (off := 16) Try.underlying93 rfl rfl Try.ti52 e25 ?_
    exact hc _ [] w ⟨rfl, rfl⟩ Own.nil hs
   | 9, ho' =>
    cases ho'
    have e8 : Lk.look E 78 = some (.pointer (some ⟨o.p, 0, none⟩)) := by rw [hlook 8 (by decide) _ _ rfl rfl, (hdep 8 (by decide)).1.1]
    refine L_fieldAddr rfl (off := 2) Try.underlying49 rfl rfl Try.ti46 e8 ?_
    exact hc _ [] w ⟨rfl, rfl⟩ Own.nil hs
   | 19, ho' =>
    cases ho'
    have e18 : Lk.look E 88 = some (.pointer (some ⟨o.p, 0, none⟩)) := by rw [hlook 18 (by decide) _ _ rfl rfl, (hdep 18 (by decide)).1.1]
    refine L_fieldAddr rfl (off := 7) Try.underlying49 rfl rfl Try.ti46 e18 ?_
    exact hc _ [] w ⟨rfl, rfl⟩ Own.nil hs
   | 7, ho' =>
    cases ho'
    refine L_load rfl Try.one100 (hold 6 _ rfl (nd (by kernel_rfl))) (Lk.cell_of_row (hs.has _ (List.mem_append_left _ (List.mem_append_left _ h6L))) rfl) ?_
    exact hc _ [] w ⟨rfl, rfl⟩ Own.nil hs
   | 17, ho' =>
    cases ho'
    refine L_load rfl Try.one100 (hold 6 _ rfl (nd (by kernel_rfl))) (Lk.cell_of_row (hs.has _ (List.mem_append_left _ (List.mem_append_left _ h6L))) rfl) ?_
    exact hc _ [] w ⟨rfl, rfl⟩ Own.nil hs
   | 6, ho' =>
    cases ho'
    have e5 : Lk.look E 75 = some (.pointer (some ((Addr.mk o.p 0 none).add 15))) := by rw [hlook 5 (by decide) _ _ rfl rfl, (hdep 5 (by decide)).1.1]
    have hrow : (o.p, Row 93 (oRow o t1)) ∈ (L0 ++ R) ++ [] := by
     have h9 := hin 102 (by decide) (o.p, Row 93 (oRow o t1)) (by rw [(hdep 102 (by decide)).1]; exact List.mem_cons_self ..)
     rw [List.append_nil]
     exact List.mem_append_right _ (by simpa using h9)
    refine L_load rfl Try.one52 e5 (cellAM hs hrow rfl) ?_
    exact hc _ [] w ⟨rfl, rfl⟩ Own.nil hs
   | 16, ho' =>
    cases ho'
    have e15 : Lk.look E 85 = some (.pointer (some ((Addr.mk o.p 0 none).add 16))) := by rw [hlook 15 (by decide) _ _ rfl rfl, (hdep 15 (by decide)).1.1]
    have hrow : (o.p, Row 93 (oRow o t1)) ∈ (L0 ++ R) ++ [] := by
     have h9 := hin 102 (by decide) (o.p, Row 93 (oRow o t1)) (by rw [(hdep 102 (by decide)).1]; exact List.mem_cons_self ..)
     rw [List.append_nil]
     exact List.mem_append_right _ (by simpa using h9)
    refine L_load rfl Try.one52 e15 (cellAM hs hrow rfl) ?_
    exact hc _ [] w ⟨rfl, rfl⟩ Own.nil hs
   | 10, ho' =>
    cases ho'
    have e9 : Lk.look E 79 = some (.pointer (some ((Addr.mk o.p 0 none).add 2))) := by rw [hlook 9 (by decide) _ _ rfl rfl, (hdep 9 (by decide)).1.1]
    have hrow : (o.p, Row 93 (oRow o t1)) ∈ (L0 ++ R) ++ [] := by
     have h9 := hin 102 (by decide) (o.p, Row 93 (oRow o t1)) (by rw [(hdep 102 (by decide)).1]; exact List.mem_cons_self ..)
     rw [List.append_nil]
     exact List.mem_append_right _ (by simpa using h9)
    refine L_loadA rfl Try.agg46 Try.ti46 e9 (cellsAt_part (n := 5) (cs := t1.x.cells) (hs.has _ hrow) rfl) ?_
    rw [hx1]
    exact hc _ [] w ⟨rfl, rfl⟩ Own.nil hs
   | 20, ho' =>
    cases ho'
    have e19 : Lk.look E 89 = some (.pointer (some ((Addr.mk o.p 0 none).add 7))) := by rw [hlook 19 (by decide) _ _ rfl rfl, (hdep 19 (by decide)).1.1]
    have hrow : (o.p, Row 93 (oRow o t1)) ∈ (L0 ++ R) ++ [] := by
     have h9 := hin 102 (by decide) (o.p, Row 93 (oRow o t1)) (by rw [(hdep 102 (by decide)).1]; exact List.mem_cons_self ..)
     rw [List.append_nil]
     exact List.mem_append_right _ (by simpa using h9)
    refine L_loadA rfl Try.agg46 Try.ti46 e19 (cellsAt_part (n := 5) (cs := t1.y.cells) (hs.has _ hrow) rfl) ?_
    rw [hy1]
    exact hc _ [] w ⟨rfl, rfl⟩ Own.nil hs
   | 11, ho' =>
    cases ho'
    have ef : Lk.look E 72 = some (.func (.func 72) #[] #[]) := by rw [hlook 2 (by decide) _ _ rfl rfl, (hdep 2 (by decide)).1.1]
    have ev : Lk.look E 76 = some o.vx := by rw [hlook 6 (by decide) _ _ rfl rfl, (hdep 6 (by decide)).1.1]
    have es : Lk.look E 80 = some (.agg o.t.x.cells.toArray) := by rw [hlook 10 (by decide) _ _ rfl rfl, (hdep 10 (by decide)).1.1]
    have em : M 100 = o.Mx := (hdep 100 (by decide)).1
    replace hs : HS w0 w ((L0 ++ R) ++ (M 100 ++ [])) := hs
    rw [List.append_nil, em] at hs
    have ex : evalEs E [.tmp 76, .tmp 80] = some [o.vx, .agg o.t.x.cells.toArray] := by
     have e1 : evalE E (.tmp 76) = some o.vx := ev
     have e2 : evalE E (.tmp 80) = some (.agg o.t.x.cells.toArray) := es
     unfold evalEs evalEs evalEs
     rw [e1, e2]
    refine L_callV (first := []) (cap := []) rfl Try.fun72 ef ex (kept_ok w0 w o.vx o.Mx (L0 ++ R) o.xs o.xs.length o.t.x hs ho.bx (by omega)) ?_
    rintro v w' ⟨M', hs', hb'⟩
    exact hc _ _ _ hb' hb'.own hs'
   | 21, ho' =>
    cases ho'
    have ef : Lk.look E 82 = some (.func (.func 72) #[] #[]) := by rw [hlook 12 (by decide) _ _ rfl rfl, (hdep 12 (by decide)).1.1]
    have ev : Lk.look E 86 = some o.vy := by rw [hlook 16 (by decide) _ _ rfl rfl, (hdep 16 (by decide)).1.1]
    have es : Lk.look E 90 = some (.agg o.t.y.cells.toArray) := by rw [hlook 20 (by decide) _ _ rfl rfl, (hdep 20 (by decide)).1.1]
    have em : M 101 = o.My := (hdep 101 (by decide)).1
    replace hs : HS w0 w ((L0 ++ R) ++ (M 101 ++ [])) := hs
    rw [List.append_nil, em] at hs
    have ex : evalEs E [.tmp 86, .tmp 90] = some [o.vy, .agg o.t.y.cells.toArray] := by
     have e1 : evalE E (.tmp 86) = some o.vy := ev
     have e2 : evalE E (.tmp 90) = some (.agg o.t.y.cells.toArray) := es
     unfold evalEs evalEs evalEs
     rw [e1, e2]
    refine L_callV (first := []) (cap := []) rfl Try.fun72 ef ex (kept_ok w0 w o.vy o.My (L0 ++ R) o.ys o.ys.length o.t.y hs ho.by' (by omega)) ?_
    rintro v w' ⟨M', hs', hb'⟩
    exact hc _ _ _ hb' hb'.own hs'
   | 24, ho' =>
    cases ho'
    have e23 : Lk.look E 93 = some (.pointer (some ((Addr.mk o.p 0 none).add 15))) := by rw [hlook 23 (by decide) _ _ rfl rfl, (hdep 23 (by decide)).1.1]
    have ev : Lk.look E 81 = some (V 11) := hlook 11 (by decide) _ _ rfl rfl
    have em : M 102 = [(o.p, Row 93 (oRow o t1))] := (hdep 102 (by decide)).1
    replace hs : HS w0 w ((L0 ++ R) ++ (M 102 ++ [])) := hs
    rw [List.append_nil, em] at hs
    replace hs := HS.push hs
    have hb11 : Bl w0 46 5 (V 11) (o.xs.length + 1) (scs (o.xs ++ [o.t.x])) (M 11) := (hdep 11 (by decide)).1
    obtain ⟨a1, c1, hv1, _⟩ := hb11.slice
    rw [hv1] at ev
    refine L_store hs (i := 0) rfl Try.ti52 e23 ev (by first | rfl | exact Addr.add_lit ..) (by simp [On.cells]) rfl ?_
    intro w' hs'
    refine hc .nilIface [(o.p, Row 93 ((oRow o t1).set 15 (V 11)))] w' rfl (Own.cons hp Own.nil) ?_
    rw [hv1]
    exact hs'.mem_perm (List.perm_append_comm (l₁ := [_]))
   | 27, ho' =>
    cases ho'
    have e26 : Lk.look E 95 = some (.pointer (some ((Addr.mk o.p 0 none).add 16))) := by rw [hlook 26 (by decide) _ _ rfl rfl, (hdep 26 (by decide)).1.1]
    have ev : Lk.look E 91 = some (V 21) := hlook 21 (by decide) _ _ rfl rfl
    have em : M 24 = [(o.p, Row 93 ((oRow o t1).set 15 (V 11)))] := (hdep 24 (by decide)).1
    replace hs : HS w0 w ((L0 ++ R) ++ (M 24 ++ [])) := hs
    rw [List.append_nil, em] at hs
    replace hs := HS.push hs
    have hb21 : Bl w0 46 5 (V 21) (o.ys.length + 1) (scs (o.ys ++ [o.t.y])) (M 21) := (hdep 21 (by decide)).1
    obtain ⟨a1, c1, hv1, _⟩ := hb21.slice
    rw [hv1] at ev
    refine L_store hs (i := 0) rfl Try.ti52 e26 ev (by first | rfl | exact Addr.add_lit ..) (by simp [On.cells]) rfl ?_
    intro w' hs'
    refine hc .nilIface [(o.p, Row 93 (((oRow o t1).set 15 (V 11)).set 16 (V 21)))] w' rfl (Own.cons hp Own.nil) ?_
    rw [hv1]
    exact hs'.mem_perm (List.perm_append_comm (l₁ := [_]))
  ·
   intro V M9 own w hΦ hs hown hnd E hold hlook
   obtain ⟨v11, hv11⟩ : ∃ v, V 11 = v := ⟨_, rfl⟩
   obtain ⟨v21, hv21⟩ : ∃ v, V 21 = v := ⟨_, rfl⟩
   have h11 : Bl w0 46 5 v11 (o.xs.length + 1) (scs (o.xs ++ [o.t.x])) (M9 11) := hv11 ▸ (hΦ 11 (by decide)).1
   have h21 : Bl w0 46 5 v21 (o.ys.length + 1) (scs (o.ys ++ [o.t.y])) (M9 21) := hv21 ▸ (hΦ 21 (by decide)).1
   have h27 : M9 27 = [(o.p, Row 93 (((oRow o t1).set 15 v11).set 16 v21))] := by rw [← hv11, ← hv21]; exact (hΦ 27 (by decide)).1
   have o11 : 11 ∈ own := (hown 11).2 ⟨.inl (by decide), by decide⟩
   have o21 : 21 ∈ own := (hown 21).2 ⟨.inl (by decide), by decide⟩
   have o27 : 27 ∈ own := (hown 27).2 ⟨.inl (by decide), by decide⟩
   have hoo : ∀ j ∈ own, Own w0 (M9 j) := fun j hj => by
    obtain ⟨h1, h2⟩ := (hown j).1 hj
    rcases h1 with h1 | h1
    ·
     exact (hΦ j h1).2
    ·
     exfalso
     simp only [List.mem_cons, List.not_mem_nil, or_false] at h1
     rcases h1 with rfl | rfl | rfl
     ·
      exact h2 11 (by decide) (by decide)
     ·
      exact h2 21 (by decide) (by decide)
     ·
      exact h2 24 (by decide) (by decide)
   have h3 := hs.pickOwn3 o11 o21 o27 (by decide) (by decide) (by decide) hoo
   rw [h27, hL0] at h3
   refine Nx_done0 rfl ⟨_, rfl, ⟨o.p, t1, v11, M9 11, o.xs ++ [o.t.x], v21, M9 21, o.ys ++ [o.t.y], o.c⟩, rfl, rfl, ?_, rfl, rfl, ?_, ?_⟩
   ·
    show t1 = _
    rw [ht1, hkd, hst']; rfl
   ·
    have h4 : HS w0 w ((b6, Row 100 [.pointer (some ⟨o.p, 0, none⟩)]) :: (L ++ ((o.p, Row 93 (((oRow o t1).set 15 v11).set 16 v21)) :: (M9 11 ++ M9 21)))) := HS.re h3 (fun c => by simp only [List.map_append, List.map_cons, List.map_nil, List.sum_append, List.sum_cons, List.sum_nil]; omega)
    exact HS.pop h4 hb6
   ·
    refine ⟨hp, ?_, ?_, ?_⟩
    ·
     show Bl w0 46 5 v11 (o.xs ++ [o.t.x]).length (scs (o.xs ++ [o.t.x])) (M9 11)
     rw [List.length_append]; exact h11
    ·
     show Bl w0 46 5 v21 (o.ys ++ [o.t.y]).length (scs (o.ys ++ [o.t.y])) (M9 21)
     rw [List.length_append]; exact h21
    ·
     show t1.seen < 65536
     rw [ht1]; exact ho.seen
end Go.Proofs.Ytdllakfojligjaa
