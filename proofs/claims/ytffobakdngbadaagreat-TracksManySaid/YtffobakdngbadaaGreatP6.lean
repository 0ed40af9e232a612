/-
  A part of the proof: laws for walks, and plain laws, over any program of the model. Each theorem holds under its own premises alone.
-/
import Derived.Test.YtffobakdngbadaaGreatKit
import Derived.Test.YtffobakdngbadaaGreatP5
import Derived.Test.YtffobakdngbadaaGreatKitY
import Derived.Test.YtffobakdngbadaaGreatP1
import Derived.Test.YtffobakdngbadaaGreatKitQ
import Derived.Test.YtffobakdngbadaaGreatP2
namespace Go.Proofs.YtffobakdngbadaaGreat
open Go Go.Lk
structure Rul where
 noise : Nat
 sway : Nat
 gate : Nat
 need : Int
 of : Int
 miss : Int
def Rul.cells (r : Rul) : List Value := [.float .f64 r.noise, .float .f64 r.sway, .float .f64 r.gate, .int .i64 r.need, .int .i64 r.of, .int .i64 r.miss]
structure RulOk (r : Rul) : Prop where
 gate : GateOk r.gate
 noise : r.noise < 18446744073709551616
 sway : r.sway < 18446744073709551616
 of1 : 1 <= r.of
 of16 : r.of <= 16
 need1 : 1 <= r.need
 needof : r.need <= r.of
 miss1 : 1 <= r.miss
 miss16 : r.miss <= 16
def jeC (r : Rul) (kind : Int) (seen : Nat) (steps : Int) : Int := if r.miss <= steps /\ lowF seen r.miss.toNat = 0 then 2 else if kind = 1 ∨ r.need <= (lowF seen r.of.toNat : Int) then 1 else kind
def endT (r : Rul) (t : Trk) (time : Nat) : Trk := { t with kind := jeC r t.kind t.seen (t.steps + 1), steps := t.steps + 1, last := time }
structure On where
 p : Nat
 t : Trk
 vx : Value
 Mx : Bks
 xs : List Stt
 vy : Value
 My : Bks
 ys : List Stt
 c : Nat
def on0 : On := ⟨0, trk0, .slice none 0 0, [], [], .slice none 0 0, [], [], 0⟩
def On.cells (o : On) : List Value := [.int .i64 o.t.id, .int .i8 o.t.kind, .float .f64 o.t.x.x, .float .f64 o.t.x.v, .float .f64 o.t.x.p, .float .f64 o.t.x.q, .float .f64 o.t.x.r, .float .f64 o.t.y.x, .float .f64 o.t.y.v, .float .f64 o.t.y.p, .float .f64 o.t.y.q, .float .f64 o.t.y.r, .int .u16 o.t.seen, .int .i64 o.t.steps, .float .f64 o.t.last, o.vx, o.vy]
def On.row (o : On) : Nat × Obj := (o.p, Row 76 o.cells)
def On.bks (o : On) : Bks := o.row :: (o.Mx ++ o.My)
structure On.ok (w0 : World) (o : On) : Prop where
 p : w0.heap.size <= o.p
 bx : Bo w0 48 5 o.vx o.xs.length (scs o.xs) o.Mx
 by' : Bo w0 48 5 o.vy o.ys.length (scs o.ys) o.My
 seen : o.t.seen < 65536
 lx : o.xs.length <= 1024
 ly : o.ys.length = o.xs.length
theorem On.ok.own {w0 : World} {o : On} (h : o.ok w0) : Own w0 o.bks := Own.cons h.p (h.bx.own.app h.by'.own)
def SPL (s : Nat) (f : FuncId) (args : Array Value) (v : Value) : Prop := match f, args.toList with
 | 71, [.int .i64 n, _] => v = .int .i64 (lowF s n.toNat)
 | _, _ => False
theorem lowestH {w0 w : World} {L : Bks} (hs : HS w0 w L) (b p s : Nat) (n : Int) (hb : w.cell? ⟨b, 0, none⟩ = some (.pointer (some ⟨p, 0, none⟩))) (hs12 : w.cell? ⟨p, 12, none⟩ = some (.int .u16 s)) (hs16 : s < 65536) (h0 : 0 <= n) (hn : n <= 16) :
  Ret Tryz.prog 71 ([] ++ [Value.int .i64 n] ++ [Value.pointer (some ⟨b, 0, none⟩)]) w fun v w' => SPL s 71 (([] : List Value) ++ [Value.int .i64 n] ++ [Value.pointer (some ⟨b, 0, none⟩)]).toArray v /\ HS w0 w' L := by
 obtain ⟨m, rfl⟩ : ∃ m : Nat, n = (m : Int) := ⟨n.toNat, by omega⟩
 refine Calls.mono (lowest_ok b p s m w hb hs12 hs16 (by omega)) fun e w' => ?_
 rintro ⟨v, rfl, rfl, hs'⟩
 exact ⟨_, rfl, rfl, hs.nil hs'⟩
abbrev jf5 (o : On) (t : Trk) : List Value := On.cells { o with t := t }
def endP (w0 : World) (o : On) (t : Trk) (V : Nat -> Value) (k : Nat) (v : Value) (m : Bks) : Prop := match k with
 | 0 | 1 | 3 | 4 | 7 | 8 | 13 | 14 | 17 | 18 | 22 | 25 => v = .pointer (some ⟨o.p, 0, none⟩) /\ m = []
 | 2 | 12 => v = .func (.func 73) #[] #[] /\ m = []
 | 5 | 23 => v = .pointer (some ((Addr.mk o.p 0 none).add 15)) /\ m = []
 | 15 | 26 => v = .pointer (some ((Addr.mk o.p 0 none).add 16)) /\ m = []
 | 9 => v = .pointer (some ((Addr.mk o.p 0 none).add 2)) /\ m = []
 | 19 => v = .pointer (some ((Addr.mk o.p 0 none).add 7)) /\ m = []
 | 6 => v = o.vx /\ m = []
 | 16 => v = o.vy /\ m = []
 | 10 => v = .agg o.t.x.cells.toArray /\ m = []
 | 20 => v = .agg o.t.y.cells.toArray /\ m = []
 | 11 => Bo w0 48 5 v (jeX (o.xs ++ [o.t.x])).length (scs (jeX (o.xs ++ [o.t.x]))) m
 | 21 => Bo w0 48 5 v (jeX (o.ys ++ [o.t.y])).length (scs (jeX (o.ys ++ [o.t.y]))) m
 | 24 => m = [(o.p, Row 76 ((jf5 o t).set 15 (V 11)))]
 | 27 => m = [(o.p, Row 76 (((jf5 o t).set 15 (V 11)).set 16 (V 21)))]
 | 100 => m = o.Mx
 | 101 => m = o.My
 | 102 => m = [(o.p, Row 76 (jf5 o t))]
 | _ => False
def endM (o : On) (t : Trk) (k : Nat) : Bks := if k = 100 then o.Mx else if k = 101 then o.My else if k = 102 then [(o.p, Row 76 (jf5 o t))] else []
theorem endP_loc (w0 : World) (o : On) (t : Trk) : ∀ (k : Nat) (V V' : Nat -> Value) (v : Value) (m : Bks), (∀ d ∈ (([[], [], [], [], [3], [4], [5, 102], [], [7], [8], [9, 102], [2, 6, 10, 100], [], [], [13], [14], [15, 102], [], [17], [18], [19, 102], [12, 16, 20, 101], [0], [22], [23, 11, 102], [1], [25], [26, 21, 24, 11]] : List (List Nat)).getD k []), V d = V' d) -> endP w0 o t V k v m -> endP w0 o t V' k v m := by
 intro k V V' v m h hp
 by_cases h24 : k = 24
 ·
  subst h24
  have e := h 11 (by decide)
  show m = _
  rw [<- e]; exact hp
 by_cases h27 : k = 27
 ·
  subst h27
  have e1 := h 11 (by decide)
  have e2 := h 21 (by decide)
  show m = _
  rw [<- e1, <- e2]; exact hp
 unfold endP at hp
 split at hp <;> first | exact hp | exact absurd rfl h24 | exact absurd rfl h27 | exact False.elim hp
set_option maxHeartbeats 1000000 in
theorem ends_ok (w0 w : World) (B time : Nat) (r : Rul) (rest : List Value) (o : On) (L : Bks) (hs : HS w0 w (L ++ o.bks)) (ho : o.ok w0) (hB : (B, Row 66 (r.cells ++ rest)) ∈ L) (hr : RulOk r) (hst : 0 <= o.t.steps /\ o.t.steps <= 1000000) (hoL : Own w0 L) :
  Ret Tryz.prog 38 [.pointer (some ⟨B, 0, none⟩), .pointer (some ⟨o.p, 0, none⟩), .float .f64 time] w fun _ w' => ∃ o' : On, o'.p = o.p /\ o'.c = o.c /\ o'.t = endT r o.t time /\ o'.xs = jeX (o.xs ++ [o.t.x]) /\ o'.ys = jeX (o.ys ++ [o.t.y]) /\ HS w0 w' (L ++ o'.bks) /\ o'.ok w0 := by
 obtain ⟨Z, hZ⟩ : ∃ Z, Z = o.Mx ++ (o.My ++ L) := ⟨_, rfl⟩
 have hBZ : (B, Row 66 (r.cells ++ rest)) ∈ Z := by rw [hZ]; simp [hB]
 have h1 : HS w0 w ((o.p, Row 76 (jf5 o o.t)) :: Z) := by
  have h2 : HS w0 w (L ++ (o.row :: (o.Mx ++ o.My))) := hs
  rw [hZ]
  exact HS.re (L' := o.row :: (o.Mx ++ (o.My ++ L))) h2 (fun c => by simp only [mpA, mpC, mpN, smA, smC, smN]; omega)
 clear hs
 have hs := h1
 clear h1
 have hp := ho.p
 have hrB : ∀ {w' : World} {L' : Bks} {j : Nat} {v : Value}, HS w0 w' L' -> (∀ q ∈ Z, q ∈ L') -> (r.cells ++ rest)[j]? = some v -> w'.cell? ⟨B, j, none⟩ = some v := fun h1 h2 h3 => Lk.cell_of_row (h1.has _ (h2 _ hBZ)) h3
 refine ja7 Tryz.func38 rfl rfl rfl (Wq (Lm rfl (Ln rfl (Lf 0 jpM rfl jcE ?_))))
 refine jbL rfl hs i_86 ?_; intro b6 w hb6 _ hs; replace hs := HS.push hs
 refine jaH hs (i := 0) rfl i_86 rfl rfl (by rfl) (by simp) rfl ?_
 intro w hs
 dsimp only [sS, sZ, sA, sN] at hs
 refine Rt (Wsq ?_)
 replace hs : HS w0 w ((b6, Row 86 [.pointer (some ⟨o.p, 0, none⟩)]) :: (o.p, Row 76 (jf5 o o.t)) :: Z) := hs
 refine Wr (Ll o_86 rfl (by exact hs.cell (i := 0) rfl rfl) ?_)
 refine Ln rfl (Lf 13 jcC rfl i_3 (Ll o_3 rfl (by exact hs.cell (i := 1) rfl rfl) ?_))
 refine je7 15 (v' := .int .i64 o.t.steps) rfl (rfl) (jbG rfl (ja3 (by omega)) ?_)
 refine Ln rfl (Lf 13 jcC rfl i_3 (jaH hs (i := 1) rfl i_3 rfl rfl (by rfl) (by simp [On.cells]) rfl ?_))
 intro w hs
 dsimp only [sS, sZ, sA, sN] at hs
 refine Rq (Ll o_86 rfl (by exact hs.cell (i := 0) rfl rfl) ?_)
 refine Lm rfl (Ln rfl (Lf 14 jcC rfl jaS (jaH hs (i := 1) rfl jaS rfl rfl (by rfl) (by simp [On.cells]) rfl ?_)))
 intro w hs
 dsimp only [sS, sZ, sA, sN] at hs
 refine Rt (Wsq ?_)
 obtain ⟨st, hst'⟩ : ∃ st, st = o.t.steps + 1 := ⟨_, rfl⟩
 replace hs : HS w0 w ((b6, Row 86 [.pointer (some ⟨o.p, 0, none⟩)]) :: (o.p, Row 76 (jf5 o { o.t with steps := st, last := time })) :: Z) := by rw [hst']; exact hs
 refine Wr (jaT rfl (R_makeFunc rfl rfl) (La rfl (Rt (Wsq (jmM (fun (kd : Int) (w : World) => [(0, .pointer (some ⟨B, 0, none⟩)), (1, .pointer (some ⟨o.p, 0, none⟩)), (6, .pointer (some ⟨b6, 0, none⟩))]) (fun kd w => w) (fun kd w => (kd = jeC r o.t.kind o.t.seen st) /\ (HS w0 w ((b6, Row 86 [.pointer (some ⟨o.p, 0, none⟩)]) :: (o.p, Row 76 (jf5 o { o.t with kind := kd, steps := st, last := time })) :: Z))) ?_ ?_)))))
 ·
  have hZ1 : ∀ {v1 v2 : Nat × Obj}, ∀ q ∈ Z, q ∈ v1 :: v2 :: Z := fun q hq => List.mem_cons_of_mem _ (List.mem_cons_of_mem _ hq)
  have hm1 := hr.miss1
  have hm16 := hr.miss16
  have ho1 := hr.of1
  have ho16 := hr.of16
  obtain ⟨lm, hlm⟩ : ∃ lm, lm = lowF o.t.seen r.miss.toNat := ⟨_, rfl⟩
  refine ja4 (Wsq (jmM (fun (g : Bool) (w : World) => [(0, .pointer (some ⟨B, 0, none⟩)), (1, .pointer (some ⟨o.p, 0, none⟩)), (6, .pointer (some ⟨b6, 0, none⟩)), (7, .func (.func 71) #[] #[.pointer (some ⟨b6, 0, none⟩)]), (24, .bool g)]) (fun g w => w) (fun g w => (g = decide (r.miss <= st /\ lm = 0)) /\ (HS w0 w ((b6, Row 86 [.pointer (some ⟨o.p, 0, none⟩)]) :: (o.p, Row 76 (jf5 o { o.t with steps := st, last := time })) :: Z))) ?_ ?_))
  ·
   by_cases h1 : r.miss <= st
   ·
    refine jcH [4, 5, 6, 7] [0, 1, 2, 3, 8, 9, 10, 11, 12, 13, 14, 15, 16] [17, 18, 19, 20] (fun _ _ _ => False) Tryz.mixed (by kernel_rfl) (fun _ _ _ _ _ h => h) hs ?_
    refine Pm rfl (Pn rfl (Pfa 0 jfS rfl jfP (Pfa 5 jbM rfl i_3 (jbH (Hv rfl (fun w hs => jaN o_86 rfl (by exact hs.cell (i := 0) rfl rfl)) ?_)))))
    refine Hv rfl (fun w hs => jcN rfl) ?_
    refine Hf 13 jcC rfl i_3 (Hl o_3 rfl (fun w hs => (by exact hs.cell (i := 1) rfl rfl)) ?_)
    refine Hl o_3 rfl (fun w hs => (by exact hrB hs hZ1 (j := 5) rfl)) ?_
    refine Hv rfl (fun w hs => jpU rfl rfl (jaF (by omega))) ?_
    refine Hm rfl (Hw rfl rfl (Hm rfl (Hw rfl rfl (Hm rfl (Hw rfl rfl (Hv rfl (fun w hs => jcN rfl) ?_))))))
    refine Hw rfl rfl (Hf 0 jfS rfl jfP (Hw rfl rfl (Hf 5 jbM rfl i_3 (Hw rfl rfl (Hv rfl (fun w hs => jaN o_3 rfl (by exact hrB hs hZ1 (j := 5) rfl)) ?_)))))
    refine jb2 ?_
    intro w hs
    refine Rw rfl (jmB rfl f_71 rfl rfl (lowestH hs b6 o.p o.t.seen r.miss (hs.cell (i := 0) rfl rfl) (hs.cell (i := 1) rfl rfl) ho.seen (by omega) hm16) ?_)
    rintro _ w ⟨hv, hs⟩
    obtain rfl := hv
    rw [<- hlm]
    by_cases h2 : lm = 0
    ·
     refine Rw rfl (jdS rfl (jaF (by omega)) ?_)
     refine Lpt rfl (La rfl (Rnl (jbD (true, w) (is := [0, 1, 6, 7, 24]) (I' := (fun (g : Bool) (w : World) => (g = decide (r.miss <= st /\ lm = 0)) /\ (HS w0 w ((b6, Row 86 [.pointer (some ⟨o.p, 0, none⟩)]) :: (o.p, Row 76 (jf5 o { o.t with steps := st, last := time })) :: Z))) (true) (w)) rfl rfl rfl ?_)))
     exact ⟨(decide_eq_true ⟨h1, h2⟩).symm, hs⟩
    refine Rw rfl (jdS rfl (jaA (by omega)) ?_)
    refine Lpt rfl (La rfl (Rnl (jbD (false, w) (is := [0, 1, 6, 7, 24]) (I' := (fun (g : Bool) (w : World) => (g = decide (r.miss <= st /\ lm = 0)) /\ (HS w0 w ((b6, Row 86 [.pointer (some ⟨o.p, 0, none⟩)]) :: (o.p, Row 76 (jf5 o { o.t with steps := st, last := time })) :: Z))) (false) (w)) rfl rfl rfl ?_)))
    exact ⟨(decide_eq_false fun h => h2 h.2).symm, hs⟩
   refine jcH [4, 5, 6, 7] [0, 1, 2, 3, 8, 9, 10, 11, 12, 13, 14, 15, 16] [17, 18, 19, 20] (fun _ _ _ => False) Tryz.mixed (by kernel_rfl) (fun _ _ _ _ _ h => h) hs ?_
   refine Pm rfl (Pn rfl (Pfa 0 jfS rfl jfP (Pfa 5 jbM rfl i_3 (jbH (Hv rfl (fun w hs => jaN o_86 rfl (by exact hs.cell (i := 0) rfl rfl)) ?_)))))
   refine Hv rfl (fun w hs => jcN rfl) ?_
   refine Hf 13 jcC rfl i_3 (Hl o_3 rfl (fun w hs => (by exact hs.cell (i := 1) rfl rfl)) ?_)
   refine Hl o_3 rfl (fun w hs => (by exact hrB hs hZ1 (j := 5) rfl)) ?_
   refine Hv rfl (fun w hs => jpU rfl rfl (jaA (by omega))) ?_
   refine Hm rfl (jaU rfl rfl rfl rfl (jaU rfl rfl rfl rfl (jaU rfl rfl rfl rfl (jaU rfl rfl rfl rfl (jaU rfl rfl rfl rfl (jaU rfl rfl rfl rfl (jb2 ?_)))))))
   intro w hs
   refine Rs rfl (Rs rfl (Lpf rfl (La rfl (Rnl (jbD (false, _) (is := [0, 1, 6, 7, 24]) (I' := (fun (g : Bool) (w : World) => (g = decide (r.miss <= st /\ lm = 0)) /\ (HS w0 w ((b6, Row 86 [.pointer (some ⟨o.p, 0, none⟩)]) :: (o.p, Row 76 (jf5 o { o.t with steps := st, last := time })) :: Z))) (false) (_)) rfl rfl rfl ?_)))))
   exact ⟨(decide_eq_false fun h => h1 h.1).symm, hs⟩
  clear hs
  intro g w hI
  show W _ _ _ _ [(0, .pointer (some ⟨B, 0, none⟩)), (1, .pointer (some ⟨o.p, 0, none⟩)), (6, .pointer (some ⟨b6, 0, none⟩)), (7, .func (.func 71) #[] #[.pointer (some ⟨b6, 0, none⟩)]), (24, .bool g)] w
  obtain ⟨hg, hs⟩ := hI
  by_cases h1 : r.miss <= st /\ lm = 0
  ·
   obtain rfl : g = true := by rw [hg]; exact decide_eq_true h1
   have e : (2 : Int) = jeC r o.t.kind o.t.seen st := by unfold jeC; rw [<- hlm, if_pos h1]
   refine Wt rfl (Wr (Ll o_86 rfl (by exact hs.cell (i := 0) rfl rfl) ?_))
   refine Ln rfl (Lf 1 jcC rfl jmS (jaH hs (i := 1) rfl jmS rfl rfl (by rfl) (by simp [On.cells]) rfl ?_))
   intro w hs
   dsimp only [sS, sZ, sA, sN] at hs
   refine Rnl (jaB (jbD (2, w) (is := [0, 1, 6]) (I' := (fun (kd : Int) (w : World) => (kd = jeC r o.t.kind o.t.seen st) /\ (HS w0 w ((b6, Row 86 [.pointer (some ⟨o.p, 0, none⟩)]) :: (o.p, Row 76 (jf5 o { o.t with kind := kd, steps := st, last := time })) :: Z))) (2) (w)) rfl rfl rfl ?_))
   exact ⟨e, hs⟩
  obtain rfl : g = false := by rw [hg]; exact decide_eq_false h1
  refine Wf rfl ?_
  by_cases h2 : o.t.kind = 1
  ·
   have e : (1 : Int) = jeC r o.t.kind o.t.seen st := by unfold jeC; rw [<- hlm, if_neg h1, if_pos (.inl h2)]
   refine Wqq (Ll o_86 rfl (by exact hs.cell (i := 0) rfl rfl) ?_)
   refine Ln rfl (Lf 1 jcC rfl jmS (Ll o_46 rfl (by exact hs.cell (i := 1) rfl rfl) ?_))
   refine je7 52 (v' := .int .i8 o.t.kind) rfl (rfl) (jdS rfl (jaF (by omega)) ?_)
   refine La rfl (Rt (Wt rfl (Ws (Wt rfl (Wr (Ll o_86 rfl (by exact hs.cell (i := 0) rfl rfl) ?_))))))
   refine Ln rfl (Lf 1 jcC rfl jmS (jaH hs (i := 1) rfl jmS rfl rfl (by rfl) (by simp [On.cells]) rfl ?_))
   intro w hs
   dsimp only [sS, sZ, sA, sN] at hs
   refine Rnl (jaB (jbD (1, _) (is := [0, 1, 6]) (I' := (fun (kd : Int) (w : World) => (kd = jeC r o.t.kind o.t.seen st) /\ (HS w0 w ((b6, Row 86 [.pointer (some ⟨o.p, 0, none⟩)]) :: (o.p, Row 76 (jf5 o { o.t with kind := kd, steps := st, last := time })) :: Z))) (1) (_)) rfl rfl rfl ?_))
   exact ⟨e, hs⟩
  refine Wqq (Ll o_86 rfl (by exact hs.cell (i := 0) rfl rfl) ?_)
  refine Ln rfl (Lf 1 jcC rfl jmS (Ll o_46 rfl (by exact hs.cell (i := 1) rfl rfl) ?_))
  refine je7 52 (v' := .int .i8 o.t.kind) rfl (rfl) (jdS rfl (jaA (by omega)) ?_)
  refine La rfl (Rt (Wf rfl (jqD Tryz.mixed ?_)))
  replace hs := hs.drewN 1
  refine jbR [0, 1, 2, 3, 4, 7, 8, 9, 10] [5, 6, 11, 12, 13] [] (jmZ (SPL o.t.seen)) (g' := 0) (by kernel_rfl) (by kernel_rfl) (fun _ _ _ _ _ h => h) hs ?_
  refine Pm rfl (Pm rfl (Pn rfl (Pfa 0 jfS rfl jfP (Pfa 4 jbM rfl i_3 (Pm rfl (Pn rfl (Pfa 0 jfS rfl jfP (Pfa 3 jbM rfl i_3 (jd0 (jaP rfl (fun w R hR hs => jaN o_3 rfl (by exact hrB hs (fun q hq => List.mem_append_left _ (hZ1 q hq)) (j := 4) rfl)) ?_))))))))))
  refine HB_callV rfl f_71 rfl rfl (fun w R hR hs => lowestH hs b6 o.p o.t.seen r.of (hs.cell (i := 0) rfl rfl) (hs.cell (i := 1) rfl rfl) ho.seen (by omega) ho16) ?_
  rintro _ hv
  obtain rfl := hv
  obtain ⟨lo, hlo⟩ : ∃ lo, lo = lowF o.t.seen r.of.toNat := ⟨_, rfl⟩
  rw [<- hlo]
  by_cases h3 : r.need <= (lo : Int)
  ·
   have e : (1 : Int) = jeC r o.t.kind o.t.seen st := by unfold jeC; rw [<- hlm, if_neg h1, if_pos (.inr (by rw [<- hlo]; exact h3))]
   refine jaP rfl (fun w R hR hs => jaN o_3 rfl (by exact hrB hs (fun q hq => List.mem_append_left _ (hZ1 q hq)) (j := 3) rfl)) ?_
   refine jaP rfl (fun w R hR hs => jpU rfl rfl (jaF (by omega))) ?_
   refine jaP rfl (fun w R hR hs => jbS rfl) ?_
   refine jcU ?_
   intro w hs
   refine jg5 (jdW (by kernel_rfl) ?_)
   refine Nt (Wt rfl (Wr (Ll o_86 rfl (by exact hs.cell (i := 0) rfl rfl) ?_)))
   refine Ln rfl (Lf 1 jcC rfl jmS (jaH hs (i := 1) rfl jmS rfl rfl (by rfl) (by simp [On.cells]) rfl ?_))
   intro w hs
   dsimp only [sS, sZ, sA, sN] at hs
   refine Rnl (jaB (jbD (1, _) (is := [0, 1, 6]) (I' := (fun (kd : Int) (w : World) => (kd = jeC r o.t.kind o.t.seen st) /\ (HS w0 w ((b6, Row 86 [.pointer (some ⟨o.p, 0, none⟩)]) :: (o.p, Row 76 (jf5 o { o.t with kind := kd, steps := st, last := time })) :: Z))) (1) (_)) rfl rfl rfl ?_))
   exact ⟨e, by rw [List.append_nil] at hs; exact hs⟩
  have e : o.t.kind = jeC r o.t.kind o.t.seen st := by unfold jeC; rw [<- hlm, if_neg h1, if_neg (fun h => h.elim h2 fun h => h3 (by rw [hlo]; exact h))]
  refine jaP rfl (fun w R hR hs => jaN o_3 rfl (by exact hrB hs (fun q hq => List.mem_append_left _ (hZ1 q hq)) (j := 3) rfl)) ?_
  refine jaP rfl (fun w R hR hs => jpU rfl rfl (jaA (by omega))) ?_
  refine jaP rfl (fun w R hR hs => jbS rfl) ?_
  refine jcU ?_
  intro w hs
  refine jg5 (jdW (by kernel_rfl) ?_)
  refine Nt (Wf rfl (jaY (jaB (jbD (o.t.kind, _) (is := [0, 1, 6]) (I' := (fun (kd : Int) (w : World) => (kd = jeC r o.t.kind o.t.seen st) /\ (HS w0 w ((b6, Row 86 [.pointer (some ⟨o.p, 0, none⟩)]) :: (o.p, Row 76 (jf5 o { o.t with kind := kd, steps := st, last := time })) :: Z))) (o.t.kind) (_)) rfl rfl rfl ?_))))
  exact ⟨e, by rw [List.append_nil] at hs; exact hs⟩
 clear hs
 intro kd w hI
 show W _ _ _ _ [(0, .pointer (some ⟨B, 0, none⟩)), (1, .pointer (some ⟨o.p, 0, none⟩)), (6, .pointer (some ⟨b6, 0, none⟩))] w
 obtain ⟨hkd, hs⟩ := hI
 obtain ⟨t1, ht1⟩ : ∃ t1 : Trk, t1 = { o.t with kind := kd, steps := st, last := time } := ⟨_, rfl⟩
 have hx1 : t1.x = o.t.x := by rw [ht1]
 have hy1 : t1.y = o.t.y := by rw [ht1]
 rw [<- ht1] at hs
 obtain ⟨L0, hL0⟩ : ∃ L0, L0 = (b6, Row 86 [.pointer (some ⟨o.p, 0, none⟩)]) :: L := ⟨_, rfl⟩
 have h6L : (b6, Row 86 [.pointer (some ⟨o.p, 0, none⟩)]) ∈ L0 := by rw [hL0]; exact List.mem_cons_self ..
 have hs0 : HS w0 w (L0 ++ [100, 101, 102].flatMap (endM o t1)) := by
  show HS w0 w (L0 ++ (o.Mx ++ (o.My ++ ([(o.p, Row 76 (jf5 o t1))] ++ []))))
  rw [hL0]
  rw [hZ] at hs
  exact HS.re hs (fun c => by simp only [mpA, mpC, mpN, smA, smC, smN]; omega)
 clear hs
 have hs := hs0
 clear hs0
 refine Wq (La rfl (Rt ?_))
 have hM0 : ∀ k ∈ [100, 101, 102], ∀ V : Nat -> Value, endP w0 o t1 V k .nilIface (endM o t1 k) /\ Own w0 (endM o t1 k) := by
  intro k hk V
  simp only [List.mem_cons, List.not_mem_nil, or_false] at hk
  rcases hk with rfl | rfl | rfl
  ·
   exact ⟨rfl, ho.bx.own⟩
  ·
   exact ⟨rfl, ho.by'.own⟩
  exact ⟨rfl, Own.cons hp Own.nil⟩
 refine W_anyP (endP w0 o t1) (fun i => ([[], [], [], [], [3], [4], [5, 102], [], [7], [8], [9, 102], [2, 6, 10, 100], [], [], [13], [14], [15, 102], [], [17], [18], [19, 102], [12, 16, 20, 101], [0], [22], [23, 11, 102], [1], [25], [26, 21, 24, 11]] : List (List Nat)).getD i []) (fun i => ([[], [], [], [], [], [], [], [], [], [], [], [100], [], [], [], [], [], [], [], [], [], [101], [], [], [102], [], [], [24]] : List (List Nat)).getD i []) [100, 101, 102] (endM o t1) (hM0) (endP_loc w0 o t1) Tryz.mixed (by kernel_rfl) hs ?_ ?_
 ·
  intro i oo ho' V M E R w Q' hdep hlook hold hR hin hs hc
  match i, ho' with
  | 0, ho' =>
   cases ho'
   refine jgK rfl (hold 1 _ rfl (nd (by kernel_rfl))) ?_
   exact hc _ [] w ⟨rfl, rfl⟩ Own.nil hs
  | 1, ho' =>
   cases ho'
   refine jgK rfl (hold 1 _ rfl (nd (by kernel_rfl))) ?_
   exact hc _ [] w ⟨rfl, rfl⟩ Own.nil hs
  | 3, ho' =>
   cases ho'
   refine jgK rfl (hold 1 _ rfl (nd (by kernel_rfl))) ?_
   exact hc _ [] w ⟨rfl, rfl⟩ Own.nil hs
  | 13, ho' =>
   cases ho'
   refine jgK rfl (hold 1 _ rfl (nd (by kernel_rfl))) ?_
   exact hc _ [] w ⟨rfl, rfl⟩ Own.nil hs
  | 2, ho' =>
   cases ho'
   refine jgK rfl (hold 8 _ rfl (nd (by kernel_rfl))) ?_
   exact hc _ [] w ⟨rfl, rfl⟩ Own.nil hs
  | 12, ho' =>
   cases ho'
   refine jgK rfl (hold 8 _ rfl (nd (by kernel_rfl))) ?_
   exact hc _ [] w ⟨rfl, rfl⟩ Own.nil hs
  | 4, ho' =>
   cases ho'
   have e3 : Lk.look E 73 = some (.pointer (some ⟨o.p, 0, none⟩)) := by rw [hlook 3 (by decide) _ _ rfl rfl, (hdep 3 (by decide)).1.1]
   refine jc4 rfl e3 ?_
   exact hc _ [] w ⟨rfl, rfl⟩ Own.nil hs
  | 8, ho' =>
   cases ho'
   have e7 : Lk.look E 77 = some (.pointer (some ⟨o.p, 0, none⟩)) := by rw [hlook 7 (by decide) _ _ rfl rfl, (hdep 7 (by decide)).1.1]
   refine jc4 rfl e7 ?_
   exact hc _ [] w ⟨rfl, rfl⟩ Own.nil hs
  | 14, ho' =>
   cases ho'
   have e13 : Lk.look E 83 = some (.pointer (some ⟨o.p, 0, none⟩)) := by rw [hlook 13 (by decide) _ _ rfl rfl, (hdep 13 (by decide)).1.1]
   refine jc4 rfl e13 ?_
   exact hc _ [] w ⟨rfl, rfl⟩ Own.nil hs
  | 18, ho' =>
   cases ho'
   have e17 : Lk.look E 87 = some (.pointer (some ⟨o.p, 0, none⟩)) := by rw [hlook 17 (by decide) _ _ rfl rfl, (hdep 17 (by decide)).1.1]
   refine jc4 rfl e17 ?_
   exact hc _ [] w ⟨rfl, rfl⟩ Own.nil hs
  | 22, ho' =>
   cases ho'
   have e0 : Lk.look E 70 = some (.pointer (some ⟨o.p, 0, none⟩)) := by rw [hlook 0 (by decide) _ _ rfl rfl, (hdep 0 (by decide)).1.1]
   refine jc4 rfl e0 ?_
   exact hc _ [] w ⟨rfl, rfl⟩ Own.nil hs
  | 25, ho' =>
   cases ho'
   have e1 : Lk.look E 71 = some (.pointer (some ⟨o.p, 0, none⟩)) := by rw [hlook 1 (by decide) _ _ rfl rfl, (hdep 1 (by decide)).1.1]
   refine jc4 rfl e1 ?_
   exact hc _ [] w ⟨rfl, rfl⟩ Own.nil hs
  | 5, ho' =>
   cases ho'
   have e4 : Lk.look E 74 = some (.pointer (some ⟨o.p, 0, none⟩)) := by rw [hlook 4 (by decide) _ _ rfl rfl, (hdep 4 (by decide)).1.1]
   refine jbT rfl (off := 15) jpM rfl rfl jn1 e4 ?_
   exact hc _ [] w ⟨rfl, rfl⟩ Own.nil hs
  | 15, ho' =>
   cases ho'
   have e14 : Lk.look E 84 = some (.pointer (some ⟨o.p, 0, none⟩)) := by rw [hlook 14 (by decide) _ _ rfl rfl, (hdep 14 (by decide)).1.1]
   refine jbT rfl (off := 16) jpM rfl rfl jn1 e14 ?_
   exact hc _ [] w ⟨rfl, rfl⟩ Own.nil hs
  | 23, ho' =>
   cases ho'
   have e22 : Lk.look E 92 = some (.pointer (some ⟨o.p, 0, none⟩)) := by rw [hlook 22 (by decide) _ _ rfl rfl, (hdep 22 (by decide)).1.1]
   refine jbT rfl (off := 15) jpM rfl rfl jn1 e22 ?_
   exact hc _ [] w ⟨rfl, rfl⟩ Own.nil hs
  | 26, ho' =>
   cases ho'
   have e25 : Lk.look E 94 = some (.pointer (some ⟨o.p, 0, none⟩)) := by rw [hlook 25 (by decide) _ _ rfl rfl, (hdep 25 (by decide)).1.1]
   refine jbT rfl (off := 16) jpM rfl rfl jn1 e25 ?_
   exact hc _ [] w ⟨rfl, rfl⟩ Own.nil hs
  | 9, ho' =>
   cases ho'
   have e8 : Lk.look E 78 = some (.pointer (some ⟨o.p, 0, none⟩)) := by rw [hlook 8 (by decide) _ _ rfl rfl, (hdep 8 (by decide)).1.1]
   refine jbT rfl (off := 2) jcC rfl rfl jbP e8 ?_
   exact hc _ [] w ⟨rfl, rfl⟩ Own.nil hs
  | 19, ho' =>
   cases ho'
   have e18 : Lk.look E 88 = some (.pointer (some ⟨o.p, 0, none⟩)) := by rw [hlook 18 (by decide) _ _ rfl rfl, (hdep 18 (by decide)).1.1]
   refine jbT rfl (off := 7) jcC rfl rfl jbP e18 ?_
   exact hc _ [] w ⟨rfl, rfl⟩ Own.nil hs
  | 7, ho' =>
   cases ho'
   refine jgX rfl o_86 (hold 6 _ rfl (nd (by kernel_rfl))) (Lk.cell_of_row (hs.has _ (List.mem_append_left _ (List.mem_append_left _ h6L))) rfl) ?_
   exact hc _ [] w ⟨rfl, rfl⟩ Own.nil hs
  | 17, ho' =>
   cases ho'
   refine jgX rfl o_86 (hold 6 _ rfl (nd (by kernel_rfl))) (Lk.cell_of_row (hs.has _ (List.mem_append_left _ (List.mem_append_left _ h6L))) rfl) ?_
   exact hc _ [] w ⟨rfl, rfl⟩ Own.nil hs
  | 6, ho' =>
   cases ho'
   have e5 : Lk.look E 75 = some (.pointer (some ((Addr.mk o.p 0 none).add 15))) := by rw [hlook 5 (by decide) _ _ rfl rfl, (hdep 5 (by decide)).1.1]
   have hrow : (o.p, Row 76 (jf5 o t1)) ∈ (L0 ++ R) ++ [] := by
    have h9 := hin 102 (by decide) (o.p, Row 76 (jf5 o t1)) (by rw [(hdep 102 (by decide)).1]; exact List.mem_cons_self ..)
    rw [List.append_nil]
    exact List.mem_append_right _ (by simpa using h9)
   refine jgX rfl o_55 e5 (jb6 hs hrow rfl) ?_
   exact hc _ [] w ⟨rfl, rfl⟩ Own.nil hs
  | 16, ho' =>
   cases ho'
   have e15 : Lk.look E 85 = some (.pointer (some ((Addr.mk o.p 0 none).add 16))) := by rw [hlook 15 (by decide) _ _ rfl rfl, (hdep 15 (by decide)).1.1]
   have hrow : (o.p, Row 76 (jf5 o t1)) ∈ (L0 ++ R) ++ [] := by
    have h9 := hin 102 (by decide) (o.p, Row 76 (jf5 o t1)) (by rw [(hdep 102 (by decide)).1]; exact List.mem_cons_self ..)
    rw [List.append_nil]
    exact List.mem_append_right _ (by simpa using h9)
   refine jgX rfl o_55 e15 (jb6 hs hrow rfl) ?_
   exact hc _ [] w ⟨rfl, rfl⟩ Own.nil hs
  | 10, ho' =>
   cases ho'
   have e9 : Lk.look E 79 = some (.pointer (some ((Addr.mk o.p 0 none).add 2))) := by rw [hlook 9 (by decide) _ _ rfl rfl, (hdep 9 (by decide)).1.1]
   have hrow : (o.p, Row 76 (jf5 o t1)) ∈ (L0 ++ R) ++ [] := by
    have h9 := hin 102 (by decide) (o.p, Row 76 (jf5 o t1)) (by rw [(hdep 102 (by decide)).1]; exact List.mem_cons_self ..)
    rw [List.append_nil]
    exact List.mem_append_right _ (by simpa using h9)
   refine jb7 rfl jfY jbP e9 (jaX (n := 5) (cs := t1.x.cells) (hs.has _ hrow) rfl) ?_
   rw [hx1]
   exact hc _ [] w ⟨rfl, rfl⟩ Own.nil hs
  | 20, ho' =>
   cases ho'
   have e19 : Lk.look E 89 = some (.pointer (some ((Addr.mk o.p 0 none).add 7))) := by rw [hlook 19 (by decide) _ _ rfl rfl, (hdep 19 (by decide)).1.1]
   have hrow : (o.p, Row 76 (jf5 o t1)) ∈ (L0 ++ R) ++ [] := by
    have h9 := hin 102 (by decide) (o.p, Row 76 (jf5 o t1)) (by rw [(hdep 102 (by decide)).1]; exact List.mem_cons_self ..)
    rw [List.append_nil]
    exact List.mem_append_right _ (by simpa using h9)
   refine jb7 rfl jfY jbP e19 (jaX (n := 5) (cs := t1.y.cells) (hs.has _ hrow) rfl) ?_
   rw [hy1]
   exact hc _ [] w ⟨rfl, rfl⟩ Own.nil hs
  | 11, ho' =>
   cases ho'
   have ef : Lk.look E 72 = some (.func (.func 73) #[] #[]) := by rw [hlook 2 (by decide) _ _ rfl rfl, (hdep 2 (by decide)).1.1]
   have ev : Lk.look E 76 = some o.vx := by rw [hlook 6 (by decide) _ _ rfl rfl, (hdep 6 (by decide)).1.1]
   have es : Lk.look E 80 = some (.agg o.t.x.cells.toArray) := by rw [hlook 10 (by decide) _ _ rfl rfl, (hdep 10 (by decide)).1.1]
   have em : M 100 = o.Mx := (hdep 100 (by decide)).1
   replace hs : HS w0 w ((L0 ++ R) ++ (M 100 ++ [])) := hs
   rw [List.append_nil, em] at hs
   have ex : jdF E [.tmp 76, .tmp 80] = some [o.vx, .agg o.t.x.cells.toArray] := by
    have e1 : jaD E (.tmp 76) = some o.vx := ev
    have e2 : jaD E (.tmp 80) = some (.agg o.t.x.cells.toArray) := es
    unfold jdF jdF jdF
    rw [e1, e2]
   refine jmB (first := []) (cap := []) rfl f_73 ef ex (kept_ok w0 w o.vx o.Mx (L0 ++ R) o.xs o.xs.length o.t.x hs ho.bx rfl ho.lx) ?_
   rintro v w' ⟨M', hs', hb'⟩
   exact hc _ _ _ hb' hb'.own hs'
  | 21, ho' =>
   cases ho'
   have ef : Lk.look E 82 = some (.func (.func 73) #[] #[]) := by rw [hlook 12 (by decide) _ _ rfl rfl, (hdep 12 (by decide)).1.1]
   have ev : Lk.look E 86 = some o.vy := by rw [hlook 16 (by decide) _ _ rfl rfl, (hdep 16 (by decide)).1.1]
   have es : Lk.look E 90 = some (.agg o.t.y.cells.toArray) := by rw [hlook 20 (by decide) _ _ rfl rfl, (hdep 20 (by decide)).1.1]
   have em : M 101 = o.My := (hdep 101 (by decide)).1
   replace hs : HS w0 w ((L0 ++ R) ++ (M 101 ++ [])) := hs
   rw [List.append_nil, em] at hs
   have ex : jdF E [.tmp 86, .tmp 90] = some [o.vy, .agg o.t.y.cells.toArray] := by
    have e1 : jaD E (.tmp 86) = some o.vy := ev
    have e2 : jaD E (.tmp 90) = some (.agg o.t.y.cells.toArray) := es
    unfold jdF jdF jdF
    rw [e1, e2]
   refine jmB (first := []) (cap := []) rfl f_73 ef ex (kept_ok w0 w o.vy o.My (L0 ++ R) o.ys o.ys.length o.t.y hs ho.by' rfl (by rw [ho.ly]; exact ho.lx)) ?_
   rintro v w' ⟨M', hs', hb'⟩
   exact hc _ _ _ hb' hb'.own hs'
  | 24, ho' =>
   cases ho'
   have e23 : Lk.look E 93 = some (.pointer (some ((Addr.mk o.p 0 none).add 15))) := by rw [hlook 23 (by decide) _ _ rfl rfl, (hdep 23 (by decide)).1.1]
   have ev : Lk.look E 81 = some (V 11) := hlook 11 (by decide) _ _ rfl rfl
   have em : M 102 = [(o.p, Row 76 (jf5 o t1))] := (hdep 102 (by decide)).1
   replace hs : HS w0 w ((L0 ++ R) ++ (M 102 ++ [])) := hs
   rw [List.append_nil, em] at hs
   replace hs := HS.push hs
   have hb11 : Bo w0 48 5 (V 11) (jeX (o.xs ++ [o.t.x])).length (scs (jeX (o.xs ++ [o.t.x]))) (M 11) := (hdep 11 (by decide)).1
   obtain ⟨a1, c1, hv1, _⟩ := hb11.slice
   rw [hv1] at ev
   refine jaH hs (i := 0) rfl jn1 e23 ev (by rfl) (by simp [On.cells]) rfl ?_
   intro w' hs'
   refine hc .nilIface [(o.p, Row 76 ((jf5 o t1).set 15 (V 11)))] w' rfl (Own.cons hp Own.nil) ?_
   rw [hv1]
   exact hs'.mem_perm (List.perm_append_comm (l₁ := [_]))
  | 27, ho' =>
   cases ho'
   have e26 : Lk.look E 95 = some (.pointer (some ((Addr.mk o.p 0 none).add 16))) := by rw [hlook 26 (by decide) _ _ rfl rfl, (hdep 26 (by decide)).1.1]
   have ev : Lk.look E 91 = some (V 21) := hlook 21 (by decide) _ _ rfl rfl
   have em : M 24 = [(o.p, Row 76 ((jf5 o t1).set 15 (V 11)))] := (hdep 24 (by decide)).1
   replace hs : HS w0 w ((L0 ++ R) ++ (M 24 ++ [])) := hs
   rw [List.append_nil, em] at hs
   replace hs := HS.push hs
   have hb21 : Bo w0 48 5 (V 21) (jeX (o.ys ++ [o.t.y])).length (scs (jeX (o.ys ++ [o.t.y]))) (M 21) := (hdep 21 (by decide)).1
   obtain ⟨a1, c1, hv1, _⟩ := hb21.slice
   rw [hv1] at ev
   refine jaH hs (i := 0) rfl jn1 e26 ev (by rfl) (by simp [On.cells]) rfl ?_
   intro w' hs'
   refine hc .nilIface [(o.p, Row 76 (((jf5 o t1).set 15 (V 11)).set 16 (V 21)))] w' rfl (Own.cons hp Own.nil) ?_
   rw [hv1]
   exact hs'.mem_perm (List.perm_append_comm (l₁ := [_]))
 intro V M9 own w hΦ hs hown hnd E hold hlook
 obtain ⟨v11, hv11⟩ : ∃ v, V 11 = v := ⟨_, rfl⟩
 obtain ⟨v21, hv21⟩ : ∃ v, V 21 = v := ⟨_, rfl⟩
 have h11 : Bo w0 48 5 v11 (jeX (o.xs ++ [o.t.x])).length (scs (jeX (o.xs ++ [o.t.x]))) (M9 11) := hv11 ▸ (hΦ 11 (by decide)).1
 have h21 : Bo w0 48 5 v21 (jeX (o.ys ++ [o.t.y])).length (scs (jeX (o.ys ++ [o.t.y]))) (M9 21) := hv21 ▸ (hΦ 21 (by decide)).1
 have h27 : M9 27 = [(o.p, Row 76 (((jf5 o t1).set 15 v11).set 16 v21))] := by rw [<- hv11, <- hv21]; exact (hΦ 27 (by decide)).1
 have o11 : 11 ∈ own := (hown 11).2 ⟨.inl (by decide), by decide⟩
 have o21 : 21 ∈ own := (hown 21).2 ⟨.inl (by decide), by decide⟩
 have o27 : 27 ∈ own := (hown 27).2 ⟨.inl (by decide), by decide⟩
 have hoo : ∀ j ∈ own, Own w0 (M9 j) := fun j hj => by
  obtain ⟨h1, h2⟩ := (hown j).1 hj
  rcases h1 with h1 | h1
  ·
   exact (hΦ j h1).2
  exfalso
  simp only [List.mem_cons, List.not_mem_nil, or_false] at h1
  rcases h1 with rfl | rfl | rfl
  ·
   exact h2 11 (by decide) (by decide)
  ·
   exact h2 21 (by decide) (by decide)
  exact h2 24 (by decide) (by decide)
 have h3 := hs.pickOwn3 o11 o21 o27 (by decide) (by decide) (by decide) hoo
 rw [h27, hL0] at h3
 have hcxy := capL_len ho.ly o.t.x o.t.y
 have hcxl := capL_le (o.xs ++ [o.t.x])
 obtain ⟨cx, hcx⟩ : ∃ cx, cx = jeX (o.xs ++ [o.t.x]) := ⟨_, rfl⟩
 obtain ⟨cy, hcy⟩ : ∃ cy, cy = jeX (o.ys ++ [o.t.y]) := ⟨_, rfl⟩
 rw [<- hcx] at h11 hcxy hcxl
 rw [<- hcy] at h21 hcxy
 refine jg0 rfl ⟨_, rfl, ⟨o.p, t1, v11, M9 11, cx, v21, M9 21, cy, o.c⟩, rfl, rfl, ?_, hcx, hcy, ?_, ?_⟩
 ·
  show t1 = _
  rw [ht1, hkd, hst']; rfl
 ·
  have h4 : HS w0 w ((b6, Row 86 [.pointer (some ⟨o.p, 0, none⟩)]) :: (L ++ ((o.p, Row 76 (((jf5 o t1).set 15 v11).set 16 v21)) :: (M9 11 ++ M9 21)))) := HS.re h3 (fun c => by simp only [mpA, mpC, mpN, smA, smC, smN]; omega)
  exact HS.pop h4 hb6
 refine ⟨hp, ?_, ?_, ?_, hcxl, hcxy⟩
 ·
  exact h11
 ·
  exact h21
 show t1.seen < 65536
 rw [ht1]; exact ho.seen
def pcs (l : List Plt) : List Value := l.flatMap Plt.cells
theorem jf1 (l : List Plt) : (pcs l).length = l.length * 5 := by
 induction l with
 | nil => rfl
 | cons t ts ih =>
  show (t.cells ++ pcs ts).length = _
  rw [List.length_append, ih, List.length_cons]
  show 5 + _ = _
  omega
theorem jm3 : ∀ {ts : List Plt} {i q : Nat} {v : Value}, i < ts.length -> (ts.getD i plt0).cells[q]? = some v -> (pcs ts)[i * 5 + q]? = some v
 | t :: ts, 0, q, v, _, h => by
  show (t.cells ++ pcs ts)[0 * 5 + q]? = some v
  rw [Nat.zero_mul, Nat.zero_add]
  have hq : q < t.cells.length := (List.getElem?_eq_some_iff.1 h).1
  rw [List.getElem?_append_left hq]; exact h
 | t :: ts, i + 1, q, v, hi, h => by
  show (t.cells ++ pcs ts)[(i + 1) * 5 + q]? = some v
  have hl : t.cells.length = 5 := rfl
  rw [List.getElem?_append_right (by omega), show (i + 1) * 5 + q - t.cells.length = i * 5 + q by omega]
  exact jm3 (by simpa using hi) h
theorem plt_at {w : World} {a : Option Addr} {ts : List Plt} (h : SlC w a (pcs ts)) {i : Nat} (hi : i < ts.length) : jbF w ((aD a).add (i * 5)) (ts.getD i plt0).cells := h.sub fun _ _ hv => jm3 hi hv
theorem Plt.one (t : Plt) : ∀ v ∈ t.cells, v.oneCell' = true := by simp [Plt.cells, Value.oneCell']
structure PltLt (l : Plt) : Prop where
 r : l.r < 18446744073709551616
 b : l.b < 18446744073709551616
def jgW (l : Plt) : Bool := [l.r, l.b].all je6
theorem badplot_ok (l : Plt) (hl : PltLt l) (w0 : World) : Ret Tryz.prog 61 [.agg l.cells.toArray] w0 fun v w' => v = .bool (!jgW l) /\ HS w0 w' [] := by
 refine Ret.start fun w hs => ?_
 refine ja7 Tryz.func61 rfl rfl rfl (Wq (jeH rfl hs rfl ?_))
 intro b1 w hb1 hnb1 hs
 dsimp only [sS, sZ, sA, sN] at hs
 refine La rfl (Rq ?_)
 replace hs : HS w0 w [(b1, Row 42 l.cells)] := hs
 refine Lf 0 jqM rfl jaS (Ll jb5 rfl (by exact hs.cell (i := 0) rfl rfl) ?_)
 refine Lf 3 jqM rfl jaS (Ll jb5 rfl (by exact hs.cell (i := 0) rfl rfl) ?_)
 refine jb0 rfl hs u_96 jaS rfl (by decide) rfl rfl ?_
 intro b7 w hb7 hnb7 hs
 simp only [List.map_cons, List.map_nil] at hs
 dsimp only [sS, sZ, sA, sN] at hs
 replace hs : HS w0 w [(b1, Row 42 l.cells), (b7, Row 22 (fl [l.r, l.b]))] := hs
 have hx : SlC w (some ⟨b7, 0, none⟩) (fl [l.r, l.b]) := SlC.of_row (sp := []) (hs.get (i := 1) rfl)
 refine Lc f_17 rfl (jp5 (some ⟨b7, 0, none⟩) 2 2 [l.r, l.b] w hx rfl (by decide) (fun z hz => by match z, hz with | 0, _ => exact hl.r | 1, _ => exact hl.b)) ?_
 rintro _ w1 ⟨rfl, hs'⟩
 replace hs := hs.nil hs'
 refine jcP rfl (La rfl (Rt (jaW (ja9 rfl rfl ?_))))
 exact ⟨_, rfl, rfl, hs.forget (Own.cons hb1 (Own.cons hb7 Own.nil))⟩
theorem pindex_ok (a : Option Addr) (k c : Nat) (xs : List Plt) (w0 : World) (hx : SlC w0 a (pcs xs)) (hk : xs.length = k) (hk2 : k <= 1000000) (hlt : ∀ i, i < k -> PltLt (xs.getD i plt0)) :
  Ret Tryz.prog 86 [.slice a k c, .func (.func 61) #[] #[]] w0 fun v w' => ∃ j, v = .int .i64 j /\ HS w0 w' [] /\ Found (fun i => jgW (xs.getD i plt0) = false) k j := by
 refine Ret.start fun w hs => ?_
 refine ja7 Tryz.func86 rfl rfl rfl (Wq (La rfl (Rqq (Lm rfl (Le jeA rfl (Lm rfl (Rt (ja4 ?_))))))))
 refine jd8 (fun (i : Nat) (w : World) => [(0, .slice a k c), (1, .func (.func 61) #[] #[]), (7, .int .i64 k), (8, .int .i64 i)]) (fun i w => w) (fun i w => (i <= k) /\ (∀ q, q < i -> jgW (xs.getD q plt0) = true) /\ (HS w0 w [])) (fun i w => k - i) (0) (w) (is := [0, 1, 7, 8]) rfl rfl ?_ ?_
 ·
  exact ⟨Nat.zero_le _, fun _ h => absurd h (Nat.not_lt_zero _), hs⟩
 clear hs
 intro i w hI
 show W _ _ _ _ [(0, .slice a k c), (1, .func (.func 61) #[] #[]), (7, .int .i64 k), (8, .int .i64 i)] w
 obtain ⟨hi, hq, hs⟩ := hI
 by_cases hlt2 : i < k
 ·
  have hxw := hx.old hs Own.nil
  refine Wq (jaZ rfl (jaF (by omega)) ?_)
  refine Rt (Wsq (Wt rfl (Ws (Wsq (ja4 (Wq (Lm rfl (La rfl (Rt (Wsq (Wr (Lmm rfl rfl (Lm rfl ?_)))))))))))))
  refine LiN jeA jg7 rfl (ja6 _) (by omega) (hx.ao (by rw [jf1]; omega)) ?_
  refine jb7 rfl a_42 jg7 rfl (by exact plt_at hxw (by omega)) ?_
  refine jmB rfl f_61 rfl rfl (badplot_ok (xs.getD i plt0) (hlt i hlt2) w) ?_
  rintro _ w' ⟨rfl, hs'⟩
  replace hs := hs.nil hs'
  cases hf : jgW (xs.getD i plt0)
  ·
   refine Rt (Wt rfl (Wq (Lm rfl (La rfl (Rt (jaW (jaG (ja2 (jc0 (jaG (ja2 (ja9 rfl rfl ?_))))))))))))
   exact ⟨_, rfl, _, rfl, hs, .inl ⟨i, hlt2, rfl, hf, fun q hqi h => by have h := h.symm.trans (hq q hqi); cases h⟩⟩
  refine Rt (Wf rfl (jaY (jaB (Nt (Wr (jbG rfl (ja3 (by omega)) ?_))))))
  refine Lm rfl (Rnl (Nq (i + 1, _) [0, 1, 7, 8] rfl ?_ ?_))
  ·
   dsimp only
   refine ⟨by omega, fun q hq2 => ?_, hs⟩
   by_cases hqi : q = i
   ·
    rw [hqi]; exact hf
   exact hq q (by omega)
  omega
 obtain rfl : k = i := by omega
 refine Wq (jaZ rfl (jaA (by omega)) ?_)
 refine Rt (Wsq (Wf rfl (jaK (ja0 (ja8 (ja1 (Nt (Wq (La rfl (Rt (jaW (ja9 rfl rfl ?_))))))))))))
 exact ⟨_, rfl, _, rfl, hs, .inr ⟨rfl, fun q hq2 h => by have h := h.symm.trans (hq q hq2); cases h⟩⟩
theorem pcontains_ok (a : Option Addr) (k c : Nat) (xs : List Plt) (w0 : World) (hx : SlC w0 a (pcs xs)) (hk : xs.length = k) (hk2 : k <= 1000000) (hlt : ∀ i, i < k -> PltLt (xs.getD i plt0)) :
  Ret Tryz.prog 60 [.slice a k c, .func (.func 61) #[] #[]] w0 fun v w' => v = .bool (!xs.all jgW) /\ HS w0 w' [] := by
 refine Ret.start fun w hs => ?_
 refine ja7 Tryz.func60 rfl rfl rfl (Wq (La rfl (Rq (Lmm rfl rfl (Lc f_86 rfl (pindex_ok a k c xs w (hx.old hs Own.nil) hk hk2 hlt) ?_)))))
 rintro _ w1 ⟨j, rfl, hs', hF⟩
 replace hs := hs.nil hs'
 rcases hF with ⟨i, hi, rfl, hp, _⟩ | ⟨rfl, hn⟩
 ·
  have e : xs.all jgW = false := by
   rw [<- Bool.not_eq_true, List.all_eq_true]
   intro h
   have := h (xs.getD i plt0) (jc6 (by omega))
   rw [hp] at this; cases this
  refine jgM rfl (jaF (by omega)) ?_
  refine La rfl (Rt (jaW (ja9 rfl rfl ?_)))
  exact ⟨_, rfl, by rw [e]; rfl, hs⟩
 have e : xs.all jgW = true := by
  rw [List.all_eq_true]
  intro x hx
  obtain ⟨i, hi, rfl⟩ := List.getElem_of_mem hx
  have : ¬ (jgW (xs.getD i plt0) = false) := hn i (by omega)
  rw [List.getD_eq_getElem?_getD, List.getElem?_eq_getElem hi] at this
  cases h : jgW xs[i] with
  | true => rfl
  | false => exact absurd h this
 refine jgM rfl (jaA (by omega)) ?_
 refine La rfl (Rt (jaW (ja9 rfl rfl ?_)))
 exact ⟨_, rfl, by rw [e]; rfl, hs⟩
def jeZ (last time : Nat) (l : List Plt) : Int := if 256 < l.length then 3 else if je6 time && l.all jgW then (if ltB time last then 2 else 0) else 6
theorem refused_ok (B time last : Nat) (a : Option Addr) (n c : Nat) (l : List Plt) (w0 : World) (hB : w0.cell? ⟨B, 8, none⟩ = some (.float .f64 last)) (ht : time < 18446744073709551616) (hx : SlC w0 a (pcs l)) (hn : l.length = n) (hn2 : n <= 1000000) (hlt : ∀ i, i < n -> PltLt (l.getD i plt0)) :
  Ret Tryz.prog 30 [.pointer (some ⟨B, 0, none⟩), .float .f64 time, .slice a n c] w0 fun v w' => v = .int .i64 (jeZ last time l) /\ HS w0 w' [] := by
 refine Ret.start fun w hs => ?_
 have hBl := World.block_lt_of_cell? w0 _ hB
 refine ja7 Tryz.func30 rfl rfl rfl ?_
 by_cases h256 : 256 < n
 ·
  have e : jeZ last time l = 3 := by unfold jeZ; rw [if_pos (by omega)]
  refine Wq (La rfl (Rt (Wsq (ja4 (Wq (Lm rfl (Le jeA rfl (jgY rfl (jaF (by omega)) ?_))))))))
  refine La rfl (Rt (Wt rfl (Wq (La rfl (Rt (jaW (jaG (ja2 (ja9 rfl rfl ?_)))))))))
  exact ⟨_, rfl, by rw [e], hs⟩
 refine Wq (La rfl (Rt (Wsq (ja4 (Wq (Lm rfl (Le jeA rfl (jgY rfl (jaA (by omega)) ?_))))))))
 refine La rfl (Rt (Wf rfl (Wqq (Lm rfl (jb0 rfl hs u_96 jaS rfl (by decide) rfl rfl ?_)))))
 intro b13 w hb13 hnb13 hs
 simp only [List.map_cons, List.map_nil] at hs
 dsimp only [sS, sZ, sA, sN] at hs
 have hxf : SlC w (some ⟨b13, 0, none⟩) (fl [time]) := SlC.of_row (sp := []) (hs.get (i := 0) rfl)
 refine Lc f_17 rfl (jp5 (some ⟨b13, 0, none⟩) 1 1 [time] w hxf rfl (by decide) (fun z hz => by match z, hz with | 0, _ => exact ht)) ?_
 rintro _ w1 ⟨rfl, hs'⟩
 have h1 : HS w0 w1 [] := (hs.nil hs').forget (Own.cons hb13 Own.nil)
 clear hs hs' hxf
 have hs := h1
 clear h1
 rw [show [time].all je6 = je6 time by simp]
 cases hf : je6 time
 ·
  have e : jeZ last time l = 6 := by unfold jeZ; rw [if_neg (by omega), hf]; rfl
  refine jcP rfl (La rfl (Rt (Wt rfl (Ws (Wt rfl (Wq (La rfl (Rt (jaW (jaG (ja2 (ja9 rfl rfl ?_))))))))))))
  exact ⟨_, rfl, by rw [e], hs⟩
 refine jcP rfl (La rfl (Rt (Wf rfl (Wr (Lm rfl (Lc f_60 rfl (pcontains_ok a n c l w1 (hx.old hs Own.nil) hn hn2 hlt) ?_))))))
 rintro _ w2 ⟨rfl, hs'⟩
 replace hs := hs.nil hs'
 clear hs'
 cases hp : l.all jgW
 ·
  have e : jeZ last time l = 6 := by unfold jeZ; rw [if_neg (by omega), hf, hp]; rfl
  refine La rfl (Rt (Wt rfl (Wq (La rfl (Rt (jaW (jaG (ja2 (ja9 rfl rfl ?_)))))))))
  exact ⟨_, rfl, by rw [e], hs⟩
 have hq : (FloatKind.f64.format.order time last == some .lt) = ltB time last := rfl
 cases hl : ltB time last
 ·
  have e : jeZ last time l = 0 := by unfold jeZ; rw [if_neg (by omega), hf, hp, hl]; rfl
  rw [hl] at hq
  refine La rfl (Rt (Wf rfl (Wq (Lmm rfl rfl (Ln rfl (Lf 8 jfS rfl jaS (Ll jb5 rfl (by exact hs.oldcell hB (Own.nil.notin hBl)) ?_)))))))
  refine Cf rfl (fun _ => by rw [binOp_float_cmp_lss, hq]; rfl) ?_
  refine La rfl (Rt (Wf rfl (jaY (jaB (Nt (Wq (La rfl (Rt (jaW (ja9 rfl rfl ?_))))))))))
  exact ⟨_, rfl, by rw [e], hs⟩
 have e : jeZ last time l = 2 := by unfold jeZ; rw [if_neg (by omega), hf, hp, hl]; rfl
 rw [hl] at hq
 refine La rfl (Rt (Wf rfl (Wq (Lmm rfl rfl (Ln rfl (Lf 8 jfS rfl jaS (Ll jb5 rfl (by exact hs.oldcell hB (Own.nil.notin hBl)) ?_)))))))
 refine Cf rfl (fun _ => by rw [binOp_float_cmp_lss, hq]; rfl) ?_
 refine La rfl (Rt (Wt rfl (Wq (La rfl (Rt (jaW (jaG (ja2 (ja9 rfl rfl ?_)))))))))
 exact ⟨_, rfl, by rw [e], hs⟩
theorem or_63 {q : Nat} (hq : q < 9223372036854775808) : q ||| 9223372036854775808 = 9223372036854775808 + q := by
 have := Nat.two_pow_add_eq_or_of_lt (i := 63) (b := q) hq 1
 rw [Nat.mul_one] at this
 rw [Nat.or_comm]
 exact this.symm
theorem copF_word (a s : Bool) (q r : Nat) (hq : q < 9223372036854775808) (hr : r < 9223372036854775808) : copF (Ieee.double.word a q) (Ieee.double.word s r) = Ieee.double.word s q := by
 unfold copF
 have h1 : Ieee.double.word a q &&& (18446744073709551615 - 9223372036854775808) = q := by
  rw [show 18446744073709551615 - 9223372036854775808 = 2 ^ 63 - 1 by decide, Nat.and_two_pow_sub_one_eq_mod]
  unfold Ieee.Format.word
  rw [jb3]
  cases a <;> simp <;> omega
 have h0 : r &&& 9223372036854775808 = 0 := by
  apply Nat.eq_of_testBit_eq
  intro i
  rw [Nat.testBit_and, show (9223372036854775808 : Nat) = 2 ^ 63 by decide, Nat.testBit_two_pow, Nat.zero_testBit]
  by_cases hi : 63 = i
  ·
   subst hi
   rw [Nat.testBit_lt_two_pow (by omega)]; rfl
  simp [hi]
 have h2 : Ieee.double.word s r &&& 9223372036854775808 = if s then 9223372036854775808 else 0 := by
  unfold Ieee.Format.word
  rw [jb3]
  cases s
  ·
   simp only [Bool.false_eq_true, if_false]
   exact h0
  simp only [if_true]
  rw [<- or_63 hr, Nat.and_or_distrib_right, h0, Nat.and_self, Nat.zero_or]
 rw [h1, h2]
 unfold Ieee.Format.word
 rw [jb3]
 cases s
 ·
  simp
 simp only [if_true]; exact or_63 hq
def tD (x : Nat) : Nat := if FloatKind.f64.format.order x 0 == some .lt then Op.negFloat .f64 (floW (Op.negFloat .f64 x)) else floW x
theorem jgS (s : Bool) (r : Nat) (h : r < 9218868437227405312) : FV (Ieee.double.word s r) ((if s then -1 else 1) * (rv r : Int)) := ⟨s, r, rfl, h, rfl⟩
theorem jp4 : FV 0 0 := jm9 false
theorem tD_word (s : Bool) (r : Nat) (h : r < 9218868437227405312) : ∃ r1, r1 <= r /\ truF (Ieee.double.word s r) = Ieee.double.word s r1 /\ tD (Ieee.double.word s r) = Ieee.double.word s r1 := by
 obtain ⟨r1, h1, h2, h3, h4⟩ := tru_word s r h
 refine ⟨r1, h1, h2, ?_⟩
 unfold tD
 rw [(jgS s r h).order jp4]
 by_cases hr : r = 0
 ·
  subst hr
  obtain rfl : r1 = 0 := by omega
  rw [show rv 0 = 0 from rv_zero.2 rfl, if_neg (by cases s <;> decide)]
  exact h4 rfl
 have hp : rv r ≠ 0 := fun h0 => hr (rv_zero.1 h0)
 cases s
 ·
  rw [if_neg]
  ·
   exact h3
  simp only [Bool.false_eq_true, if_false, Int.one_mul]
  rw [Int.compare_eq_gt.2 (by omega)]
  decide
 rw [if_pos]
 ·
  rw [jn0 true r (by omega)]
  show Op.negFloat .f64 (floW (Ieee.double.word false r)) = _
  rw [h3, jn0 false r1 (by omega)]
  rfl
 simp only [if_true]
 rw [Int.compare_eq_lt.2 (by omega)]
 rfl
theorem sub_word (s : Bool) (r r1 : Nat) (h : r < 9218868437227405312) (h1 : r1 <= r) : ∃ a q, fop .sub (Ieee.double.word s r) (Ieee.double.word s r1) = Ieee.double.word a q /\ q < 9218868437227405312 /\ (q = 0 ∨ a = s) := by
 obtain ⟨c, hc⟩ : ∃ c, c = 1074 := ⟨_, rfl⟩
 obtain ⟨m, p, e1, e2, e3⟩ := jkE r h
 obtain ⟨n, j, f1, f2, f3⟩ := jkE r1 (by omega)
 have hv : Ieee.signed s m (p + 1074).toNat = (if s then -1 else 1) * (rv r : Int) := by rw [jbC, e3]
 have hu : Ieee.signed (!s) n (j + 1074).toNat = - ((if s then -1 else 1) * (rv r1 : Int)) := by rw [jkZ, jbC, f3]
 obtain ⟨w, g1, g2, g3⟩ := fv_sum c hc e2 f2 hv hu
 have hw : floatBits .sub .f64 (Ieee.double.word s r) (Ieee.double.word s r1) = some w := by
  rw [<- g1]
  show (Ieee.Datum.sum (Ieee.double.read _) (Ieee.double.read _).opposite).map Ieee.double.write = _
  rw [e1, f1]
  rfl
 have hf : fop .sub (Ieee.double.word s r) (Ieee.double.word s r1) = w := by unfold fop; rw [hw]; rfl
 rw [hf]
 have hle := rv_le.2 h1
 by_cases h0 : (if s then -1 else 1) * (rv r : Int) + - ((if s then -1 else 1) * (rv r1 : Int)) = 0
 ·
  obtain ⟨a, q, h2, h3, h4⟩ := g2 h0
  refine ⟨a, q, h2, h3, .inl (rv_zero.1 ?_)⟩
  cases a <;> simp at h4 <;> omega
 refine ⟨_, _, g3 h0, ?_, .inr ?_⟩
 ·
  have hb : ((if s then -1 else 1) * (rv r : Int) + - ((if s then -1 else 1) * (rv r1 : Int))).natAbs <= rv r := by cases s <;> simp <;> omega
  have hR := jh4 (c := c) (T := ((if s then -1 else 1) * (rv r : Int) + - ((if s then -1 else 1) * (rv r1 : Int))).natAbs) (by omega) hb
  have hr0 : r ≠ 0 := fun hr => by
   subst hr
   obtain rfl : r1 = 0 := by omega
   rw [show rv 0 = 0 from rv_zero.2 rfl] at h0
   cases s <;> simp at h0
  rw [jkF c r hc hr0] at hR
  exact Nat.lt_of_le_of_lt (Nat.min_le_left _ _) (Nat.lt_of_le_of_lt hR h)
 cases s
 ·
  simp at h0 ⊢; omega
 simp at h0 ⊢; omega
theorem isnan_e (y : Nat) : jb1 y = !(decide (y % 9223372036854775808 <= 9218868437227405312)) := by
 show (Ieee.Format.read Ieee.double y).isNaN = _
 unfold Ieee.Format.read
 rw [jb3, jdP, jc8]
 dsimp only
 split
 ·
  rw [decide_eq_true (by omega)]; rfl
 split
 ·
  rw [decide_eq_true (by omega)]; rfl
 split
 ·
  rw [decide_eq_true (by omega)]; rfl
 rw [decide_eq_false (by omega)]; rfl
theorem jn9 {x : Nat} (h : x < 18446744073709551616) : ∃ s r, x = Ieee.double.word s r /\ r < 9223372036854775808 := by
 refine ⟨decide (9223372036854775808 <= x), x % 9223372036854775808, ?_, Nat.mod_lt _ (by decide)⟩
 unfold Ieee.Format.word
 rw [jb3]
 by_cases hx : 9223372036854775808 <= x
 ·
  simp only [hx, decide_true, if_true]; omega
 simp only [hx, decide_false, Bool.false_eq_true, if_false]; omega
theorem jqL (s : Bool) {r : Nat} (h : r < 9223372036854775808) : Ieee.double.word s r % 9223372036854775808 = r := by
 unfold Ieee.Format.word
 rw [jb3]
 cases s <;> simp <;> omega
theorem word_lt (s : Bool) {r : Nat} (h : r < 9223372036854775808) : Ieee.double.word s r < 18446744073709551616 := by
 unfold Ieee.Format.word
 rw [jb3]
 cases s <;> simp <;> omega
theorem wrapG_lt {y : Nat} (h : y < 18446744073709551616) : jk9 y < 18446744073709551616 := by
 unfold jk9
 split
 ·
  exact fop_lt _ _ _
 split
 ·
  exact fop_lt _ _ _
 exact h
theorem fin_self (s : Bool) (r : Nat) (h : r < 9218868437227405312) : FloatKind.f64.format.order (fop .sub (Ieee.double.word s r) (Ieee.double.word s r)) 0 = some .eq := by
 obtain ⟨a, q, h1, h2, _⟩ := sub_word s r r h (Nat.le_refl _)
 obtain ⟨m, p, e1, e2, e3⟩ := jkE r h
 obtain ⟨c, hc⟩ : ∃ c, c = 1074 := ⟨_, rfl⟩
 have hv : Ieee.signed s m (p + 1074).toNat = (if s then -1 else 1) * (rv r : Int) := by rw [jbC, e3]
 have hu : Ieee.signed (!s) m (p + 1074).toNat = - ((if s then -1 else 1) * (rv r : Int)) := by rw [jkZ, jbC, e3]
 obtain ⟨w, g1, g2, _⟩ := fv_sum c hc e2 e2 hv hu
 have hw : floatBits .sub .f64 (Ieee.double.word s r) (Ieee.double.word s r) = some w := by
  rw [<- g1]
  show (Ieee.Datum.sum (Ieee.double.read _) (Ieee.double.read _).opposite).map Ieee.double.write = _
  rw [e1]
  rfl
 have hf : fop .sub (Ieee.double.word s r) (Ieee.double.word s r) = w := by unfold fop; rw [hw]; rfl
 rw [hf, (g2 (by omega)).order jp4]
 rfl
theorem wrap_fin (s : Bool) (r : Nat) (h : r < 9218868437227405312) {y : Nat} (hy : y = jk9 (fop .sub (Ieee.double.word s r) (tD (Ieee.double.word s r)))) :
  (jb1 y = true /\ je8 (Ieee.double.word s r) = qnan) ∨ (jb1 y = false /\ je8 (Ieee.double.word s r) = if (FloatKind.f64.format.order y 0 == some .eq) = true then 0 else y) := by
 obtain ⟨r1, h1, h2, h3⟩ := tD_word s r h
 obtain ⟨a, q, h4, h5, h6⟩ := sub_word s r r1 h h1
 have hw : je8 (Ieee.double.word s r) = fop .add (jk9 (Ieee.double.word s q)) 0 := by
  unfold je8
  rw [fin_self s r h, if_neg (by decide), h2, h4, copF_word a s q r (by omega) (by omega)]
 rw [h3, h4] at hy
 rw [hw]
 rcases h6 with hq | hq
 ·
  subst hq hy
  right
  cases a <;> cases s <;> decide +kernel
 subst hq
 rw [<- hy]
 have hl : y < 18446744073709551616 := by rw [hy]; exact wrapG_lt (word_lt a (by omega))
 cases hn : jb1 y with
 | true =>
  left
  refine ⟨rfl, ?_⟩
  have : cn y = cn qnan := by rw [jeR hn, jeR (by decide +kernel)]
  rw [ja5 (op := .add) this (rfl : cn 0 = cn 0)]
  decide +kernel
 | false => exact .inr ⟨rfl, fop_add0 hl hn⟩
theorem wrapF_inf (s : Bool) : je8 (Ieee.double.word s 9218868437227405312) = qnan := by cases s <;> decide +kernel
theorem wrapF_nan {x : Nat} (h : jb1 x = true) : je8 x = qnan := by
 unfold je8
 have : cn x = cn qnan := by rw [jeR h, jeR (by decide +kernel)]
 rw [ja5 (op := .sub) this this, if_pos (by decide +kernel)]
theorem isnanA (x : Nat) (w : World) : Ret Tryz.prog 43 [.float .f64 x] w fun v w' => v = .bool (FloatKind.f64.format.order x x != some .eq) /\ w' = w := by
 refine ja7 Tryz.func43 rfl rfl rfl (Wq (La rfl (Rq (Lmm rfl rfl ?_))))
 refine Cf rfl (fun _ => by rw [binOp_float_cmp_neq]; rfl) ?_
 refine La rfl (Rt (jaW (ja9 rfl rfl ?_)))
 exact ⟨_, rfl, rfl, rfl⟩
theorem isinfA (x : Nat) (hx : x < 18446744073709551616) (w : World) : Ret Tryz.prog 44 [.float .f64 x, .int .i64 0] w fun v w' => v = .bool (FloatKind.f64.format.order (x % 9223372036854775808) 9218868437227405311 == some .gt) /\ w' = w := by
 refine ja7 Tryz.func44 rfl rfl rfl (Wq (La rfl (Rqq (Lm rfl (jdS rfl (jaF (by omega)) ?_)))))
 refine Rt (Wt rfl (Wr (Lm rfl (Lc f_75 rfl (abs_ok x hx w) ?_))))
 rintro _ w ⟨rfl, rfl⟩
 refine La rfl (Rq (Lm rfl ?_))
 refine Cf rfl (fun _ => by rw [binOp_float_cmp_gtr]; rfl) ?_
 refine La rfl (Rt (jaW (ja9 rfl rfl ?_)))
 exact ⟨_, rfl, rfl, rfl⟩
theorem jp9 (s : Bool) (r : Nat) (h : r < 9218868437227405312) : FloatKind.f64.format.order (Ieee.double.word s r) (Ieee.double.word s r) = some .eq := by
 rw [(jgS s r h).order (jgS s r h), Int.compare_eq_eq.2 rfl]
theorem fin_max (r : Nat) (h : r < 9218868437227405312) : (FloatKind.f64.format.order r 9218868437227405311 == some .gt) = false := by
 have h1 := (jgS false r h).order (jgS false 9218868437227405311 (by decide))
 have h2 : FloatKind.f64.format.order r 9218868437227405311 = compare ((if false = true then -1 else 1) * (rv r : Int)) ((if false = true then -1 else 1) * (rv 9218868437227405311 : Int)) := h1
 rw [h2]
 have := rv_le.2 (show r <= 9218868437227405311 by omega)
 simp only [Bool.false_eq_true, if_false, Int.one_mul]
 have h3 : compare (rv r : Int) (rv 9218868437227405311 : Int) ≠ .gt := fun hg => by
  have := Int.compare_eq_gt.1 hg
  omega
 cases hc : compare (rv r : Int) (rv 9218868437227405311 : Int) with
 | gt => exact absurd hc h3
 | lt => rfl
 | eq => rfl
theorem jgA (s : Bool) (r : Nat) (h : r < 9223372036854775808) : jb1 (Ieee.double.word s r) = decide (9218868437227405312 < r) := by
 rw [isnan_e, jqL s h]
 by_cases hr : r <= 9218868437227405312
 ·
  rw [decide_eq_true hr, decide_eq_false (by omega)]; rfl
 rw [decide_eq_false hr, decide_eq_true (by omega)]; rfl
def WR (x r : Nat) : Prop := (jb1 r = true /\ je8 x = qnan) ∨ (jb1 r = false /\ r < 18446744073709551616 /\ je8 x = if (FloatKind.f64.format.order r 0 == some .eq) = true then 0 else r)
theorem WR.of {s : Bool} {q r : Nat} (h : q < 9218868437227405312) (hr : jb1 r = false -> r < 18446744073709551616) (hy : cn r = jk9 (fop .sub (Ieee.double.word s q) (tD (Ieee.double.word s q)))) : WR (Ieee.double.word s q) r := by
 cases hn : jb1 r with
 | true =>
  left
  rcases wrap_fin s q h hy with ⟨_, h2⟩ | ⟨h1, _⟩
  ·
   exact ⟨hn, h2⟩
  rw [jdA, hn] at h1; cases h1
 | false =>
  right
  rw [jdH hn] at hy
  rcases wrap_fin s q h hy with ⟨h1, _⟩ | ⟨_, h2⟩
  ·
   rw [hn] at h1; cases h1
  exact ⟨hn, hr hn, h2⟩
set_option maxHeartbeats 1000000 in
theorem rwrap_ok (x : Nat) (hx : x < 18446744073709551616) (w0 : World) : Ret Tryz.prog 92 [.float .f64 x] w0 fun v w' => ∃ r, v = .float .f64 r /\ WR x r /\ HS w0 w' [] := by
 refine Ret.start fun w hs => ?_
 obtain ⟨s, q, hxw, hq⟩ := jn9 hx
 refine ja7 Tryz.func92 rfl rfl rfl (Wq (La rfl (Rqq (Lm rfl (Lc f_43 rfl (isnanA x w) ?_)))))
 rintro _ w ⟨rfl, rfl⟩
 by_cases hnn : 9218868437227405312 < q
 ·
  have hxn : jb1 x = true := by rw [hxw, jgA s q hq]; exact decide_eq_true hnn
  rw [jcM hxn]
  refine Lm rfl (Rs rfl (Rs rfl (Lpt rfl (Rt (Wt rfl (Wq (Lc f_93 rfl (nan_ok _) ?_)))))))
  rintro _ w2 ⟨r, rfl, hr, hs'⟩
  replace hs := hs.nil hs'
  refine La rfl (Rt (jaW (ja2 (ja9 rfl rfl ?_))))
  exact ⟨_, rfl, _, rfl, .inl ⟨hr, wrapF_nan hxn⟩, hs⟩
 by_cases hin : q = 9218868437227405312
 ·
  have e1 : FloatKind.f64.format.order x x = some .eq := by rw [hxw, hin]; cases s <;> decide +kernel
  rw [e1]
  refine Lm rfl (Gm rfl rfl (Rw rfl (Lc f_44 rfl (isinfA x hx w) ?_)))
  rintro _ w ⟨rfl, rfl⟩
  have e2 : (FloatKind.f64.format.order (x % 9223372036854775808) 9218868437227405311 == some .gt) = true := by rw [hxw, jqL s hq, hin]; decide +kernel
  rw [e2]
  refine Lpf rfl (Rt (Wt rfl (Wq (Lc f_93 rfl (nan_ok _) ?_))))
  rintro _ w2 ⟨r, rfl, hr, hs'⟩
  replace hs := hs.nil hs'
  refine La rfl (Rt (jaW (ja2 (ja9 rfl rfl ?_))))
  exact ⟨_, rfl, _, rfl, .inl ⟨hr, by rw [hxw, hin]; exact wrapF_inf s⟩, hs⟩
 have hqf : q < 9218868437227405312 := by omega
 have e1 : FloatKind.f64.format.order x x = some .eq := by rw [hxw]; exact jp9 s q hqf
 have hxn : jb1 x = false := by rw [hxw, jgA s q hq]; exact decide_eq_false hnn
 rw [e1]
 refine Lm rfl (Gm rfl rfl (Rw rfl (Lc f_44 rfl (isinfA x hx w) ?_)))
 rintro _ w ⟨rfl, rfl⟩
 have e2 : (FloatKind.f64.format.order (x % 9223372036854775808) 9218868437227405311 == some .gt) = false := by rw [hxw, jqL s hq]; exact fin_max q hqf
 rw [e2]
 refine Lpf rfl (Rt (Wf rfl (Ws (Wq (Lm rfl (Lc f_65 rfl (jn3 x (floW x) hxn rfl w) ?_))))))
 rintro _ w ⟨rfl, rfl⟩
 obtain ⟨td, htd⟩ : ∃ td, td = tD x := ⟨_, rfl⟩
 refine La rfl (Rqq (Lm rfl ?_))
 refine Cf rfl (fun _ => by rw [binOp_float_cmp_lss]; rfl) ?_
 refine Rt (W_cut1 (fun (w : World) => [(0, .float .f64 x), (3, .float .f64 td)]) (fun w => w) (fun w => (HS w0 w [])) ?_ ?_)
 ·
  cases hlt : FloatKind.f64.format.order x 0 == some .lt
  ·
   refine jcG 3 (v' := .float .f64 td) rfl ((by rw [htd]; unfold tD; rw [hlt]; rfl)) ?_
   refine Wf rfl (jaY (jbD (w) (is := [0, 3]) (I' := (fun (w : World) => (HS w0 w [])) (w)) rfl rfl rfl ?_))
   exact hs
  refine Wt rfl (Wr (Lm rfl (jhC rfl rfl ?_)))
  refine Lc f_65 rfl (jn3 (Op.negFloat .f64 x) (floW (Op.negFloat .f64 x)) (by rw [jp0]; exact hxn) rfl _) ?_
  rintro _ w ⟨rfl, rfl⟩
  refine jhC rfl rfl (La rfl (Rnl ?_))
  refine Nx_set 3 (v' := .float .f64 td) rfl ((by rw [htd]; unfold tD; rw [hlt]; rfl)) ?_
  refine jbD (_) (is := [0, 3]) (I' := (fun (w : World) => (HS w0 w [])) (_)) rfl rfl rfl ?_
  exact hs
 clear hs
 intro w hI
 show W _ _ _ _ [(0, .float .f64 x), (3, .float .f64 td)] w
 have hs := hI
 clear hI
 refine Wq (Lmm rfl rfl (jaC rfl (op := .sub) rfl rfl rfl ?_))
 intro r22 k22 hr22
 replace hs := hs.drewN k22
 refine La rfl (Rt (Wsq (Wsq ?_)))
 have hy : cn r22 = fop .sub x (tD x) := by rw [<- htd]; exact Fs.cn hr22
 have o1 : ∀ z, FloatKind.f64.format.order (fop .sub x (tD x)) z = FloatKind.f64.format.order r22 z := fun z => jd5 ((jaL ..).trans hy.symm) rfl
 have c1 : cn r22 = cn (fop .sub x (tD x)) := hy.trans (jaL ..).symm
 cases hg : (FloatKind.f64.format.order r22 4602678819172646912 == some .gt || FloatKind.f64.format.order r22 4602678819172646912 == some .eq)
 ·
  refine Wr (Lm rfl ?_)
  refine Cf rfl (fun _ => by rw [binOp_float_cmp_geq]; rfl) ?_
  refine Rt (jcG 24 (v' := .bool false) rfl ((congrArg Value.bool hg)) (Wf rfl (Ws (Wqq (Lm rfl ?_)))))
  refine Cf rfl (fun _ => by rw [binOp_float_cmp_lss]; rfl) ?_
  refine Rt ?_
  cases hl : FloatKind.f64.format.order r22 13826050856027422720 == some .lt
  ·
   refine Wf rfl (Ws (Wq (Lm rfl (La rfl (Rt (jaW (ja9 rfl rfl ?_)))))))
   refine ⟨_, rfl, _, rfl, ?_, hs⟩
   rw [hxw] at hy o1 c1 ⊢
   refine WR.of hqf (fs_lt hr22) ?_
   unfold jk9; rw [o1, o1, hg, hl, if_neg (by decide), if_neg (by decide)]
   exact hy
  refine Wt rfl (Wq (Lm rfl (jaC rfl (op := .add) rfl rfl rfl ?_)))
  intro r30 k30 hr30
  replace hs := hs.drewN k30
  refine La rfl (Rt (jaW (ja2 (ja9 rfl rfl ?_))))
  refine ⟨_, rfl, _, rfl, ?_, hs⟩
  rw [hxw] at hy o1 c1 ⊢
  refine WR.of hqf (fs_lt hr30) ?_
  unfold jk9; rw [o1, o1, hg, hl, if_neg (by decide), if_pos rfl]
  exact (Fs.cn hr30).trans (ja5 c1 rfl)
 refine Wr (Lm rfl ?_)
 refine Cf rfl (fun _ => by rw [binOp_float_cmp_geq]; rfl) ?_
 refine Rt (jcG 24 (v' := .bool true) rfl ((congrArg Value.bool hg)) (Wt rfl (Wq (Lm rfl (jaC rfl (op := .sub) rfl rfl rfl ?_)))))
 intro r26 k26 hr26
 replace hs := hs.drewN k26
 refine La rfl (Rt (jaW (ja2 (ja9 rfl rfl ?_))))
 refine ⟨_, rfl, _, rfl, ?_, hs⟩
 rw [hxw] at hy o1 c1 ⊢
 refine WR.of hqf (fs_lt hr26) ?_
 unfold jk9; rw [o1, hg, if_pos rfl]
 exact (Fs.cn hr26).trans (ja5 c1 rfl)
theorem rfac_ok (n : Nat) (hn : n <= 17) (w0 : World) : Ret Tryz.prog 108 [.int .i64 n] w0 fun v w' => v = .float .f64 (jrB n) /\ HS w0 w' [] := by
 refine Ret.start fun w hs => ?_
 have f1 : jrB 1 = 4607182418800017408 := by decide +kernel
 have f0 : jrB 0 = 4607182418800017408 := rfl
 refine ja7 Tryz.func108 rfl rfl rfl (Wq (La rfl (Rq (La rfl (Rqq (La rfl ?_))))))
 refine Rt (ja4 (jcG 3 (v' := .float .f64 (jrB (0 + 1))) rfl ((by rw [f1])) ?_))
 refine jd8 (fun (j : Nat) (w : World) => [(0, .int .i64 n), (3, .float .f64 (jrB (j + 1))), (4, .int .i64 ((j + 2 : Nat) : Int))]) (fun j w => w) (fun j w => (j = 0 ∨ j + 1 <= n) /\ (HS w0 w [])) (fun j w => n - j) (0) (w) (is := [0, 3, 4]) rfl rfl ?_ ?_
 ·
  exact ⟨.inl rfl, hs⟩
 clear hs
 intro j w hI
 show W _ _ _ _ [(0, .int .i64 n), (3, .float .f64 (jrB (j + 1))), (4, .int .i64 ((j + 2 : Nat) : Int))] w
 obtain ⟨hj, hs⟩ := hI
 by_cases hlt : j + 2 <= n
 ·
  refine Wqq (Lmm rfl rfl (Cleq rfl (jaF (by omega)) ?_))
  refine Rt (Wt rfl (Ws (Wsq (ja4 (Wr (Lmm rfl rfl (jqE rfl u_3 u_22 rfl (jaC rfl (op := .mul) rfl rfl rfl ?_))))))))
  intro r13 k13 hr13
  replace hs := hs.drewN k13
  obtain rfl := fs_val hr13 (fac_ok (j + 1) (by omega))
  refine La rfl (Rnl (jaB (Nt (Wr (Lm rfl (jbG rfl (ja3 (by omega)) ?_))))))
  rw [show ((j + 2 : Nat) : Int) + 1 = ((j + 1 + 2 : Nat) : Int) by omega]
  refine La rfl (Rnl (Nq (j + 1, _) [0, 3, 4] rfl ?_ ?_))
  ·
   dsimp only
   exact ⟨.inr (by omega), hs⟩
  omega
 refine Wqq (Lmm rfl rfl (Cleq rfl (jaA (by omega)) ?_))
 refine Rt (Wf rfl (jaK (ja0 (ja8 (ja1 (Nt (Wq (Lm rfl (La rfl (Rt (jaW (ja9 rfl rfl ?_))))))))))))
 refine ⟨_, rfl, ?_, hs⟩
 rcases Nat.eq_zero_or_pos n with h0 | h0
 ·
  obtain rfl : j = 0 := by omega
  rw [h0, f0, f1]
 obtain rfl : n = j + 1 := by omega
 rfl
def quoE (k i : Nat) : Nat := if k % 2 = 1 then Op.negFloat .f64 (fop .quo 4607182418800017408 (jrB i)) else fop .quo 4607182418800017408 (jrB i)
theorem one_quo : ∀ i, i < 18 -> floatBits .quo .f64 4607182418800017408 (jrB i) = some (fop .quo 4607182418800017408 (jrB i)) := by decide +kernel
theorem rquo_ok (k i : Nat) (hk : k < 9) (hi : i < 18) (w0 : World) : Ret Tryz.prog 107 [.int .i64 k, .float .f64 (jrB i)] w0 fun v w' => v = .float .f64 (quoE k i) /\ HS w0 w' [] := by
 refine Ret.start fun w hs => ?_
 have ht : (k : Int).tmod 2 = ((k % 2 : Nat) : Int) := rfl
 refine ja7 Tryz.func107 rfl rfl rfl (Wq (La rfl (Rq (Lm rfl (jaC rfl (op := .quo) rfl rfl rfl ?_)))))
 intro r7 k7 hr7
 replace hs := hs.drewN k7
 obtain rfl := fs_val hr7 (one_quo i hi)
 by_cases h1 : k % 2 = 1
 ·
  have h2 : (k : Int).tmod 2 = 1 := by rw [ht, h1]; rfl
  refine La rfl (Rqq (Lm rfl (L_rem rfl rfl rfl (by omega) ?_)))
  refine jdS rfl (jaF (by omega)) ?_
  refine Rt (Wt rfl (Wq (Lm rfl (jhC rfl rfl (La rfl (Rt (jaW (ja2 (ja9 rfl rfl ?_)))))))))
  exact ⟨_, rfl, by unfold quoE; rw [if_pos h1], hs⟩
 have h2 : (k : Int).tmod 2 = 0 := by rw [ht, show k % 2 = 0 by omega]; rfl
 refine La rfl (Rqq (Lm rfl (L_rem rfl rfl rfl (by omega) ?_)))
 refine jdS rfl (jaA (by omega)) ?_
 refine Rt (Wf rfl (Ws (Wq (Lm rfl (La rfl (Rt (jaW (ja9 rfl rfl ?_))))))))
 exact ⟨_, rfl, by unfold quoE; rw [if_neg h1], hs⟩
def rowE (which k : Nat) : Nat := quoE k (2 * k + 1 - which)
def rowL (which : Nat) (n : Nat) : List Nat := (List.range n).map (rowE which)
theorem row_sin : ∀ k, k < 9 -> rowE 0 k = (jq2 1).getD k 0 := by decide +kernel
theorem row_cos : ∀ k, k < 9 -> rowE 1 k = (jq2 0).getD k 0 := by decide +kernel
theorem rowL_succ (which n : Nat) : rowL which (n + 1) = rowL which n ++ [rowE which n] := by unfold rowL; rw [List.range_succ, List.map_append]; rfl
theorem rowL_len (which n : Nat) : (rowL which n).length = n := by unfold rowL; simp
theorem rrow_ok (which : Nat) (hwh : which <= 1) (w0 : World) : Ret Tryz.prog 95 [.int .i64 which] w0 fun v w' => ∃ M, HS w0 w' M /\ Bl w0 22 1 v 9 (fl (rowL which 9)) M := by
 refine Ret.start fun w hs => ?_
 refine ja7 Tryz.func95 rfl rfl rfl (Wq (La rfl (Rq (La rfl (Rqq (Lm rfl ?_))))))
 refine jdS rfl (jaA (by omega)) ?_
 refine Rt (Wf rfl (Ws (Wqq (La rfl (Rt (ja4 (jcK (fun (k : Nat) (v : Value) (M : Bks) (w : World) => [(0, .int .i64 which), (3, v), (5, .int .i64 k)]) (fun k v M w => w) (fun k v M w => (k <= 9) /\ (HS w0 w M) /\ (Bl w0 22 1 v k (fl (rowL which k)) M)) (fun k v M w => 9 - k) (0) (.slice none 0 0) ([]) (w) (is := [0, 3, 5]) rfl rfl ?_ ?_)))))))
 ·
  exact ⟨Nat.zero_le _, hs, Bl.nil⟩
 clear hs
 intro k v M w hI
 show W _ _ _ _ [(0, .int .i64 which), (3, v), (5, .int .i64 k)] w
 obtain ⟨hk, hs, hb⟩ := hI
 by_cases hlt : k < 9
 ·
  refine Wqq (Lm rfl (Cleq rfl (jaF (by omega)) ?_))
  refine Rt (Wt rfl (Ws (Wsq (ja4 (Wr (Lmm rfl rfl (Lm rfl (L_mul rfl rfl rfl (ja3 (by omega)) ?_))))))))
  refine jbG rfl (ja3 (by omega)) ?_
  refine Lm rfl (Csub rfl (ja3 (by omega)) ?_)
  rw [show 2 * (k : Int) + 1 - (which : Int) = ((2 * k + 1 - which : Nat) : Int) by omega]
  refine Lc f_108 rfl (rfac_ok (2 * k + 1 - which) (by omega) w) ?_
  rintro _ w1 ⟨rfl, hs'⟩
  have h0 := hs.nil hs'
  clear hs hs'
  have hs := h0
  clear h0
  refine Lc f_107 rfl (rquo_ok k (2 * k + 1 - which) hlt (by omega) w1) ?_
  rintro _ w2 ⟨rfl, hs'⟩
  have h0 := hs.nil hs'
  clear hs hs'
  have hs := h0
  clear h0
  refine jb0 rfl hs u_96 jaS rfl (by decide) rfl rfl ?_
  intro b35 w hb35 hnb35 hs
  simp only [List.map_cons, List.map_nil] at hs
  have hs1 : HS w0 w (([] ++ M) ++ [(b35, Row 22 [.float .f64 (quoE k (2 * k + 1 - which))])]) := hs
  clear hs
  refine jb8 (L := []) (M := M) (news := [.float .f64 (quoE k (2 * k + 1 - which))]) rfl u_96 jaS rfl hs1 hb35 hb rfl rfl rfl (by simp [Value.oneCell']) (by omega) (by omega) ?_
  rintro v36 w M36 hs hb36
  rw [List.nil_append] at hs
  refine La rfl (Rnl (jaB (Nt (Wr (Lm rfl (jbG rfl (ja3 (by omega)) ?_))))))
  refine La rfl (Rnl (Nq (k + 1, v36, M36, _) [0, 3, 5] rfl ?_ ?_))
  ·
   dsimp only
   refine ⟨hlt, hs, ?_⟩
   rw [rowL_succ]
   unfold fl at hb36 ⊢
   rw [List.map_append]
   exact hb36
  omega
 obtain rfl : k = 9 := by omega
 refine Wqq (Lm rfl (Cleq rfl (jaA (by omega)) ?_))
 refine Rt (Wf rfl (jaK (ja0 (ja8 (ja1 (Nt (Wq (Lm rfl (La rfl (Rt (jaW (ja9 rfl rfl ?_))))))))))))
 exact ⟨_, rfl, M, hs, hb⟩
theorem jr6 {S S' : List Nat} {z : Nat} (h : ∀ j, j < 9 -> S.getD j 0 = S'.getD j 0) : ∀ m, jn2 S z m = jn2 S' z m
 | 0 => h 8 (by decide)
 | m + 1 => by unfold jn2; rw [jr6 h m, h (7 - m) (by omega)]
theorem rowL_get (which : Nat) {j : Nat} (h : j < 9) : (rowL which 9).getD j 0 = rowE which j := by
 unfold rowL
 rw [List.getD_eq_getElem?_getD, List.getElem?_map, List.getElem?_range h]; rfl
theorem hor_row0 (z : Nat) : jn2 (rowL 0 9) z 8 = jn2 (jq2 1) z 8 := jr6 (fun j hj => by rw [rowL_get 0 hj]; exact row_sin j hj) 8
theorem hor_row1 (z : Nat) : jn2 (rowL 1 9) z 8 = jn2 (jq2 0) z 8 := jr6 (fun j hj => by rw [rowL_get 1 hj]; exact row_cos j hj) 8
theorem rfold_ok (a : Option Addr) (c : Nat) (S : List Nat) (z : Nat) (w0 : World) (hx : SlC w0 a (fl S)) (hS : S.length = 9) :
  Ret Tryz.prog 94 [.slice a 9 c, .float .f64 z] w0 fun v w' => ∃ r, v = .float .f64 r /\ HS w0 w' [] /\ cn r = cn (jn2 S z 8) := by
 refine Ret.start fun w hs => ?_
 have hld : ∀ {w : World}, HS w0 w [] -> ∀ j, j < 9 -> w.cell? ((aD a).add j) = some (.float .f64 (S.getD j 0)) := fun {w} hs j hj => (hx.old hs Own.nil).get (fl_get (by omega))
 refine ja7 Tryz.func94 rfl rfl rfl (Wq (La rfl (Rq (Lmm rfl rfl (Le u_96 rfl (Csub rfl (ja3 (by omega)) ?_))))))
 refine Li u_96 jaS rfl (j := 8) rfl (by omega) (hx.ao (by rw [fl_length]; omega)) ?_
 refine Ll jb5 rfl (by exact hld hs 8 (by decide)) ?_
 refine La rfl (Rqq (Lm rfl (Le u_96 rfl (Csub rfl (ja3 (by omega)) ?_))))
 refine La rfl (Rt (ja4 (jcT (fun (m : Nat) (r : Nat) (w : World) => [(0, .slice a 9 c), (1, .float .f64 z), (5, .float .f64 r), (6, .int .i64 (7 - (m : Int)))]) (fun m r w => w) (fun m r w => (m <= 8) /\ (cn r = cn (jn2 S z m)) /\ (HS w0 w [])) (fun m r w => 9 - m) (0) (_) (w) (is := [0, 1, 5, 6]) rfl rfl ?_ ?_)))
 ·
  exact ⟨Nat.zero_le _, rfl, hs⟩
 clear hs
 intro m r w hI
 show W _ _ _ _ [(0, .slice a 9 c), (1, .float .f64 z), (5, .float .f64 r), (6, .int .i64 (7 - (m : Int)))] w
 obtain ⟨hm, hr, hs⟩ := hI
 by_cases hlt : m < 8
 ·
  have hn : (7 - (m : Int)) = ((7 - m : Nat) : Int) := by omega
  refine Wqq (Lm rfl (jgM rfl (jaF (by omega)) ?_))
  refine Rt (Wt rfl (Ws (Wsq (ja4 (Wq (Lmm rfl rfl (jaC rfl (op := .mul) rfl rfl rfl ?_)))))))
  intro r23 k23 hr23
  replace hs := hs.drewN k23
  refine La rfl (Rr (Lmm rfl rfl (Lm rfl ?_)))
  refine Li u_96 jaS rfl hn (by omega) (hx.ao (by rw [fl_length]; omega)) ?_
  refine Ll jb5 rfl (by exact hld hs (7 - m) (by omega)) ?_
  refine jaC rfl (op := .add) rfl rfl rfl ?_
  intro r29 k29 hr29
  replace hs := hs.drewN k29
  refine La rfl (Rnl (jaB (Nt (Wr (Lm rfl (Csub rfl (ja3 (by omega)) ?_))))))
  rw [show (7 - (m : Int)) - 1 = 7 - ((m + 1 : Nat) : Int) by omega]
  refine La rfl (Rnl (Nq (m + 1, r29, _) [0, 1, 5, 6] rfl ?_ ?_))
  ·
   dsimp only
   exact ⟨by omega, (Fs.cn hr29).trans ((ja5 ((Fs.cn hr23).trans ((ja5 hr rfl).trans (jaL ..).symm)) rfl).trans (jaL ..).symm), hs⟩
  omega
 obtain rfl : m = 8 := by omega
 refine Wqq (Lm rfl (jgM rfl (jaA (by omega)) ?_))
 refine Rt (Wf rfl (jaK (ja0 (ja8 (ja1 (Nt (Wq (Lm rfl (La rfl (Rt (jaW (ja9 rfl rfl ?_))))))))))))
 exact ⟨_, rfl, _, rfl, hs, hr⟩
def clnF (x : Nat) : Nat := if (FloatKind.f64.format.order x 0 == some .eq) = true then 0 else x
theorem rclean_ok (x : Nat) (w0 : World) : Ret Tryz.prog 96 [.float .f64 x] w0 fun v w' => v = .float .f64 (clnF x) /\ HS w0 w' [] := by
 refine Ret.start fun w hs => ?_
 refine ja7 Tryz.func96 rfl rfl rfl (Wq (La rfl (Rqq (Lm rfl ?_))))
 refine Cf rfl (fun _ => by rw [binOp_float_cmp_eql]; rfl) ?_
 refine Rt ?_
 cases h : (FloatKind.f64.format.order x 0 == some .eq)
 ·
  refine Wf rfl (Ws (Wq (Lm rfl (La rfl (Rt (jaW (ja9 rfl rfl ?_)))))))
  exact ⟨_, rfl, by unfold clnF; rw [h, if_neg (by decide)], hs⟩
 refine Wt rfl (Wq (La rfl (Rt (jaW (ja2 (ja9 rfl rfl ?_))))))
 exact ⟨_, rfl, by unfold clnF; rw [h, if_pos rfl], hs⟩
theorem cln_add {x : Nat} (h : jb1 x = false -> x < 18446744073709551616) : cn (clnF x) = cn (fop .add x 0) := by
 unfold clnF
 cases hn : jb1 x with
 | true =>
  rw [jcM hn, if_neg (by decide)]
  have h1 : cn x = cn qnan := by rw [jeR hn, jeR (by decide +kernel)]
  rw [ja5 (op := .add) h1 (rfl : cn 0 = cn 0), h1]
  decide +kernel
 | false => rw [fop_add0 (h hn) hn]
end Go.Proofs.YtffobakdngbadaaGreat