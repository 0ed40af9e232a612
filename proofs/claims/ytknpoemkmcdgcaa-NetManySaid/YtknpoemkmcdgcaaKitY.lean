/-
 A part of the proof: laws for walks, and plain laws, over any program of the model. Each theorem holds under its own premises alone.
-/
import Derived.Test.YtknpoemkmcdgcaaKit
import Derived.Scope
import Derived.ArgAppend
import Derived.Test.YtknpoemkmcdgcaaKitQ
import Derived.LoopN
import Derived.Lib.SliceRun
import Derived.Maps.RangeRun
import Derived.WideKeyRuns
import Derived.Laws.StructEq
namespace Go.Lk
open Go
/-! ### Scopes -/
section
variable {P : Program} {n : Nat} {Q : Post} {e : Env} {w w0 : World}
theorem W_scope {c : Code} (h : W P n c (Exit.noGoto Q) e w) : W P n (.scope c) Q e w := fun a ha => wp_scope_straight (h a ha)
theorem Ex_scope_ret (h : Ex n Q .ret e w) : Ex n (Exit.noGoto Q) .ret e w := fun a ha => h a ha
end
/-! ### Queues of whole numbers -/
def Qu (w0 : World) (E : TypeId) (v : Value) (xs : List Int) (M : List (Nat × Obj)) : Prop :=
 ∃ g o cap, ∃ pre sp : List Value, v = .slice (some ⟨g, o, none⟩) xs.length cap ∧ M = [(g, Row E (pre ++ il xs ++ sp))] ∧ pre.length = o ∧ w0.heap.size ≤ g ∧ xs.length ≤ cap ∧ cap ≤ xs.length + sp.length
theorem Qu.own {w0 : World} {E : TypeId} {v : Value} {xs : List Int} {M : List (Nat × Obj)} (h : Qu w0 E v xs M) : Own w0 M := by
 obtain ⟨g, o, cap, pre, sp, _, rfl, _, hg, _⟩ := h
 exact Own.cons hg Own.nil
theorem run_append_qu {P : Program} {w0 w : World} {L : List (Nat × Obj)} {T E ty : TypeId} {z : Value} {b : Nat} {v : Value} {xs : List Int} {M : List (Nat × Obj)}
  (hT : P.underlying T = some (.slice E)) (hi : TI P E z 1 b) (hz : z.cells.size = 1) (hs : HS w0 w (L ++ M)) (hq : Qu w0 E v xs M)
  {ad : Addr} {c : Nat} {x : Int} (hnews : CellsAt w ad [.int .i64 x]) (h63 : xs.length + 1 ≤ 9223372036854775807) (hbytes : (xs.length + 1) * b ≤ 140737488355328) :
  ∃ v' w' M', (Builtin.append_ #[T, T] ty #[v, .slice (some ad) 1 c]).run P w = .ok v' w' ∧ HS w0 w' (L ++ M') ∧ Qu w0 E v' (xs ++ [x]) M' := by
 obtain ⟨i, hi1, hi2, hi3, hi4⟩ := hi.ex
 obtain ⟨g, o, cap, pre, sp, rfl, rfl, hp, hg, hlc, hcs⟩ := hq
 subst hi4
 have hL : (L ++ [(g, Row E (pre ++ il xs ++ sp))])[L.length]? = some (g, Row E (pre ++ il xs ++ sp)) := by simp
 by_cases hroom : xs.length + 1 ≤ cap
 ·
  obtain ⟨s0, sp', rfl⟩ : ∃ s0 sp', sp = s0 :: sp' := by
   cases sp with
   | nil => simp at hcs; omega
   | cons s0 sp' => exact ⟨s0, sp', rfl⟩
  have hcell : w.cell? ⟨g, o + xs.length, none⟩ = some s0 := hs.cell hL (by rw [← hp]; simp)
  have hr := run_append_room_cells (P := P) (w := w) T ty E i hT hi1 g o xs.length cap ad 1 c [.int .i64 x] (by simp [hi3]) hnews (by simp [Value.oneCell']) hroom
   (fun j hj => by
    obtain rfl : j = 0 := by simpa using hj
    rw [hi3, Nat.mul_one, Nat.add_zero, hcell]; rfl)
   (fun j hj => frozen_of_row (hs.get hL) _ rfl)
  rw [hi3, Nat.mul_one] at hr
  have hst := hs.store (j := o + xs.length) (v := .int .i64 x) hL
  have e1 : (pre ++ il xs ++ s0 :: sp').set (o + xs.length) (.int .i64 x) = pre ++ il (xs ++ [x]) ++ sp' := by
   rw [← il_snoc, List.set_append_right _ _ (by simp [hp])]
   simp [hp]
  refine ⟨_, _, [(g, Row E (pre ++ il (xs ++ [x]) ++ sp'))], hr, ?_, g, o, cap, pre, sp', ?_, rfl, hp, hg, ?_, ?_⟩
  ·
   have e2 : w.setCells g (o + xs.length) [.int .i64 x] = w.setCell ⟨g, o + xs.length, none⟩ (.int .i64 x) := rfl
   rw [e2]
   rw [e1] at hst
   simpa using hst
  ·
   simp
  ·
   simp; omega
  ·
   simp at hcs ⊢; omega
 ·
  have holds : CellsAt w ⟨g, o, none⟩ (il xs) := fun j u hu => by
   have hj : j < (il xs).length := (List.getElem?_eq_some_iff.1 hu).1
   rw [Addr.add_lit]
   refine hs.cell hL ?_
   rw [List.append_assoc, List.getElem?_append_right (by omega), List.getElem?_append_left (by omega), hp, Nat.add_sub_cancel_left]
   exact hu
  have hr := run_append_grow (P := P) w T ty E i z hT hi1 hi2 ⟨g, o, none⟩ xs.length cap (il xs) (by simp [hi3]) holds ad 1 c [.int .i64 x] (by simp [hi3]) hnews (by omega) (by omega) (growslice_fits (by omega) hbytes)
  have hge := grownCap_ge w (xs.length + 1) cap E
  have e2 : (il xs).toArray ++ [Value.int .i64 x].toArray = (il (xs ++ [x])).toArray := by simp [← il_snoc]
  rw [e2, alloc_list] at hr
  refine ⟨_, _, [(w.heap.size, Row E (il (xs ++ [x]) ++ (Builtin.zeroCells z.cells (grownCap w (xs.length + 1) cap E - (xs.length + 1))).toList))], hr, ?_, w.heap.size, 0, grownCap w (xs.length + 1) cap E, [], _, ?_, rfl, rfl, hs.size, ?_, ?_⟩
  ·
   have h2 := (hs.drewN 1).alloc (Row E (il (xs ++ [x]) ++ (Builtin.zeroCells z.cells (grownCap w (xs.length + 1) cap E - (xs.length + 1))).toList))
   refine h2.sub (fun p hp => ?_) ?_ (fun p hp => ?_)
   ·
    rcases List.mem_append.1 hp with h3 | h3
    ·
     simp [h3]
    ·
     simp at h3; subst h3; simp
   ·
    have := h2.nodup
    rw [List.map_append, List.map_append, List.append_assoc] at this
    rw [List.map_append]
    exact this.sublist (by simp)
   ·
    simp only [List.mem_append, List.mem_singleton] at hp ⊢
    rcases hp with (h3 | h3) | h3
    ·
     exact .inl (.inl h3)
    ·
     right; subst h3; exact hg
    ·
     exact .inl (.inr h3)
  ·
   simp
  ·
   simp; omega
  ·
   simp only [List.length_append, Array.length_toList, size_zeroCells, hz, Nat.mul_one, List.length_cons, List.length_nil]; omega
section
variable {P : Program} {n : Nat} {Q : Post} {e : Env} {w w0 : World} {L : List (Nat × Obj)} {ops : Array Oper} {rest : List Oper} {t : TypeId} {p : String} {af : Array Edge}
theorem L_appendQ {d : Nat} (hd : Nat.blt d n = true) {T E : TypeId} {x y : Operand} {z : Value} {b : Nat} {v : Value} {xs : List Int} {M : List (Nat × Obj)} {bt c : Nat} {u : Int}
  (hT : P.underlying T = some (.slice E)) (hi : TI P E z 1 b) (hz : z.cells.size = 1) (hs : HS w0 w ((L ++ M) ++ [(bt, Row E [.int .i64 u])])) (hbt : w0.heap.size ≤ bt) (hq : Qu w0 E v xs M) (hx : evalE e x = some v)
  (hy : evalE e y = some (.slice (some ⟨bt, 0, none⟩) 1 c)) (h63 : xs.length + 1 ≤ 9223372036854775807) (hbytes : (xs.length + 1) * b ≤ 140737488355328)
  (h : ∀ v' w' M', HS w0 w' (L ++ M') → Qu w0 E v' (xs ++ [u]) M' → RL P n ops rest Q ((d, v') :: e) w') :
  RL P n ops (Oper.mk (some d) (.call { callee := .builtin .append, args := #[x, y], argTypes := #[T, T] }) t p af none :: rest) Q e w := by
 obtain ⟨v', w', M', hr, h2, h3⟩ := run_append_qu (P := P) (ty := t) hT hi hz hs.swap hq (x := u) (fun j y hy => hs.cellA (i := (L ++ M).length) (b := bt) (T := E) (cs := [.int .i64 u]) (by simp) hy) h63 hbytes (c := c)
 exact RL_val hd (fun a ha => by simp [execOp, ha.eval hx, ha.eval hy, resolve, invoke, builtin, hr]) (h v' w' M' (h2.swap.dropR (Own.cons hbt Own.nil)) h3)
end
end Go.Lk

namespace Go.Lk
open Go
theorem results_tmp4 {fn : Func} {t u v q : Tmp} (h : fn.results = #[.tmp t, .tmp u, .tmp v, .tmp q]) (tmps : Array Value) (P : Program) (w : World) :
  (results fn tmps).run P w = .ok (.tuple #[tmps.getD t undef, tmps.getD u undef, tmps.getD v undef, tmps.getD q undef]) w := by
 simp [results, h]
section
variable {P : Program} {n : Nat} {e : Env} {w : World}
theorem Ex_done4 {fn : Func} {R : Ending → World → Prop} {t u s q : Tmp} {v v' v'' v''' : Value} (hr : fn.results = #[.tmp t, .tmp u, .tmp s, .tmp q]) (ht : look e t = some v) (hu : look e u = some v') (hs : look e s = some v'') (hq : look e q = some v''')
  (h : R (.returned (.tuple #[v, v', v'', v'''])) w) : Ex n (bodyPost P fn R) .ret e w :=
 fun a ha => ⟨ha.2.1, _, by rw [results_tmp4 hr, evalTmps ha ht, evalTmps ha hu, evalTmps ha hs, evalTmps ha hq], h⟩
end
end Go.Lk

namespace Go.Lk
open Go
theorem cells_of_one {v : Value} (h : v.oneCell' = true) : v.cells = #[v] := by cases v <;> simp [Value.oneCell'] at h <;> rfl
theorem flat_one {l : List (Nat × Value)} (h : l.all (fun q => q.2.oneCell') = true) : (l.flatMap fun q => q.2.cells.toList) = l.map (·.2) := by
 induction l with
 | nil => rfl
 | cons q l ih =>
  rw [List.all_cons, Bool.and_eq_true] at h
  rw [List.flatMap_cons, List.map_cons, ih h.2, cells_of_one h.1]; rfl
section
variable {P : Program} {n : Nat} {Q : Post} {e : Env} {w w0 : World} {L : List (Nat × Obj)} {ops : Array Oper} {rest : List Oper} {t : TypeId} {p : String} {af : Array Edge}
/-- a slice literal of elements of one cell each -/
theorem L_buildSlice1 {d : Nat} (hd : Nat.blt d n = true) {T E : TypeId} {len : Nat} {xs : List (Nat × Operand)} {l : List (Nat × Value)} {z : Value} {b : Nat} (hs : HS w0 w L) (hT : P.underlying T = some (.slice E)) (hi : TI P E z 1 b)
  (hx : evalPs e xs = some l) (hsz : ¬ (len * 1 > 16777216)) (hidx : l.map (·.1) = List.range' 0 len) (h1 : l.all (fun q => q.2.oneCell') = true)
  (h : ∀ g w', w0.heap.size ≤ g → g ∉ L.map (·.1) → HS w0 w' (L ++ [(g, Row E (l.map (·.2)))]) → RL P n ops rest Q ((d, .slice (some ⟨g, 0, none⟩) len len) :: e) w') :
  RL P n ops (Oper.mk (some d) (.buildSlice T len xs.toArray) t p af none :: rest) Q e w :=
 L_buildSlice hd hs hT hi hx hsz hidx (fun q hq => by rw [cells_of_one (List.all_eq_true.1 h1 q hq)]; rfl) fun g w' a1 a2 a3 => h g w' a1 a2 (by rw [flat_one h1] at a3; exact a3)
end
end Go.Lk

namespace Go.Lk
open Go
/-! ### Who waits for whom, told by masks (a check that does not walk every way) -/
theorem waits_mono {md : Region.Mode} {ops : Array Oper} : ∀ (f g j i : Nat), f ≤ g → waitsB md ops f j i = true → waitsB md ops g j i = true
 | 0, _, _, _, _, h => by cases h
 | f + 1, 0, _, _, hfg, _ => by omega
 | f + 1, g + 1, j, i, hfg, h => by
  unfold waitsB at h ⊢
  cases ho : ops[j]? with
  | none => simp [ho] at h
  | some o =>
   simp only [ho] at h ⊢
   obtain ⟨e, he, hb⟩ := Array.any_eq_true'.1 h
   simp only [Bool.and_eq_true, Bool.or_eq_true, beq_iff_eq] at hb
   refine Array.any_eq_true'.2 ⟨e, he, ?_⟩
   simp only [Bool.and_eq_true, Bool.or_eq_true, beq_iff_eq]
   exact ⟨hb.1, hb.2.imp id (fun h2 => waits_mono f g _ _ (by omega) h2)⟩
def maskOf (md : Region.Mode) (n : Nat) (t : List Nat) (es : List Edge) : Nat := es.foldl (fun m e => if Region.binds md e && Nat.blt e.on n then m ||| ((1 <<< e.on) ||| t.getD e.on 0) else m) 0
def masks (md : Region.Mode) (ops : Array Oper) : Nat → List Nat
 | 0 => []
 | n + 1 => masks md ops n ++ [match ops[n]? with | none => 0 | some o => maskOf md n (masks md ops n) o.after.toList]
theorem masks_len {md : Region.Mode} {ops : Array Oper} : ∀ n, (masks md ops n).length = n
 | 0 => rfl
 | n + 1 => by rw [masks, List.length_append, masks_len n]; rfl
theorem maskOf_mem {md : Region.Mode} {n : Nat} {t : List Nat} {i : Nat} : ∀ (es : List Edge) (m : Nat), (es.foldl (fun m e => if Region.binds md e && Nat.blt e.on n then m ||| ((1 <<< e.on) ||| t.getD e.on 0) else m) m).testBit i = true → m.testBit i = true ∨ ∃ e ∈ es, Region.binds md e = true ∧ e.on < n ∧ (e.on = i ∨ (t.getD e.on 0).testBit i = true)
 | [], m, h => .inl h
 | e :: es, m, h => by
  rw [List.foldl_cons] at h
  rcases maskOf_mem es _ h with h1 | ⟨e', he', h1⟩
  ·
   by_cases hc : (Region.binds md e && Nat.blt e.on n) = true
   ·
    rw [if_pos hc] at h1
    rw [Bool.and_eq_true] at hc
    rw [Nat.testBit_or, Nat.testBit_or, Bool.or_eq_true, Bool.or_eq_true] at h1
    rcases h1 with h1 | h1 | h1
    ·
     exact .inl h1
    ·
     refine .inr ⟨e, by simp, hc.1, by simpa using hc.2, .inl ?_⟩
     rw [Nat.shiftLeft_eq, Nat.one_mul, Nat.testBit_two_pow] at h1
     exact of_decide_eq_true h1
    ·
     exact .inr ⟨e, by simp, hc.1, by simpa using hc.2, .inr h1⟩
   ·
    rw [if_neg hc] at h1
    exact .inl h1
  ·
   exact .inr ⟨e', by simp [he'], h1⟩
theorem masks_sound {md : Region.Mode} {ops : Array Oper} : ∀ (n j i : Nat), j < n → ((masks md ops n).getD j 0).testBit i = true → waitsB md ops (j + 1) j i = true
 | 0, _, _, h, _ => absurd h (Nat.not_lt_zero _)
 | n + 1, j, i, hj, h => by
  rw [masks] at h
  by_cases hjn : j < n
  ·
   have e : (masks md ops n ++ [match ops[n]? with | none => 0 | some o => maskOf md n (masks md ops n) o.after.toList]).getD j 0 = (masks md ops n).getD j 0 := by
    simp only [List.getD]
    rw [List.getElem?_append_left (by rw [masks_len]; exact hjn)]
   rw [e] at h
   exact masks_sound n j i hjn h
  ·
   obtain rfl : j = n := by omega
   have e : (masks md ops j ++ [match ops[j]? with | none => 0 | some o => maskOf md j (masks md ops j) o.after.toList]).getD j 0 = (match ops[j]? with | none => 0 | some o => maskOf md j (masks md ops j) o.after.toList) := by
    simp only [List.getD]
    rw [List.getElem?_append_right (by rw [masks_len]; exact Nat.le_refl _), masks_len, Nat.sub_self]
    rfl
   rw [e] at h
   unfold waitsB
   cases ho : ops[j]? with
   | none => rw [ho] at h; simp at h
   | some o =>
    rw [ho] at h
    simp only
    rcases maskOf_mem o.after.toList 0 h with h1 | ⟨e, he, hb, hon, h1⟩
    ·
     simp at h1
    ·
     refine Array.any_eq_true'.2 ⟨e, by simpa using he, ?_⟩
     simp only [Bool.and_eq_true, Bool.or_eq_true, beq_iff_eq]
     refine ⟨hb, ?_⟩
     rcases h1 with h1 | h1
     ·
      exact .inl h1
     ·
      exact .inr (waits_mono (e.on + 1) j _ _ (by omega) (masks_sound j e.on i hon h1))
/-- The waits of a certificate, by masks. -/
def chkWaitsF (md : Region.Mode) (ops : Array Oper) (hd tl : List Nat) : Bool :=
 let t := masks md ops ops.size
 match tl with
 | [] => true
 | u :: r => Nat.blt u ops.size && hd.all (fun i => (t.getD u 0).testBit i) && go t u r
where go (t : List Nat) : Nat → List Nat → Bool
 | _, [] => true
 | u, v :: r => Nat.blt v ops.size && (t.getD v 0).testBit u && go t v r
theorem chain_of {md : Region.Mode} {ops : Array Oper} : ∀ (u : Nat) (r : List Nat), chkWaitsF.go ops (masks md ops ops.size) u r = true → chkWaits.chain md ops u r = true
 | _, [], _ => rfl
 | u, v :: r, h => by
  simp only [chkWaitsF.go, Bool.and_eq_true] at h
  simp only [chkWaits.chain, Bool.and_eq_true]
  have hv : v < ops.size := by simpa using h.1.1
  exact ⟨waits_mono _ _ _ _ (by omega) (masks_sound _ v u hv h.1.2), chain_of v r h.2⟩
theorem waits_of {md : Region.Mode} {ops : Array Oper} {hd tl : List Nat} (h : chkWaitsF md ops hd tl = true) : chkWaits md ops hd tl = true := by
 cases tl with
 | nil => rfl
 | cons u r =>
  simp only [chkWaitsF, Bool.and_eq_true, List.all_eq_true] at h
  simp only [chkWaits, Bool.and_eq_true, List.all_eq_true]
  have hu : u < ops.size := by simpa using h.1.1
  exact ⟨fun i hi => waits_mono _ _ _ _ (by omega) (masks_sound _ u i hu (h.1.2 i hi)), chain_of u r h.2⟩
def chkAllF (ops : Array Oper) (ps hd tl : List Nat) : Bool :=
 let l0 := Array.replicate ops.size false
 Region.noSelect ops && chkSeq .any ops ps l0 && ps.all (fun i => ((opAt ops i).dst).isSome) && closedB .any ops (setAll l0 ps) && tl.all (fun t => !(setAll l0 ps).getD t true) && chkWaitsF .any ops hd tl &&
 (List.range ops.size).all (fun i => ps.contains i || hd.contains i || tl.contains i) && ps.all (fun i => (setAll l0 ps).getD i true) && hd.all (fun i => !tl.contains i) && chkSeq .any ops hd (setAll l0 ps) &&
 tl.all (fun i => (ops[i]?).isSome) && chkTail .any ops tl (setAll (setAll l0 ps) hd) && decide (ps.length + hd.length + tl.length = ops.size)
theorem chkAll_of {ops : Array Oper} {ps hd tl : List Nat} (h : chkAllF ops ps hd tl = true) : chkAll ops ps hd tl = true := by
 simp only [chkAllF, Bool.and_eq_true] at h
 simp only [chkAll, Bool.and_eq_true]
 obtain ⟨⟨⟨⟨⟨⟨⟨⟨⟨⟨⟨⟨h1, h2⟩, h3⟩, h4⟩, h5⟩, h6⟩, h7⟩, h8⟩, h9⟩, h10⟩, h11⟩, h12⟩, h13⟩ := h
 exact ⟨⟨⟨⟨⟨⟨⟨⟨⟨⟨⟨⟨h1, h2⟩, h3⟩, h4⟩, h5⟩, waits_of h6⟩, h7⟩, h8⟩, h9⟩, h10⟩, h11⟩, h12⟩, h13⟩
end Go.Lk

namespace Go.Lk
open Go
/-! ### A region under way: each of the operations that may come next -/
theorem wpOp_of_list {P : Program} {ops : Array Oper} {j : Nat} {Q : Post} {K : Act → World → Prop} {a : Act} {w : World} (hi : (ops[j]?).isSome = true) (h : wpList P ops (QF K) [opAt ops j] a w) : wpOp P ops Q j K a w := by
 obtain ⟨oi, hoi⟩ := Option.isSome_iff_exists.1 hi
 have ho : opAt ops j = oi := by simp [opAt, hoi]
 rw [ho] at h
 simp only [wpList] at h
 unfold wpOp
 simp only [hoi]
 have hno : ¬ LetsOut (QF K) := fun ⟨_, _, h5⟩ => by cases h5.1
 by_cases hy : Region.wanted oi (yielded ops a.tmps) = true
 ·
  rw [if_pos hy] at h ⊢
  rcases h with h | ⟨_, h⟩
  ·
   left
   have h2 : oi.wp P a w K (QF K) := Oper.wp_mono (fun a' w' h3 => h3.2) h
   unfold Oper.wp at h2 ⊢
   generalize (execOp a.eval oi).run P w = r at h2 ⊢
   cases r with
   | halt x w' => cases x <;> first | exact h2 | (exact absurd h2.1 (by simp)) | (cases h2)
   | ok nx w' =>
    cases nx with
    | enter f args =>
     refine Calls.mono h2 fun e w'' he => ?_
     cases e with
     | returned v => exact he
     | panicked c => cases he.1
     | outgrown => exact absurd he hno
    | _ => exact h2
  ·
   exact absurd h hno
 ·
  rw [if_neg hy] at h ⊢
  exact h.2
section
variable {P : Program} {n : Nat} {Q : Post} {e E : Env} {w : World} {ops : Array Oper} {g : Nat} {listed : Array Bool}
theorem SG_env (h : SG P n ops Q g listed e w) (hl : ∀ d v, look e d = some v → look E d = some v) : SG P n ops Q g listed E w := fun a ha => h a ⟨ha.1, ha.2.1, fun i v hv => ha.2.2 i v (hl i v hv)⟩
theorem SG_pick (is : List Nat) (hr : Region.ready .any ops listed = is) (hne : is ≠ []) (his : is.all (fun i => (ops[i]?).isSome) = true) (h : ∀ i ∈ is, RL P n ops ([i].map (opAt ops)) (QF fun a w => wpAny P .any ops Q g (listed.setIfInBounds i true) a w) e w) : SG P n ops Q (g + 1) listed e w := fun a ha =>
 ⟨fun h0 => absurd (hr ▸ h0) hne, fun j hj => by
  rw [hr] at hj
  exact wpOp_of_list (List.all_eq_true.1 his j hj) (h j hj a ha)⟩
theorem SG_pick1 {i : Nat} {l1 : Array Bool} (hr : Region.ready .any ops listed = [i]) (his : [i].all (fun i => (ops[i]?).isSome) = true) (e1 : listed.setIfInBounds i true = l1)
  (h : RL P n ops ([i].map (opAt ops)) (QF fun a w => wpAny P .any ops Q g l1 a w) e w) : SG P n ops Q (g + 1) listed e w :=
 SG_pick [i] hr (by simp) his fun k hk => by
  simp only [List.mem_cons, List.not_mem_nil, or_false] at hk
  subst hk; rw [e1]; exact h
theorem SG_pick2 {i j : Nat} {l1 l2 : Array Bool} (hr : Region.ready .any ops listed = [i, j]) (his : [i, j].all (fun i => (ops[i]?).isSome) = true) (e1 : listed.setIfInBounds i true = l1) (e2 : listed.setIfInBounds j true = l2)
  (h : RL P n ops ([i].map (opAt ops)) (QF fun a w => wpAny P .any ops Q g l1 a w) e w) (h2 : RL P n ops ([j].map (opAt ops)) (QF fun a w => wpAny P .any ops Q g l2 a w) e w) : SG P n ops Q (g + 1) listed e w :=
 SG_pick [i, j] hr (by simp) his fun k hk => by
  simp only [List.mem_cons, List.not_mem_nil, or_false] at hk
  rcases hk with hk | hk
  ·
   subst hk; rw [e1]; exact h
  ·
   subst hk; rw [e2]; exact h2
end
end Go.Lk
namespace Go.Lk
open Go
theorem SG_join {P : Program} {n : Nat} {Q : Post} {e : Env} {w : World} {ops : Array Oper} {g g' : Nat} {listed l' : Array Bool} (X : (Env → World → Prop) → Prop) (h : X (SG P n ops Q g' l') → SG P n ops Q g listed e w) (hend : X (SG P n ops Q g' l')) : SG P n ops Q g listed e w := h hend
end Go.Lk

namespace Go.Lk
open Go
/-! ### Whole numbers as floats: divided by 1; and what stands behind 'cn' -/
theorem fop_some {op : BinOp} {x y r : Nat} (h : floatBits op .f64 x y = some r) : fop op x y = r := by simp [fop, h]
theorem cellsAt_row {w : World} {b T j : Nat} {xs : List Value} (cs : List Value) (h : w.heap[b]? = some (Row T xs)) (hx : ∀ q v, cs[q]? = some v → xs[j + q]? = some v) : CellsAt w ((Addr.mk b 0 none).add j) cs := fun q v hv => by
 rw [add_add, add_lit0]
 exact Lk.cell_of_row h (hx q v hv)
theorem R_idxA1 {P : Program} {n : Nat} {e : Env} {w : World} {t : TypeId} {p : String} {af : Array Edge} {d : Nat} {T E : TypeId} {x y : Operand} {ad : Addr} {len j : Nat} {k : IntKind} {i : Int} {z : Value} {b : Nat} (hT : P.underlying T = some (.array len E)) (hi : TI P E z 1 b)
  (hx : evalE e x = some (.pointer (some ad))) (hy : evalE e y = some (.int k i)) (hj : i = (j : Int)) (hb : j < len) :
  ∀ act, Kn n act e → (execOp act.eval (Oper.mk (some d) (.indexAddr T x y) t p af none)).run P w = .ok (.value (.pointer (some (ad.add j)))) w := by
 have := R_idxA (n := n) (w := w) (t := t) (p := p) (af := af) (d := d) hT hi hx hy hj hb
 rw [Nat.mul_one] at this
 exact this
theorem L_idxA1 {P : Program} {n : Nat} {Q : Post} {e : Env} {w : World} {ops : Array Oper} {rest : List Oper} {t : TypeId} {p : String} {af : Array Edge} {d : Nat} (hd : Nat.blt d n = true) {T E : TypeId} {x y : Operand} {ad : Addr} {len j : Nat} {k : IntKind} {i : Int} {z : Value} {b : Nat} (hT : P.underlying T = some (.array len E)) (hi : TI P E z 1 b)
  (hx : evalE e x = some (.pointer (some ad))) (hy : evalE e y = some (.int k i)) (hj : i = (j : Int)) (hb : j < len)
  (h : RL P n ops rest Q ((d, .pointer (some (ad.add j))) :: e) w) : RL P n ops (Oper.mk (some d) (.indexAddr T x y) t p af none :: rest) Q e w :=
 RL_val hd (R_idxA1 hT hi hx hy hj hb) h
theorem cellsAt_whole {w : World} {b T : Nat} {cs : List Value} (h : w.heap[b]? = some (Row T cs)) : CellsAt w ⟨b, 0, none⟩ cs := fun q v hv => by
 rw [add_lit0]
 exact Lk.cell_of_row h hv
theorem Ex_doneC {P : Program} {n : Nat} {e : Env} {w : World} {fn : Func} {R : Ending → World → Prop} {p : Tmp} {ty : TypeId} {ad : Addr} {cs : List Value} {z : Value} {b : Nat} (hr : fn.results = #[.cell p ty]) (hp : look e p = some (.pointer (some ad))) (hT : Agg P ty) (hi : TI P ty z cs.length b) (hc : CellsAt w ad cs) (h : R (.returned (.agg cs.toArray)) w) : Ex n (bodyPost P fn R) .ret e w :=
 fun a ha => ⟨ha.2.1, _, by
  have hl := run_loadCells_list (P := P) w ad cs hc
  have h1 := evalTmps ha hp
  have h2 : a.tmps[p]?.getD undef = .pointer (some ad) := by simpa using h1
  simp [results, hr, h2, asAddr, loadVar, hT.run, hi.sizeOf, hl], h⟩
theorem R_ibits {P : Program} {n : Nat} {e : Env} {w : World} {t : TypeId} {p : String} {af : Array Edge} {d : Nat} {op : BinOp} {T T' : TypeId} {x y : Operand} {k : IntKind} {i j c : Int} (ho : op = .and ∨ op = .or ∨ op = .andNot ∨ op = .xor) (hx : evalE e x = some (.int k i)) (hy : evalE e y = some (.int k j)) (hc : bits op k i j = c) :
  ∀ act, Kn n act e → (execOp act.eval (Oper.mk (some d) (.binOp op T x y T') t p af none)).run P w = .ok (.value (.int k c)) w := by
 subst hc
 rcases ho with rfl | rfl | rfl | rfl
 ·
  exact R_bin hx hy (fun _ _ => rfl) (by rw [binOp_and]; rfl)
 ·
  exact R_bin hx hy (fun _ _ => rfl) (by rw [binOp_or]; rfl)
 ·
  exact R_bin hx hy (fun _ _ => rfl) (by rw [binOp_andNot]; rfl)
 ·
  exact R_bin hx hy (fun _ _ => rfl) (by rw [binOp_xor]; rfl)
theorem R_extern {P : Program} {n : Nat} {e : Env} {w : World} {t : TypeId} {p : String} {af : Array Edge} {d : Nat} {f : FuncId} {E : Array Value → Sem Value} {x : Operand} {vx v : Value} {ats : Array TypeId} (hf : Ext P f E) (hx : evalE e x = some vx) (hr : ∀ w, (E #[vx]).run P w = .ok v w) :
  ∀ act, Kn n act e → (execOp act.eval (Oper.mk (some d) (.call { callee := .value (.func f), args := #[x], argTypes := ats }) t p af none)).run P w = .ok (.value v) w := fun a ha => by
 have he : (execOp a.eval (Oper.mk (some d) (.call { callee := .value (.func f), args := #[x], argTypes := ats }) t p af none)).run P w = ((E #[a.eval x]).run P w).andThen fun v w' => .ok (.value v) w' := by
  simp [execOp, resolve, Act.eval, Deferred.ofValue, invoke, hf.run]
 rw [he, ha.eval hx, hr]
 rfl
theorem fs_val {op : BinOp} {x y r z : Nat} (h : Fs op x y r) (hz : floatBits op .f64 x y = some z) : r = z := by
 rcases h with h | ⟨h, _⟩
 ·
  rw [hz] at h; exact (Option.some.inj h).symm
 ·
  rw [hz] at h; cases h
theorem run_trunc {P : Program} {name : String} {way : Ieee.Toward} {x : Nat} (hx : isnan x = false) (w : World) : (Extern.MathFloor.toIntegral name way #[.float .f64 x]).run P w = .ok (.float .f64 (FloatKind.f64.encode ((FloatKind.f64.decode x).integral way))) w := by
 have h : (FloatKind.f64.decode x).isNaN = false := hx
 change Sem.run P (Extern.MathFloor.toIntegral.match_1 (motive := fun _ => Sem Value) (FloatKind.f64.decode x) _ _) w = _
 cases hd : FloatKind.f64.decode x with
 | nan s t => rw [hd] at h; cases h
 | infinity s => rfl
 | number s m i => rfl
theorem run_sqrt {P : Program} {x r : Nat} (hx : FloatKind.f64.format.sqrt x = some r) (w : World) : (Extern.MathSqrt.sqrt #[.float .f64 x]).run P w = .ok (.float .f64 r) w := by
 change Sem.run P (Extern.MathSqrt.sqrt.match_1 (motive := fun _ => Sem Value) (FloatKind.f64.format.sqrt x) _ _) w = _
 rw [hx]
 rfl
theorem perm_by {α : Type} {l m : List α} (h : ∀ c : α → Nat, (l.map c).sum = (m.map c).sum) : l.Perm m := by
 haveI : DecidableEq α := fun a b => Classical.propDecidable (a = b)
 refine List.perm_iff_count.2 fun a => ?_
 have e : ∀ l : List α, l.count a = (l.map fun x => if x = a then 1 else 0).sum := fun l => by
  induction l with
  | nil => rfl
  | cons x l ih => rw [List.count_cons, ih, List.map_cons, List.sum_cons, Nat.add_comm]; simp
 rw [e, e]
 exact h _
end Go.Lk

namespace Go.Lk
open Go
/-! ### Function values -/
theorem L_callV {P : Program} {n : Nat} {Q : Post} {e : Env} {w : World} {ops : Array Oper} {rest : List Oper} {t : TypeId} {p : String} {af : Array Edge} {d : Nat} (hd : Nat.blt d n = true) {f : FuncId} {x : Operand} {first cap : List Value} {xs : List Operand} {l : List Value} {ats : Array TypeId} {R : Value → World → Prop} (hf : Fun P f) (hv : evalE e x = some (.func (.func f) first.toArray cap.toArray)) (hx : evalEs e xs = some l) (hc : Ret P f (first ++ l ++ cap) w R)
  (h : ∀ v w', R v w' → RL P n ops rest Q ((d, v) :: e) w') :
  RL P n ops (Oper.mk (some d) (.call { callee := .value x, args := xs.toArray, argTypes := ats }) t p af none :: rest) Q e w := by
 intro a ha
 refine wpList_plain rfl fun K hK => ?_
 have he : (execOp a.eval (Oper.mk (some d) (.call { callee := .value x, args := xs.toArray, argTypes := ats }) t p af none)).run P w = .ok (.enter f (first ++ l ++ cap).toArray) w := by
  have e1 := evalEs_spec ha hx
  simp [execOp, resolve, Deferred.ofValue, invoke, ha.eval hv, hf.run]
  rw [← e1]
 simp only [Oper.wp, he, Oper.upon]
 refine Calls.mono hc fun ex w' hR => ?_
 obtain ⟨v, rfl, hv⟩ := hR
 exact hK _ _ (h v w' hv _ (ha.put hd v))
end Go.Lk

namespace Go.Lk
open Go
/-! ### A loop whose rounds are gone one by one -/
section
variable {P : Program} {n : Nat} {Q : Post} {e : Env} {w : World} {c : Code}
end
/-! ### A head that makes new memory, in any order -/
abbrev Bks := List (Nat × Obj)
/-- the block that is new -/
def NB (w w' : World) : Bks := if w'.heap.size = w.heap.size + 1 then (match w'.heap[w.heap.size]? with | some o => [(w.heap.size, o)] | none => []) else []
theorem NB_same {w w' : World} (h : w'.heap = w.heap) : NB w w' = [] := by
 unfold NB; rw [h, if_neg (by omega)]
theorem NB_alloc {w : World} {o : Obj} : NB w (w.alloc o) = [(w.heap.size, o)] := by
 have h : (w.alloc o).heap = w.heap.push o := rfl
 unfold NB; rw [h, if_pos (by simp)]; simp
section
variable {P : Program} {ops : Array Oper} {md : Region.Mode} {w0 : World} {L : Bks} {S : FuncId → Array Value → Value → Bks → Prop}
def FineB (P : Program) (w0 : World) (L : Bks) (S : FuncId → Array Value → Value → Bks → Prop) (R : Bks) (w : World) : Result Next → Prop
 | .ok (.value _) w' => HS w0 w' ((L ++ R) ++ NB w w') ∧ Own w0 (NB w w')
 | .ok .skip w' => HS w0 w' (L ++ R)
 | .ok (.enter f args) w' => Calls P f args w' (fun e w'' => ∃ v m, e = .returned v ∧ S f args v m ∧ HS w0 w'' ((L ++ R) ++ m) ∧ Own w0 m)
 | _ => False
def MayB (S : FuncId → Array Value → Value → Bks → Prop) (w : World) : Result Next → Value → Bks → Prop
 | .ok (.value u) w', v, m => u = v ∧ m = NB w w'
 | .ok .skip _, v, m => v = undef ∧ m = []
 | .ok (.enter f args) _, v, m => S f args v m
 | _, _, _ => False
def FineAtB (P : Program) (ops : Array Oper) (w0 : World) (L : Bks) (S : FuncId → Array Value → Value → Bks → Prop) (o : Oper) (a : Act) : Prop :=
 Region.wanted o (yielded ops a.tmps) = true → ∀ R w, Own w0 R → HS w0 w (L ++ R) → FineB P w0 L S R w ((execOp a.eval o).run P w)
def MayAtB (P : Program) (ops : Array Oper) (w0 : World) (L : Bks) (S : FuncId → Array Value → Value → Bks → Prop) (o : Oper) (a : Act) (v : Value) (m : Bks) : Prop :=
 (Region.wanted o (yielded ops a.tmps) = true ∧ ∃ R w, Own w0 R ∧ HS w0 w (L ++ R) ∧ MayB S w ((execOp a.eval o).run P w) v m) ∨ (Region.wanted o (yielded ops a.tmps) = false ∧ v = undef ∧ m = [])
def hOpB (P : Program) (ops : Array Oper) (w0 : World) (L : Bks) (S : FuncId → Array Value → Value → Bks → Prop) (i : Nat) (K : Act → Bks → Prop) (a : Act) (M : Bks) : Prop :=
 ∀ o, ops[i]? = some o → FineAtB P ops w0 L S o a ∧ ∀ v m, MayAtB P ops w0 L S o a v m → Own w0 m → K (a.put o.dst v) (M ++ m)
theorem fineAtB_same {o : Oper} {a a' : Act} (he : execOp a'.eval o = execOp a.eval o) (hw : Region.wanted o (yielded ops a'.tmps) = Region.wanted o (yielded ops a.tmps)) :
  FineAtB P ops w0 L S o a' = FineAtB P ops w0 L S o a ∧ MayAtB P ops w0 L S o a' = MayAtB P ops w0 L S o a := by
 unfold FineAtB MayAtB
 rw [he, hw]
 exact ⟨rfl, rfl⟩
theorem mayB_some {o : Oper} {a : Act} {w : World} {R : Bks} (hR : Own w0 R) (hw : HS w0 w (L ++ R)) (h : FineAtB P ops w0 L S o a) : ∃ v m, MayAtB P ops w0 L S o a v m ∧ Own w0 m := by
 by_cases hy : Region.wanted o (yielded ops a.tmps) = true
 ·
  have hf := h hy R w hR hw
  cases hr : (execOp a.eval o).run P w with
  | halt x w' => rw [hr] at hf; cases hf
  | ok nx w' =>
   rw [hr] at hf
   cases nx with
   | value u => exact ⟨u, NB w w', .inl ⟨hy, R, w, hR, hw, by rw [hr]; exact ⟨rfl, rfl⟩⟩, hf.2⟩
   | skip => exact ⟨undef, [], .inl ⟨hy, R, w, hR, hw, by rw [hr]; exact ⟨rfl, rfl⟩⟩, Own.nil⟩
   | enter f args =>
    obtain ⟨e, w'', fr, ⟨v, m, _, hS, _, ho⟩, _⟩ := hf []
    exact ⟨v, m, .inl ⟨hy, R, w, hR, hw, by rw [hr]; exact hS⟩, ho⟩
   | _ => cases hf
 ·
  exact ⟨undef, [], .inr ⟨by simpa using hy, rfl, rfl⟩, Own.nil⟩
theorem wpOp_of_hOpB {i : Nat} {a : Act} {w : World} {M : Bks} {K : Act → Bks → Prop} {K' : Act → World → Prop} {Q : Exit → Act → World → Prop} (hi : ops[i]? ≠ none) (hM : Own w0 M) (hw : HS w0 w (L ++ M))
  (hk : ∀ a' w' M', Own w0 M' → HS w0 w' (L ++ M') → K a' M' → K' a' w') (h : hOpB P ops w0 L S i K a M) : wpOp P ops Q i K' a w := by
 unfold wpOp
 cases ho : ops[i]? with
 | none => exact absurd ho hi
 | some o =>
  obtain ⟨h1, h2⟩ := h o ho
  simp only
  by_cases hy : Region.wanted o (yielded ops a.tmps) = true
  ·
   rw [if_pos hy]
   left
   have hf := h1 hy M w hM hw
   have hv : ∀ v m, MayB S w ((execOp a.eval o).run P w) v m → Own w0 m → K (a.put o.dst v) (M ++ m) := fun v m hv hm => h2 v m (.inl ⟨hy, M, w, hM, hw, hv⟩) hm
   unfold Oper.wp
   cases hr : (execOp a.eval o).run P w with
   | halt x w' => rw [hr] at hf; cases hf
   | ok nx w' =>
    rw [hr] at hf hv
    cases nx with
    | value u => exact hk _ _ _ (hM.app hf.2) (by rw [← List.append_assoc]; exact hf.1) (hv u _ ⟨rfl, rfl⟩ hf.2)
    | skip => exact hk _ _ _ (hM.app Own.nil) (by rw [List.append_nil]; exact hf) (hv undef [] ⟨rfl, rfl⟩ Own.nil)
    | enter f args =>
     refine Calls.mono hf fun e w'' he => ?_
     obtain ⟨v, m, rfl, hS, hC, hm⟩ := he
     exact hk _ _ _ (hM.app hm) (by rw [← List.append_assoc]; exact hC) (hv v m hS hm)
    | _ => cases hf
  ·
   rw [if_neg hy]
   exact hk _ _ _ (hM.app Own.nil) (by rw [List.append_nil]; exact hw) (h2 undef [] (.inr ⟨by simpa using hy, rfl, rfl⟩) Own.nil)
def AnyB (P : Program) (md : Region.Mode) (ops : Array Oper) (w0 : World) (L : Bks) (S : FuncId → Array Value → Value → Bks → Prop) (F : Array Bool → Act → Bks → Prop) : Nat → Array Bool → Act → Bks → Prop
 | 0, listed, a, M => F listed a M
 | f + 1, listed, a, M => Region.ready md ops listed ≠ [] ∧ ∀ i ∈ Region.ready md ops listed, hOpB P ops w0 L S i (AnyB P md ops w0 L S F f (listed.setIfInBounds i true)) a M
theorem AnyB_perm {F : Array Bool → Act → Bks → Prop} (hF : ∀ listed a M M', List.Perm M M' → F listed a M → F listed a M') : ∀ (f : Nat) (listed : Array Bool) (a : Act) (M M' : Bks), List.Perm M M' → AnyB P md ops w0 L S F f listed a M → AnyB P md ops w0 L S F f listed a M'
 | 0, _, _, _, _, hp, h => hF _ _ _ _ hp h
 | f + 1, _, _, _, _, hp, h => ⟨h.1, fun i hi o ho => ⟨(h.2 i hi o ho).1, fun v m hv hm => AnyB_perm hF f _ _ _ _ (hp.append_right m) ((h.2 i hi o ho).2 v m hv hm)⟩⟩
theorem wpAny_of_AnyB {F : Array Bool → Act → Bks → Prop} {Q : Exit → Act → World → Prop} {g : Nat} (hF : ∀ listed a w M, Own w0 M → HS w0 w (L ++ M) → F listed a M → wpAny P md ops Q g listed a w) :
  ∀ (f : Nat) (listed : Array Bool) (a : Act) (w : World) (M : Bks), Own w0 M → HS w0 w (L ++ M) → AnyB P md ops w0 L S F f listed a M → wpAny P md ops Q (f + g) listed a w := by
 intro f
 induction f with
 | zero => intro listed a w M hM hw h; rw [Nat.zero_add]; exact hF _ _ _ _ hM hw h
 | succ f ih =>
  intro listed a w M hM hw h
  rw [show f + 1 + g = (f + g) + 1 by omega]
  exact ⟨fun h0 => absurd h0 h.1, fun i hi => wpOp_of_hOpB (ready_some hi) hM hw (fun a' w' M' hM' hC hK => ih _ a' w' M' hM' hC hK) (h.2 i hi)⟩
theorem AnyB_first {F : Array Bool → Act → Bks → Prop} (hF : ∀ listed a M M', List.Perm M M' → F listed a M → F listed a M') {i : Nat} {oi : Oper} {w : World} {R : Bks} {Inv : Array Bool → Prop} {Hd : Nat → Prop} (hR : Own w0 R) (hw : HS w0 w (L ++ R)) (hi : ops[i]? = some oi) (hin : Hd i)
  (hsel : ∀ (j : Nat) (o : Oper) cs b, ops[j]? = some o → o.op ≠ .select cs b)
  (hhead : ∀ listed, Inv listed → ∀ k ∈ Region.ready md ops listed, Hd k → ∀ j ∈ Region.ready md ops listed, Hd j) (hset : ∀ listed k, Inv listed → k ∈ Region.ready md ops listed → Hd k → Inv (listed.setIfInBounds k true))
  (hdone : ∀ listed a M, F listed a M → ∀ j ∈ Region.ready md ops listed, ¬ Hd j) :
  ∀ (f : Nat) (listed : Array Bool) (a : Act) (M : Bks), Inv listed → i ∈ Region.ready md ops listed →
   (∀ j oj, ops[j]? = some oj → j ≠ i → listed.getD j true = false → (∀ e ∈ oj.after, Region.binds md e = true → e.on ≠ i) → oi.apart ops oj = true) →
   hOpB P ops w0 L S i (AnyB P md ops w0 L S F f (listed.setIfInBounds i true)) a M → AnyB P md ops w0 L S F (f + 1) listed a M := by
 intro f
 induction f with
 | zero =>
  intro listed a M inv hr _ H
  refine ⟨fun h => (by rw [h] at hr; cases hr), fun j hj => ?_⟩
  by_cases hji : j = i
  ·
   subst hji; exact H
  ·
   obtain ⟨h1, h2⟩ := H oi hi
   obtain ⟨v, m, hv, hm⟩ := mayB_some hR hw h1
   have h3 := hdone _ _ _ (h2 v m hv hm) j (ready_mono hj hji)
   exact absurd (hhead _ inv i hr hin j hj) h3
 | succ f ih =>
  intro listed a M inv hr hfree H
  refine ⟨fun h => (by rw [h] at hr; cases hr), fun j hj => ?_⟩
  by_cases hji : j = i
  ·
   subst hji; exact H
  ·
   obtain ⟨h1, h2⟩ := H oi hi
   have hjn := hhead _ inv i hr hin j hj
   intro oj hoj
   obtain ⟨hjun, oj', hoj', hall⟩ := mem_ready.1 hj
   have : oj' = oj := Option.some.inj (hoj'.symm.trans hoj)
   subst this
   have hun := (mem_ready.1 hr).1
   have hunf : listed.getD i false = false := getD_both hun
   have hnot : ∀ e ∈ oj'.after, Region.binds md e = true → e.on ≠ i := fun e he hb heq => by
    have h5 := hall e he hb
    rw [heq, hunf] at h5
    cases h5
   have hap := hfree j oj' hoj hji hjun hnot
   obtain ⟨ap1, ap2, ap3⟩ := Oper.apart_spec hap
   -- each is to the other as it was
   have sj : ∀ v, FineAtB P ops w0 L S oj' (a.put oi.dst v) = FineAtB P ops w0 L S oj' a ∧ MayAtB P ops w0 L S oj' (a.put oi.dst v) = MayAtB P ops w0 L S oj' a := fun v =>
    fineAtB_same (execOp_put oj' (fun cs b => hsel j oj' cs b hoj) a oi.dst v ap1) (wanted_put oj' a oi.dst v ap1)
   have si : ∀ u, FineAtB P ops w0 L S oi (a.put oj'.dst u) = FineAtB P ops w0 L S oi a ∧ MayAtB P ops w0 L S oi (a.put oj'.dst u) = MayAtB P ops w0 L S oi a := fun u =>
    fineAtB_same (execOp_put oi (fun cs b => hsel i oi cs b hi) a oj'.dst u ap3) (wanted_put oi a oj'.dst u ap3)
   have step : ∀ v m, MayAtB P ops w0 L S oi a v m → Own w0 m → hOpB P ops w0 L S j (AnyB P md ops w0 L S F f ((listed.setIfInBounds i true).setIfInBounds j true)) (a.put oi.dst v) (M ++ m) := fun v m hv hm => (h2 v m hv hm).2 j (ready_mono hj hji)
   obtain ⟨v0, m0, hv0, hm0⟩ := mayB_some hR hw h1
   refine ⟨by have := (step v0 m0 hv0 hm0 oj' hoj).1; rwa [(sj v0).1] at this, fun u mu hu hmu => ?_⟩
   refine ih _ _ _ (hset _ _ inv hj hjn) (ready_mono hr (Ne.symm hji)) ?_ ?_
   ·
    intro k ok hk hki hkun hno
    refine hfree k ok hk hki ?_ hno
    by_cases hjk : j = k
    ·
     subst hjk; exact hjun
    ·
     rw [getD_set_ne true hjk] at hkun; exact hkun
   ·
    intro oi' hoi'
    have : oi' = oi := Option.some.inj (hoi'.symm.trans hi)
    subst this
    rw [(si u).1, (si u).2]
    refine ⟨h1, fun v m hv hm => ?_⟩
    have h6 := (step v m hv hm oj' hoj).2 u mu (by rw [(sj v).2]; exact hu) hmu
    rw [Array.setIfInBounds_comm _ _ hji, Act.put_comm a v u ap2] at *
    refine AnyB_perm hF f _ _ _ _ ?_ h6
    rw [List.append_assoc, List.append_assoc]
    exact List.Perm.append_left M List.perm_append_comm
/-- The head, walked in a given order. -/
def wpB (P : Program) (ops : Array Oper) (w0 : World) (L : Bks) (S : FuncId → Array Value → Value → Bks → Prop) (K : Act → Bks → Prop) : List Oper → Act → Bks → Prop
 | [], a, M => K a M
 | o :: rest, a, M => FineAtB P ops w0 L S o a ∧ ∀ v m, MayAtB P ops w0 L S o a v m → Own w0 m → wpB P ops w0 L S K rest (a.put o.dst v) (M ++ m)
theorem AnyB_of_list {F : Array Bool → Act → Bks → Prop} (hF : ∀ listed a M M', List.Perm M M' → F listed a M → F listed a M') {K : Act → Bks → Prop} {ps hd tl : List Nat} {w : World} {R : Bks} (hR : Own w0 R) (hw : HS w0 w (L ++ R)) (hsel : Region.noSelect ops = true)
  (hnr : ∀ listed, HdInv md ops ps tl listed → ∀ i ∈ hd, listed.getD i true = false → ∀ t ∈ tl, t ∉ Region.ready md ops listed)
  (hhd : ∀ listed, HdInv md ops ps tl listed → ∀ j ∈ Region.ready md ops listed, j ∈ tl ∨ j ∈ hd) (hdis : ∀ i ∈ hd, i ∉ tl)
  (hdone : ∀ listed a M, F listed a M → ∀ j ∈ Region.ready md ops listed, j ∈ tl) :
  ∀ (hs : List Nat) (listed : Array Bool) (a : Act) (M : Bks), (∀ i ∈ hs, i ∈ hd) → HdInv md ops ps tl listed → chkSeq md ops hs listed = true → wpB P ops w0 L S K (hs.map (opAt ops)) a M → (∀ a' M', K a' M' → F (setAll listed hs) a' M') →
   AnyB P md ops w0 L S F hs.length listed a M
 | [], _, a, M, _, _, _, h, hk => hk a M h
 | i :: hs, listed, a, M, hin, inv, hc, h, hk => by
  simp only [chkSeq, Bool.and_eq_true] at hc
  obtain ⟨⟨⟨h0, h1⟩, h2⟩, h3⟩ := hc
  obtain ⟨oi, hoi⟩ := Option.isSome_iff_exists.1 h0
  have ho : opAt ops i = oi := by simp [opAt, hoi]
  have hr : i ∈ Region.ready md ops listed := by simpa using h1
  have hih : i ∈ hd := hin i (by simp)
  obtain ⟨hf, hv⟩ := h
  rw [show opAt ops i = oi from ho] at hf hv
  refine AnyB_first hF (Inv := HdInv md ops ps tl) (Hd := fun j => j ∈ hd) hR hw hoi hih (Region.noSelect_spec hsel) (fun l inv' k hk hkh j hj => ?_) (fun l k inv' hk hkh => inv'.set hk (hdis k hkh)) (fun l a' M' hL j hj hjh => hdis j hjh (hdone l a' M' hL j hj)) hs.length listed a M inv hr (Region.free_spec hoi h2) ?_
  ·
   rcases hhd l inv' j hj with h5 | h5
   ·
    exact absurd hj (hnr l inv' k hkh (mem_ready.1 hk).1 j h5)
   ·
    exact h5
  ·
   intro o' ho'
   have : o' = oi := Option.some.inj (ho'.symm.trans hoi)
   subst this
   exact ⟨hf, fun v m hvv hm => AnyB_of_list hF hR hw hsel hnr hhd hdis hdone hs _ _ _ (fun j hj => hin j (by simp [hj])) (inv.set hr (hdis i hih)) h3 (hv v m hvv hm) hk⟩
end
/-! ### The head over what is known of the slots -/
def HB (P : Program) (n : Nat) (ops : Array Oper) (w0 : World) (L : Bks) (S : FuncId → Array Value → Value → Bks → Prop) (K : Act → Bks → Prop) (rest : List Oper) (M : Bks) (e : Env) : Prop := ∀ a, Kn n a e → wpB P ops w0 L S K rest a M
section
variable {P : Program} {n : Nat} {Q : Post} {e : Env} {w w0 : World} {L M : Bks} {ops : Array Oper} {rest : List Oper} {t : TypeId} {p : String} {af : Array Edge} {S : FuncId → Array Value → Value → Bks → Prop} {K : Act → Bks → Prop} {g : Nat} {listed : Array Bool}
theorem SG_stageB (ps hd tl : List Nat) (S : FuncId → Array Value → Value → Bks → Prop) {g' : Nat} (hg : Nat.beq g (ps.length + (hd.length + (tl.length + g'))) = true) (hB : chkStage ops listed ps hd tl = true) (hQ : ∀ c a w (d : Nat) v, Q (.panic c) (a.put (some d) v) w → Q (.panic c) a w) (hs : HS w0 w L)
  (h : PL P n ops (fun a => wpB P ops w0 L S (fun a' M => ∀ w', HS w0 w' (L ++ M) → wpList P ops (QF fun a'' w'' => wpAny P .any ops Q g' (setAll (setAll (setAll listed ps) hd) tl) a'' w'') (tl.map (opAt ops)) a' w') (hd.map (opAt ops)) a []) (ps.map (opAt ops)) e) : SG P n ops Q g listed e w := by
 intro a ha
 have hg' := Nat.eq_of_beq_eq_true hg
 subst hg'
 simp only [chkStage, Bool.and_eq_true] at hB
 obtain ⟨⟨⟨⟨⟨⟨⟨⟨⟨⟨⟨⟨hsel, hps⟩, hdst⟩, hcl⟩, htu⟩, hwt⟩, hpl⟩, hdis⟩, hhs⟩, hl0⟩, htl⟩, hct⟩, hhb⟩ := hB
 obtain ⟨tl', htl'⟩ : ∃ tl', tl' = tl ++ othersB ops listed ps hd tl := ⟨_, rfl⟩
 rw [← htl'] at htu hwt hdis
 have hs0 : HS w0 w (L ++ []) := by rw [List.append_nil]; exact hs
 refine wpAny_pures hsel hQ ps _ a hps (fun i hi => List.all_eq_true.1 hdst i hi) (h a ha) fun a1 h1 => ?_
 obtain ⟨prev, hprev⟩ : ∃ prev, prev = (List.range ops.size).filter fun i => listed.getD i false := ⟨_, rfl⟩
 have inv : HdInv .any ops (ps ++ prev) tl' (setAll listed ps) := ⟨fun i hi => by
  rcases List.mem_append.1 hi with hi | hi
  ·
   exact List.all_eq_true.1 hpl i hi
  ·
   rw [hprev] at hi
   obtain ⟨h5, h6⟩ := List.mem_filter.1 hi
   have := List.all_eq_true.1 hl0 i h5
   rw [h6] at this
   simpa using this, closed_of hcl, fun t ht => by simpa using List.all_eq_true.1 htu t ht⟩
 by_cases hemp : hd = []
 ·
  subst hemp
  rw [List.length_nil, Nat.zero_add]
  exact wpAny_tailS tl _ a1 w (fun i hi => List.all_eq_true.1 htl i hi) hct (h1 w hs0)
 have hwt' : chkW .any ops hd tl' = true := by
  simp only [Bool.or_eq_true, List.isEmpty_iff, hemp, false_or] at hwt
  exact hwt
 have hdis' : ∀ i ∈ hd, i ∉ tl' := fun i hi hm => by
  have := List.all_eq_true.1 hdis i hi
  simp [hm] at this
 have hnr : ∀ l', HdInv .any ops (ps ++ prev) tl' l' → ∀ i ∈ hd, l'.getD i true = false → ∀ t ∈ tl', t ∉ Region.ready .any ops l' := by
  intro l' inv' i hi hun t ht hr
  obtain ⟨_, o, ho, hall⟩ := mem_ready.1 hr
  have hp : ∀ o', ops[t]? = some o' → ∀ e ∈ o'.after, Region.binds .any e = true → l'.getD e.on false = true := fun o' ho' => by
   have : o' = o := Option.some.inj (ho'.symm.trans ho)
   subst this; exact hall
  cases htt : tl' with
  | nil => rw [htt] at ht; cases ht
  | cons t1 r =>
   rw [htt] at hwt' ht
   simp only [chkW, Bool.and_eq_true] at hwt'
   rcases List.mem_cons.1 ht with rfl | ht'
   ·
    have h5 := waits_listed inv'.closed _ _ _ (List.all_eq_true.1 hwt'.1 i hi) hp
    rw [getD_both hun] at h5; cases h5
   ·
    have h5 := waits_listed inv'.closed _ _ _ (List.all_eq_true.1 hwt'.2 t ht') hp
    rw [getD_both (inv'.tail t1 (by rw [htt]; simp))] at h5; cases h5
 have hdt : ∀ l', HdInv .any ops (ps ++ prev) tl' l' → ∀ j ∈ Region.ready .any ops l', j ∈ tl' ∨ j ∈ hd := fun l' hp j hj => by
  obtain ⟨hun, o, ho, _⟩ := mem_ready.1 hj
  have hjs := (Array.getElem?_eq_some_iff.1 ho).1
  by_cases h5 : j ∈ ps ++ prev
  ·
   rw [hp.pure j h5] at hun; cases hun
  ·
   by_cases h7 : j ∈ hd
   ·
    exact .inr h7
   ·
    left
    rw [htl', List.mem_append]
    by_cases h8 : j ∈ tl
    ·
     exact .inl h8
    ·
     right
     unfold othersB
     rw [List.mem_filter]
     refine ⟨List.mem_range.2 hjs, ?_⟩
     rw [List.mem_append, not_or, hprev, List.mem_filter, not_and] at h5
     have h9 := h5.2 (List.mem_range.2 hjs)
     simp [h5.1, h7, h8, h9]
 have hready : ∀ j ∈ Region.ready .any ops (setAll (setAll listed ps) hd), j ∈ tl' ∨ j ∈ hd := by
  intro j hj
  obtain ⟨hun, o, ho, _⟩ := mem_ready.1 hj
  have hjs := (Array.getElem?_eq_some_iff.1 ho).1
  by_cases h7 : j ∈ hd
  ·
   exact .inr h7
  ·
   left
   rw [htl', List.mem_append]
   by_cases h8 : j ∈ tl
   ·
    exact .inl h8
   ·
    right
    unfold othersB
    rw [List.mem_filter]
    refine ⟨List.mem_range.2 hjs, ?_⟩
    have h5 : j ∉ ps ++ prev := fun h5 => by
     have := getD_setAll (l := hd) (inv.pure j h5)
     rw [this] at hun; cases hun
    rw [List.mem_append, not_or, hprev, List.mem_filter, not_and] at h5
    have h9 := h5.2 (List.mem_range.2 hjs)
    simp [h5.1, h7, h8, h9]
 have H := AnyB_of_list (P := P) (S := S) (md := .any) (F := fun listed' a' M => listed' = setAll (setAll listed ps) hd ∧ (∀ w', HS w0 w' (L ++ M) → wpList P ops (QF fun a'' w'' => wpAny P .any ops Q g' (setAll (setAll (setAll listed ps) hd) tl) a'' w'') (tl.map (opAt ops)) a' w'))
  (fun l' a' M M' hp hL => ⟨hL.1, fun w' hw' => hL.2 w' (hw'.mem_perm (List.Perm.append_left L hp.symm))⟩) (hd := hd) (tl := tl') (R := []) Own.nil hs0 hsel hnr hdt hdis'
  (fun l' a' M hL j hj => by
   rw [hL.1] at hj
   rcases hready j hj with h5 | h5
   ·
    exact h5
   ·
    exfalso
    have := (mem_ready.1 hj).1
    rw [getD_setAll_mem (l := hd) (listed := setAll listed ps) h5 ] at this
    cases this)
  hd _ a1 [] (fun i hi => hi) inv hhs h1 (fun a2 M2 h2 => ⟨rfl, h2⟩)
 exact wpAny_of_AnyB (Q := Q) (g := tl.length + g') (fun l' a' w' M hM hw' hL => by
  rw [hL.1]
  exact wpAny_tailS tl _ a' w' (fun i hi => List.all_eq_true.1 htl i hi) hct (hL.2 w' hw')) _ _ _ _ [] Own.nil hs0 H
theorem PL_endB {hd : List Oper} (h : HB P n ops w0 L S K hd [] e) : PL P n ops (fun a => wpB P ops w0 L S K hd a []) [] e := fun a ha => h a ha
theorem HB_tail {l : List Oper} (h : ∀ w', HS w0 w' (L ++ M) → RL P n ops l Q e w') : HB P n ops w0 L S (fun a' M => ∀ w', HS w0 w' (L ++ M) → wpList P ops Q l a' w') [] M e := fun a ha w' hw' => h w' hw' a ha
/-- what it yields, in whatever world -/
theorem HB_set {d : Nat} {op : Op} (φ : Value → Prop) (hd : Nat.blt d n = true) (hr : ∀ w R, Own w0 R → HS w0 w (L ++ R) → ∀ a, Kn n a e → ∃ v w', (execOp a.eval (Oper.mk (some d) op t p af none)).run P w = .ok (.value v) w' ∧ w'.heap = w.heap ∧ HS w0 w' (L ++ R) ∧ φ v)
  (h : ∀ v, φ v → HB P n ops w0 L S K rest M ((d, v) :: e)) : HB P n ops w0 L S K (Oper.mk (some d) op t p af none :: rest) M e := by
 intro a ha
 refine ⟨fun _ R w hR hw => ?_, fun v m hv hm => ?_⟩
 ·
  obtain ⟨v, w', h1, h2, h3, _⟩ := hr w R hR hw a ha
  rw [h1]
  show HS w0 w' ((L ++ R) ++ NB w w') ∧ Own w0 (NB w w')
  rw [NB_same h2, List.append_nil]
  exact ⟨h3, Own.nil⟩
 ·
  rcases hv with ⟨_, R, w, hR, hw, hm⟩ | ⟨hx, _⟩
  ·
   obtain ⟨u, w', h1, h2, _, h3⟩ := hr w R hR hw a ha
   rw [h1] at hm
   obtain ⟨rfl, rfl⟩ : u = v ∧ m = NB w w' := hm
   rw [NB_same h2, List.append_nil]
   exact h u h3 _ (ha.put hd u)
  ·
   simp [Region.wanted] at hx
theorem HB_val {d : Nat} {op : Op} {v : Value} (hd : Nat.blt d n = true) (hr : ∀ w R, Own w0 R → HS w0 w (L ++ R) → ∀ a, Kn n a e → (execOp a.eval (Oper.mk (some d) op t p af none)).run P w = .ok (.value v) w)
  (h : HB P n ops w0 L S K rest M ((d, v) :: e)) : HB P n ops w0 L S K (Oper.mk (some d) op t p af none :: rest) M e :=
 HB_set (φ := fun u => u = v) hd (fun w R hR hw a ha => ⟨v, w, hr w R hR hw a ha, rfl, hw, rfl⟩) (fun _ hu => by subst hu; exact h)
/-- a new block -/
theorem HB_new {d : Nat} {op : Op} {V : Nat → Value} {o : Obj} (hd : Nat.blt d n = true) (hr : ∀ w a, Kn n a e → (execOp a.eval (Oper.mk (some d) op t p af none)).run P w = .ok (.value (V w.heap.size)) (w.alloc o))
  (h : ∀ b, w0.heap.size ≤ b → HB P n ops w0 L S K rest (M ++ [(b, o)]) ((d, V b) :: e)) : HB P n ops w0 L S K (Oper.mk (some d) op t p af none :: rest) M e := by
 intro a ha
 refine ⟨fun _ R w hR hw => ?_, fun v m hv hm => ?_⟩
 ·
  rw [hr w a ha]
  show HS w0 (w.alloc o) ((L ++ R) ++ NB w (w.alloc o)) ∧ Own w0 (NB w (w.alloc o))
  rw [NB_alloc]
  exact ⟨hw.alloc o, Own.cons hw.size Own.nil⟩
 ·
  rcases hv with ⟨_, R, w, hR, hw, hm⟩ | ⟨hx, _⟩
  ·
   rw [hr w a ha] at hm
   obtain ⟨rfl, rfl⟩ : V w.heap.size = v ∧ m = NB w (w.alloc o) := hm
   rw [NB_alloc]
   exact h _ hw.size _ (ha.put hd _)
  ·
   simp [Region.wanted] at hx
theorem HB_farith {d : Nat} {op : BinOp} {T T' : TypeId} {x y : Operand} {i j : Nat} (hd : Nat.blt d n = true) (hop : isArith op = true) (hx : evalE e x = some (.float .f64 i)) (hy : evalE e y = some (.float .f64 j))
  (h : ∀ r, (floatBits op .f64 i j = some r ∨ (floatBits op .f64 i j = none ∧ isnan r = true)) → HB P n ops w0 L S K rest M ((d, .float .f64 r) :: e)) :
  HB P n ops w0 L S K (Oper.mk (some d) (.binOp op T x y T') t p af none :: rest) M e := by
 refine HB_set (φ := fun u => ∃ r, u = .float .f64 r ∧ (floatBits op .f64 i j = some r ∨ (floatBits op .f64 i j = none ∧ isnan r = true))) hd (fun w R hR hw a ha => ?_) (fun u hu => ?_)
 ·
  obtain ⟨r, k, hr, hs⟩ := run_farith P w op i j hop
  have hb : binOp op T (.float .f64 i) (.float .f64 j) = Op.floatArith op .f64 i j := by cases op <;> simp [isArith] at hop <;> simp [binOp]
  exact ⟨.float .f64 r, w.drewN k, by simp [execOp, ha.eval hx, ha.eval hy, eqGuard_at_float, hb, hr], rfl, hw.drewN k, r, rfl, hs⟩
 ·
  obtain ⟨r, rfl, hs⟩ := hu
  exact h r hs
/-- a call that names new blocks -/
theorem HB_call {d : Nat} (hd : Nat.blt d n = true) {f : FuncId} {xs : List Operand} {l : List Value} {ats : Array TypeId} (hf : Fun P f) (hx : evalEs e xs = some l)
  (hc : ∀ w R, Own w0 R → HS w0 w (L ++ R) → Ret P f l w (fun v w' => ∃ m, S f l.toArray v m ∧ HS w0 w' ((L ++ R) ++ m) ∧ Own w0 m))
  (h : ∀ v m, S f l.toArray v m → Own w0 m → HB P n ops w0 L S K rest (M ++ m) ((d, v) :: e)) : HB P n ops w0 L S K (Oper.mk (some d) (.call { callee := .value (.func f), args := xs.toArray, argTypes := ats }) t p af none :: rest) M e := by
 intro a ha
 have he : ∀ w, (execOp a.eval (Oper.mk (some d) (.call { callee := .value (.func f), args := xs.toArray, argTypes := ats }) t p af none)).run P w = .ok (.enter f l.toArray) w := fun w => by
  simp [execOp, resolve, Act.eval, Deferred.ofValue, invoke, hf.run]
  rw [← evalEs_spec ha hx]
 refine ⟨fun _ R w hR hw => ?_, fun v m hv hm => ?_⟩
 ·
  rw [he w]
  refine Calls.mono (hc w R hR hw) fun ex w' hx => ?_
  obtain ⟨v, rfl, m, h1, h2, h3⟩ := hx
  exact ⟨v, m, rfl, h1, h2, h3⟩
 ·
  rcases hv with ⟨_, R, w, hR, hw, hm'⟩ | ⟨hx, _⟩
  ·
   rw [he w] at hm'
   exact h v m hm' hm _ (ha.put hd v)
  ·
   simp [Region.wanted] at hx
/-- .. one that names none -/
def noBk (S0 : FuncId → Array Value → Value → Prop) : FuncId → Array Value → Value → Bks → Prop := fun f a v m => S0 f a v ∧ m = []
theorem HB_callH {S0 : FuncId → Array Value → Value → Prop} {d : Nat} (hd : Nat.blt d n = true) {f : FuncId} {xs : List Operand} {l : List Value} {ats : Array TypeId} (hf : Fun P f) (hx : evalEs e xs = some l)
  (hc : ∀ w R, Own w0 R → HS w0 w (L ++ R) → Ret P f l w (fun v w' => S0 f l.toArray v ∧ HS w0 w' (L ++ R)))
  (h : ∀ v, S0 f l.toArray v → HB P n ops w0 L (noBk S0) K rest M ((d, v) :: e)) : HB P n ops w0 L (noBk S0) K (Oper.mk (some d) (.call { callee := .value (.func f), args := xs.toArray, argTypes := ats }) t p af none :: rest) M e :=
 HB_call hd hf hx (fun w R hR hw => Calls.mono (hc w R hR hw) fun ex w' hx => by
  obtain ⟨v, rfl, h1, h2⟩ := hx
  exact ⟨v, rfl, [], ⟨h1, rfl⟩, by rw [List.append_nil]; exact h2, Own.nil⟩) (fun v m hv _ => by
  obtain ⟨h1, rfl⟩ := hv
  rw [List.append_nil]; exact h v h1)
theorem run_buildSlice {d sz : Nat} {T E : TypeId} {len : Nat} {xs : List (Nat × Operand)} {l : List (Nat × Value)} {z : Value} {b : Nat} (hT : P.underlying T = some (.slice E)) (hi : TI P E z sz b)
  (hx : evalPs e xs = some l) (hsz : ¬ (len * sz > 16777216)) (hidx : l.map (·.1) = List.range' 0 len) (hc : ∀ q ∈ l, q.2.cells.size = sz) : ∀ a, Kn n a e → (execOp a.eval (Oper.mk (some d) (.buildSlice T len xs.toArray) t p af none)).run P w = .ok (.value (.slice (some ⟨w.heap.size, 0, none⟩) len len)) (w.alloc (Row E (l.flatMap fun q => q.2.cells.toList))) := by
 intro a ha
 have hl := evalPs_spec ha hx
 have hlen : l.length = len := by have := congrArg List.length hidx; simpa using this
 have hf : ∀ (A : Array Value), A.size = len * sz → Instr.fill (fun i => some (i * sz, sz)) A l = some (l.flatMap fun q => q.2.cells.toList).toArray := fun A hA => by
  have := fill_all sz l 0 [] A.toList (by rw [hlen]; exact hidx) hc (by simp) (by rw [hlen]; simpa using hA)
  simpa using this
 by_cases h0 : len * sz = 0
 ·
  have hf' := hf (Array.map (fun _ => (default : Value)) (Array.range 0)) (by simp [h0])
  simp [execOp, Instr.buildSlice, run_underlying hT, hi.sizeOf, h0, newRow]
  simp [hl, hf']
 ·
  have hf' := hf (Array.map (fun x => z.cells[x % z.cells.size]!) (Array.range (len * sz))) (by simp)
  simp [execOp, Instr.buildSlice, run_underlying hT, hi.sizeOf, h0, newRow, hsz, hi.zero]
  simp [hl, hf']
theorem HB_buildSlice1 {d : Nat} (hd : Nat.blt d n = true) {T E : TypeId} {len : Nat} {xs : List (Nat × Operand)} {l : List (Nat × Value)} {z : Value} {b : Nat} (hT : P.underlying T = some (.slice E)) (hi : TI P E z 1 b)
  (hx : evalPs e xs = some l) (hsz : ¬ (len * 1 > 16777216)) (hidx : l.map (·.1) = List.range' 0 len) (h1 : l.all (fun q => q.2.oneCell') = true)
  (h : ∀ g, w0.heap.size ≤ g → HB P n ops w0 L S K rest (M ++ [(g, Row E (l.map (·.2)))]) ((d, .slice (some ⟨g, 0, none⟩) len len) :: e)) :
  HB P n ops w0 L S K (Oper.mk (some d) (.buildSlice T len xs.toArray) t p af none :: rest) M e :=
 HB_new (V := fun g => .slice (some ⟨g, 0, none⟩) len len) hd (fun _ a ha => run_buildSlice hT hi hx hsz hidx (fun q hq => by rw [cells_of_one (List.all_eq_true.1 h1 q hq)]; rfl) a ha) (fun g hg => by rw [flat_one h1]; exact h g hg)
theorem HB_buildSlice {d : Nat} (hd : Nat.blt d n = true) {T E : TypeId} {len sz : Nat} {xs : List (Nat × Operand)} {l : List (Nat × Value)} {z : Value} {b : Nat} (hT : P.underlying T = some (.slice E)) (hi : TI P E z sz b)
  (hx : evalPs e xs = some l) (hsz : ¬ (len * sz > 16777216)) (hidx : l.map (·.1) = List.range' 0 len) (hc : ∀ q ∈ l, q.2.cells.size = sz)
  (h : ∀ g, w0.heap.size ≤ g → HB P n ops w0 L S K rest (M ++ [(g, Row E (l.flatMap fun q => q.2.cells.toList))]) ((d, .slice (some ⟨g, 0, none⟩) len len) :: e)) :
  HB P n ops w0 L S K (Oper.mk (some d) (.buildSlice T len xs.toArray) t p af none :: rest) M e :=
 HB_new (V := fun g => .slice (some ⟨g, 0, none⟩) len len) hd (fun _ a ha => run_buildSlice hT hi hx hsz hidx hc a ha) h
theorem HB_box {d : Nat} (hd : Nat.blt d n = true) {T : TypeId} {x : Operand} {v : Value} (hx : evalE e x = some v)
  (h : ∀ b, w0.heap.size ≤ b → HB P n ops w0 L S K rest (M ++ [(b, .cells v.cells T)]) ((d, .pointer (some ⟨b, 0, none⟩)) :: e)) :
  HB P n ops w0 L S K (Oper.mk (some d) (.box T x) t p af none :: rest) M e :=
 HB_new (V := fun b => .pointer (some ⟨b, 0, none⟩)) hd (fun _ a ha => by simp [execOp, ha.eval hx, Instr.box, newVar, newRow]) h
theorem HB_alloc {d : Nat} (hd : Nat.blt d n = true) {T : TypeId} {z : Value} {sz b : Nat} (hi : TI P T z sz b)
  (h : ∀ b, w0.heap.size ≤ b → HB P n ops w0 L S K rest (M ++ [(b, .cells z.cells T)]) ((d, .pointer (some ⟨b, 0, none⟩)) :: e)) :
  HB P n ops w0 L S K (Oper.mk (some d) (.alloc T) t p af none :: rest) M e :=
 HB_new (V := fun b => .pointer (some ⟨b, 0, none⟩)) hd (fun _ a ha => by simp [execOp, Instr.alloc, hi.zero, newVar, newRow]) h
end
end Go.Lk

namespace Go.Lk
open Go
/-! ### Struct literals with parts of several cells -/
theorem fold_put (off : Nat) : ∀ (vs : List Value) (j : Nat) (cs : List Value), off + j + vs.length ≤ cs.length →
  (vs.zipIdx j).foldl (fun (A : Array Value) (x : Value × Nat) => match x with | (c, j) => A.setIfInBounds (off + j) c) cs.toArray = (cs.take (off + j) ++ vs ++ cs.drop (off + j + vs.length)).toArray
 | [], j, cs, h => by simp
 | v :: vs, j, cs, h => by
  have hl : off + (j + 1) + vs.length ≤ (cs.set (off + j) v).length := by simp at h ⊢; omega
  have ih := fold_put off vs (j + 1) (cs.set (off + j) v) hl
  simp only [List.zipIdx_cons, List.foldl_cons]
  rw [List.setIfInBounds_toArray, ih]
  congr 1
  have e1 : (cs.set (off + j) v).take (off + (j + 1)) = cs.take (off + j) ++ [v] := by
   simp at h
   rw [List.take_set, show off + (j + 1) = off + j + 1 by omega, List.take_add_one, List.getElem?_eq_getElem (by omega)]
   rw [List.set_append_right _ _ (by simp; omega)]
   simp only [List.length_take]
   rw [Nat.min_eq_left (by omega), Nat.sub_self]; rfl
  have e2 : (cs.set (off + j) v).drop (off + (j + 1) + vs.length) = cs.drop (off + j + (v :: vs).length) := by
   rw [List.drop_set_of_lt (by omega)]; congr 1; simp; omega
  rw [e1, e2]
  simp
def putN (pl : List (Nat × Nat)) : List Value → List (Nat × Value) → Option (List Value)
 | cs, [] => some cs
 | cs, (i, v) :: l => match pl[i]? with
  | some (off, sz) => match Nat.beq v.cells.toList.length sz, Nat.ble (off + sz) cs.length with
   | true, true => putN pl (cs.take off ++ v.cells.toList ++ cs.drop (off + sz)) l
   | _, _ => none
  | none => none
theorem fill_putN (pl : List (Nat × Nat)) : ∀ (l : List (Nat × Value)) (cs r : List Value), putN pl cs l = some r → Instr.fill (pl.toArray[·]?) cs.toArray l = some r.toArray
 | [], cs, r, h => by simp [putN] at h; subst h; simp [Instr.fill]
 | (i, v) :: l, cs, r, h => by
  simp only [putN] at h
  cases hp : pl[i]? with
  | none => rw [hp] at h; cases h
  | some q =>
   obtain ⟨off, sz⟩ := q
   rw [hp] at h
   dsimp only at h
   split at h
   case h_2 => cases h
   case h_1 h2 h3 =>
    have h2' : v.cells.toList.length = sz := Nat.eq_of_beq_eq_true h2
    have h3' : off + sz ≤ cs.length := Nat.le_of_ble_eq_true h3
    subst h2'
    have ih := fill_putN pl l _ r h
    have h5 : pl.toArray[i]? = some (off, v.cells.toList.length) := by simpa using hp
    have h6 := fold_put off v.cells.toList 0 cs (by omega)
    simp only [Instr.fill, h5]
    rw [if_neg (by simp at h3' ⊢; omega)]
    rw [← ih]
    congr 1
    rw [← Array.foldl_toList, Array.toList_zipIdx]
    simpa using h6
theorem Pl.builtN {P : Program} {T : TypeId} {z : List Value} {pl : List (Nat × Nat)} (h : Pl P T z pl) {l : List (Nat × Value)} {r : List Value} (hr : putN pl z l = some r) : P.built T l = some r.toArray := by
 obtain ⟨i, fs, h1, h2, h3, h4⟩ := h.ex
 unfold Program.built
 rw [h1, h3]
 dsimp only
 rw [h2, h4]
 exact fill_putN pl l z r hr
theorem R_sliceNil {P : Program} {n : Nat} {e : Env} {w : World} {t : TypeId} {p : String} {af : Array Edge} {d : Nat} {T E T' : TypeId} {x y : Operand} {ao : Option Addr} {l c l' c' : Nat} (hT : P.underlying T = some (.slice E)) (hx : evalE e x = some (.slice ao l c)) (hy : evalE e y = some (.slice none l' c')) :
  ∀ act, Kn n act e → (execOp act.eval (Oper.mk (some d) (.binOp .eql T x y T') t p af none)).run P w = .ok (.value (.bool ao.isNone)) w :=
 R_bin hx hy (fun _ _ => eqGuard_at_slice ..) (Lib.run_eql_slice_nil w T E ao l c l' c' hT)
theorem R_ftoi {P : Program} {n : Nat} {e : Env} {w : World} {t : TypeId} {p : String} {af : Array Edge} {d : Nat} {S D : TypeId} {x : Operand} {k : IntKind} {q : FloatKind} {b : Nat} {m : Int} {s : TypeDesc} (hS : P.underlying S = some s) (hD : P.underlying D = some (.int k)) (hx : evalE e x = some (.float q b)) (hm : floatToIntVal q b k = some m) :
  ∀ act, Kn n act e → (execOp act.eval (Oper.mk (some d) (.convert S D x) t p af none)).run P w = .ok (.value (.int k m)) w := fun a ha => by
 have := run_convert_float_int (P := P) (w := w) S D q k b m (by simp [hS]) hD hm
 simp [execOp, ha.eval hx, this]
theorem SlC.sub {w : World} {a : Option Addr} {cs : List Value} (h : SlC w a cs) {off : Nat} {xs : List Value} (hx : ∀ q v, xs[q]? = some v → cs[off + q]? = some v) : CellsAt w ((aD a).add off) xs := fun q v hv => by
 rw [add_add]; exact h.2 _ v (hx q v hv)
end Go.Lk

namespace Go.Lk
open Go
/-! ### 'append' that keeps the old row in sight -/
/-- What became of the row that was appended to: it grew in its place, or lies as it was. -/
inductive Kept (E : TypeId) (xs : List Value) (M : Bks) : Bks → Bks → Prop
 | inplace {g : Nat} {sp news sp' : List Value} (h : M = [(g, Row E (xs ++ sp))] := by rfl) : Kept E xs M [(g, Row E (xs ++ news ++ sp'))] []
 | all {M' : Bks} : Kept E xs M M' M
theorem run_append_keep {P : Program} {w0 w : World} {L : List (Nat × Obj)} {T E ty : TypeId} {z : Value} {sz b : Nat} {v : Value} {n : Nat} {xs : List Value} {M : List (Nat × Obj)}
  (hT : P.underlying T = some (.slice E)) (hi : TI P E z sz b) (hz : z.cells.size = sz) (hs : HS w0 w (L ++ M)) (hb : Bl w0 E sz v n xs M)
  {ad : Addr} {m c : Nat} {news : List Value} (hl : news.length = m * sz) (hnews : CellsAt w ad news) (h1 : ∀ u ∈ news, u.oneCell' = true)
  (h63 : n + m ≤ 9223372036854775807) (hbytes : (n + m) * b ≤ 140737488355328) :
  ∃ v' w' M' K, (Builtin.append_ #[T, T] ty #[v, .slice (some ad) m c]).run P w = .ok v' w' ∧ HS w0 w' (L ++ (M' ++ K)) ∧ Bl w0 E sz v' (n + m) (xs ++ news) M' ∧ Kept E xs M M' K := by
 obtain ⟨i, hi1, hi2, hi3, hi4⟩ := hi.ex
 subst hi3 hi4
 cases hb with
 | nil =>
  by_cases hm : m = 0
  ·
   subst hm
   have hn : news = [] := List.eq_nil_of_length_eq_zero (by simpa using hl)
   subst hn
   refine ⟨.slice none 0 0, w, [], [], ?_, hs, .nil, .all⟩
   simp [Builtin.append_, run_underlying hT, sizeOf, typeInfo, hi1, Builtin.lenOf, Builtin.firstCells, loadCells, loadCellsFrom]
  ·
   have hr := run_append_nil (P := P) w T ty E i z hT hi1 hi2 ad m c news hl hnews (by omega) (by omega) (by simp only [Nat.zero_add] at hbytes; omega)
   rw [alloc_list] at hr
   have hge := grownCap_ge w m 0 E
   refine ⟨_, _, [(w.heap.size, Row E (news ++ (Builtin.zeroCells z.cells (grownCap w m 0 E - m)).toList))], [], hr, ?_, ?_, .all⟩
   ·
    have := (hs.drewN 1).alloc (Row E (news ++ (Builtin.zeroCells z.cells (grownCap w m 0 E - m)).toList))
    rw [List.append_nil] at this
    rw [List.append_nil]
    exact this
   ·
    simp only [Nat.zero_add, List.nil_append]
    refine .row (by have := hs.size; exact this) hl ?_ hge
    simp only [List.length_append, Array.length_toList, size_zeroCells, hz, hl, ← Nat.add_mul]
    congr 1; omega
 | @row g n cap xs sp hg hx hc hn =>
  have hL : (L ++ [(g, Row E (xs ++ sp))])[L.length]? = some (g, Row E (xs ++ sp)) := by simp
  by_cases hroom : n + m ≤ cap
  ·
   have hfit : n * i.size + news.length ≤ (xs ++ sp).toArray.size := by rw [hl, List.size_toArray, hc, ← Nat.add_mul]; exact Nat.mul_le_mul_right _ hroom
   have hr := run_append_room (P := P) w T ty E i hT hi1 g n cap (xs ++ sp).toArray (hs.get hL) ad m c news hl hnews h1 hroom hfit
   have e1 : (xs ++ sp).take (n * i.size) = xs := by rw [← hx]; simp
   have hset := hs.setRow (cs' := xs ++ news ++ (xs ++ sp).drop (n * i.size + news.length)) hL
   simp only [e1] at hr
   refine ⟨_, _, [(g, Row E (xs ++ news ++ (xs ++ sp).drop (n * i.size + news.length)))], [], hr, ?_, ?_, .inplace⟩
   ·
    simpa using hset
   ·
    refine .row hg (by rw [List.length_append, hx, hl, Nat.add_mul]) ?_ hroom
    rw [List.length_append, List.length_append, List.length_drop, hc, hx]
    rw [List.size_toArray, hc] at hfit
    omega
  ·
   have holds : CellsAt w ⟨g, 0, none⟩ xs := fun j u hu => by
    have hj : j < xs.length := (List.getElem?_eq_some_iff.1 hu).1
    refine hs.cellA hL (by simp [List.getElem?_append, hj]; simpa [hj] using hu)
   have hr := run_append_grow (P := P) w T ty E i z hT hi1 hi2 ⟨g, 0, none⟩ n cap xs hx holds ad m c news hl hnews (by omega) (by omega) (growslice_fits (by omega) hbytes)
   have hge := grownCap_ge w (n + m) cap E
   have e2 : xs.toArray ++ news.toArray = (xs ++ news).toArray := by simp
   rw [e2, alloc_list] at hr
   refine ⟨_, _, [(w.heap.size, Row E (xs ++ news ++ (Builtin.zeroCells z.cells (grownCap w (n + m) cap E - (n + m))).toList))], [(g, Row E (xs ++ sp))], hr, ?_, ?_, .all⟩
   ·
    have h2 := (hs.drewN 1).alloc (Row E (xs ++ news ++ (Builtin.zeroCells z.cells (grownCap w (n + m) cap E - (n + m))).toList))
    exact h2.mem_perm (by
     rw [List.append_assoc L]
     exact List.Perm.append_left L List.perm_append_comm)
   ·
    refine .row (by have := hs.size; exact this) (by rw [List.length_append, hx, hl, Nat.add_mul]) ?_ hge
    have e3 : (xs ++ news).length = (n + m) * i.size := by rw [List.length_append, hx, hl, Nat.add_mul]
    have e4 : (Builtin.zeroCells z.cells (grownCap w (n + m) cap E - (n + m))).toList.length = (grownCap w (n + m) cap E - (n + m)) * i.size := by rw [Array.length_toList, size_zeroCells, hz]
    rw [List.length_append, e3, e4, ← Nat.add_mul]
    congr 1; omega
/-- A row in sight: the first cells of a named block. -/
def KV (E : TypeId) (ks : List Value) (ka : Option Addr) (N : Bks) : Prop := ks = [] ∨ ∃ g cs, ka = some ⟨g, 0, none⟩ ∧ (g, Row E (ks ++ cs)) ∈ N
theorem KV.slc {E : TypeId} {ks : List Value} {ka : Option Addr} {N L : Bks} {w0 w : World} (h : KV E ks ka N) (hs : HS w0 w L) (hN : ∀ p ∈ N, p ∈ L) : SlC w ka ks := by
 rcases h with rfl | ⟨g, cs, rfl, hm⟩
 ·
  exact ⟨fun h => absurd h (Nat.lt_irrefl _), fun j v hv => by simp at hv⟩
 ·
  exact SlC.of_row (hs.has _ (hN _ hm))
theorem KV.mono {E : TypeId} {ks : List Value} {ka : Option Addr} {N N' : Bks} (h : KV E ks ka N) (hN : ∀ p ∈ N, p ∈ N') : KV E ks ka N' := by
 rcases h with rfl | ⟨g, cs, rfl, hm⟩
 ·
  exact .inl rfl
 ·
  exact .inr ⟨g, cs, rfl, hN _ hm⟩
theorem KV.step {E : TypeId} {ks rest xs : List Value} {ka : Option Addr} {M M' K K' : Bks} (h : KV E ks ka (M ++ K)) (hk : Kept E xs M M' K') (hx : xs = ks ++ rest) : KV E ks ka (M' ++ (K' ++ K)) := by
 rcases h with rfl | ⟨g, cs, rfl, hm⟩
 ·
  exact .inl rfl
 ·
  right
  rcases List.mem_append.1 hm with h1 | h1
  ·
   cases hk with
   | @inplace g' sp news sp' hM =>
    rw [hM, List.mem_singleton, Prod.mk.injEq] at h1
    obtain ⟨rfl, _⟩ := h1
    exact ⟨g, rest ++ news ++ sp', rfl, by rw [hx]; simp⟩
   | all => exact ⟨g, cs, rfl, List.mem_append_right _ (List.mem_append_left _ h1)⟩
  ·
   exact ⟨g, cs, rfl, List.mem_append_right _ (List.mem_append_right _ h1)⟩
theorem Kept.own {w0 : World} {E : TypeId} {xs : List Value} {M M' K : Bks} (h : Kept E xs M M' K) (ho : Own w0 M) : Own w0 K := by
 cases h with
 | inplace => exact Own.nil
 | all => exact ho
section
variable {P : Program} {n : Nat} {Q : Post} {e : Env} {w w0 : World} {L : Bks} {ops : Array Oper} {rest : List Oper} {t : TypeId} {p : String} {af : Array Edge}
theorem L_appendK {d : Nat} (hd : Nat.blt d n = true) {T E : TypeId} {x y : Operand} {z : Value} {sz b : Nat} {v : Value} {k : Nat} {xs : List Value} {M : Bks} {bt m c : Nat} {news : List Value}
  (hT : P.underlying T = some (.slice E)) (hi : TI P E z sz b) (hz : z.cells.size = sz) (hs : HS w0 w ((L ++ M) ++ [(bt, Row E news)])) (hbt : w0.heap.size ≤ bt) (hb : Bl w0 E sz v k xs M) (hx : evalE e x = some v)
  (hy : evalE e y = some (.slice (some ⟨bt, 0, none⟩) m c)) (hl : news.length = m * sz) (h1 : ∀ u ∈ news, u.oneCell' = true)
  (h63 : k + m ≤ 9223372036854775807) (hbytes : (k + m) * b ≤ 140737488355328)
  (h : ∀ v' w' M' K, HS w0 w' (L ++ (M' ++ K)) → Bl w0 E sz v' (k + m) (xs ++ news) M' → Kept E xs M M' K → RL P n ops rest Q ((d, v') :: e) w') :
  RL P n ops (Oper.mk (some d) (.call { callee := .builtin .append, args := #[x, y], argTypes := #[T, T] }) t p af none :: rest) Q e w := by
 obtain ⟨v', w', M', K, hr, h2, h3, h4⟩ := run_append_keep (P := P) (ty := t) (ad := ⟨bt, 0, none⟩) hT hi hz hs.swap hb hl (fun j u hu => hs.cellA (i := (L ++ M).length) (T := E) (cs := news) (by simp) hu) h1 h63 hbytes (c := c)
 exact RL_val hd (fun a ha => by simp [execOp, ha.eval hx, ha.eval hy, resolve, invoke, builtin, hr]) (h v' w' M' K (h2.swap.dropR (Own.cons hbt Own.nil)) h3 h4)
end
theorem zeroCells_one {z : Array Value} (h : ∀ v ∈ z.toList, v.oneCell' = true) (k : Nat) : ∀ v ∈ (Builtin.zeroCells z k).toList, v.oneCell' = true := fun v hv => by
 unfold Builtin.zeroCells at hv
 rw [Array.toList_map, Array.toList_range, List.mem_map] at hv
 obtain ⟨i, hi, rfl⟩ := hv
 rw [List.mem_range] at hi
 have hz : 0 < z.size := Nat.pos_of_ne_zero fun h0 => by rw [h0, Nat.mul_zero] at hi; exact absurd hi (Nat.not_lt_zero _)
 have hm := Nat.mod_lt i hz
 rw [getElem!_pos z _ hm]
 exact h _ (by rw [Array.mem_toList_iff]; exact Array.getElem_mem hm)
section
variable {P : Program} {n : Nat} {Q : Post} {e : Env} {w w0 : World} {L : Bks} {ops : Array Oper} {rest : List Oper} {t : TypeId} {p : String} {af : Array Edge}
/-- 'clear' of a part of a row: what stands there then is not told. -/
theorem L_clearN {T E : TypeId} {x : Operand} {z : Value} {sz by' i b o k c : Nat} {cs : List Value} (hs : HS w0 w L) (hL : L[i]? = some (b, Row E cs)) (hT : P.underlying T = some (.slice E)) (hi : TI P E z sz by')
  (hx : evalE e x = some (.slice (some ⟨b, o, none⟩) k c)) (hk : o + k * sz ≤ cs.length) (h0 : 0 < k) (hz : z.cells.size = sz) (h1 : ∀ v ∈ (Builtin.zeroCells z.cells k).toList, v.oneCell' = true)
  (h : ∀ w' zs, zs.length = k * sz → HS w0 w' (L.set i (b, Row E (cs.take o ++ zs ++ cs.drop (o + k * sz)))) → RL P n ops rest Q e w') :
  RL P n ops (Oper.mk none (.call { callee := .builtin .clear, args := #[x], argTypes := #[T] }) t p af none :: rest) Q e w := by
 have hl : (Builtin.zeroCells z.cells k).toList.length = k * sz := by rw [Array.length_toList, size_zeroCells, hz]
 have hst := run_storeCells_at P b o E (Builtin.zeroCells z.cells k).toList 0 cs.toArray w (hs.get hL) (by rw [hl]; simpa using hk) h1
 refine RL_val0 (v := .tuple #[]) (w' := w.setRow b (cs.take o ++ (Builtin.zeroCells z.cells k).toList ++ cs.drop (o + k * sz)).toArray) (fun a ha => ?_) (h _ _ hl (hs.setRow hL))
 simp only [Nat.add_zero, hl] at hst
 obtain ⟨m, rfl⟩ : ∃ m, k = m + 1 := ⟨k - 1, by omega⟩
 simp [execOp, ha.eval hx, resolve, invoke, builtin, Builtin.clear_, run_underlying hT, hi.zero, hst]
end
/-- A cell of a named block, by the block's name. -/
theorem HS.cellM {w0 w : World} {L : Bks} (h : HS w0 w L) {b j : Nat} {T : TypeId} {cs : List Value} {v : Value} (hm : (b, Row T cs) ∈ L) (hv : cs[j]? = some v) : w.cell? ⟨b, j, none⟩ = some v := cell_of_row (h.has _ hm) hv
end Go.Lk

namespace Go.Lk
open Go
/-! ### Arrays of two whole numbers: laid, and compared -/
end Go.Lk

namespace Go.Lk
open Go Go.Deep
section
variable {H : Type} {enc : TypeId × Value → H} {P : Program} {w : World} {base : Nat} {spare : Nat → Bool} {held : Bool} {fuel : Nat} {t : TypeId} {cs : List Value} {x : DataW H × List MemPlace} {fs : Array Field}
/-! ### A struct's fields, one by one -/
end

section
variable {H : Type} {enc : TypeId × Value → H} {P : Program} {w : World} {base : Nat} {spare : Nat → Bool} {held : Bool} {fuel : Nat} {t e : TypeId} {cs : List Value} {x : DataW H × List MemPlace}
end
end Go.Lk

namespace Go.Lk
open Go
/-! ### As in V: a region in any order, by what each operation leaves; operations without a slot (stores) may be among them -/
structure RInO (n : Nat) (l : List Oper) (e0 : Env) (w0 : World) (L : List (Nat × Obj)) (Φ : (Nat → Value) → Nat → Value → List (Nat × Obj) → Prop) (cons : Nat → List Nat) (listed : Array Bool) (a : Act) (w : World) (V : Nat → Value) (M : Nat → List (Nat × Obj)) (E : Env) (own : List Nat) : Prop where
 kn : Kn n a E
 old : ∀ d v, look e0 d = some v → (∀ (k : Nat) (o : Oper), l[k]? = some o → o.dst ≠ some d) → look E d = some v
 new : ∀ (k : Nat) (o : Oper) (d : Nat), l[k]? = some o → o.dst = some d → listed.getD k false = true → look E d = some (V k)
 fact : ∀ k, listed.getD k false = true → Φ V k (V k) (M k) ∧ Own w0 (M k)
 hs : HS w0 w (L ++ own.flatMap M)
 nodup : own.Nodup
 closed : ∀ (j : Nat) (o : Oper), l[j]? = some o → listed.getD j false = true → ∀ e ∈ o.after, Region.binds .any e = true → listed.getD e.on false = true
 ownd : ∀ k, k ∈ own ↔ (k < l.length ∧ listed.getD k false = true ∧ ∀ j, j < l.length → listed.getD j false = true → k ∉ cons j)
end Go.Lk

namespace Go.Lk
open Go
/-! ### Maps: a block of entries, each a key, a value and when it was born -/
section
variable {κ ν : Type}
def ments (ek : κ → Value) (ev : ν → Value) (l : List (κ × ν × Nat)) : List MapEntry := l.map fun x => ⟨ek x.1, ev x.2.1, x.2.2⟩
abbrev MapO (ek : κ → Value) (ev : ν → Value) (l : List (κ × ν × Nat)) (ck : Nat) : Obj := .map (ments ek ev l).toArray ck
abbrev ItO (m since : Nat) (seen : List Nat) (c : Nat) : Obj := .mapIter (some m) since seen.toArray c
variable [DecidableEq κ]
def kfind (k : κ) : List (κ × ν × Nat) → Nat → Option (Nat × ν)
 | [], _ => none
 | x :: r, i => if x.1 = k then some (i, x.2.1) else kfind k r (i + 1)
/-- what a key's type must answer -/
structure KeyT (P : Program) (kt : TypeId) (ek : κ → Value) : Prop where
 find : ∀ {ν : Type} (ev : ν → Value) (k : κ) (l : List (κ × ν × Nat)) (w : World), (Instr.findKey kt (ek k) (ments ek ev l)).run P w = .ok ((kfind k l 0).map fun q => (q.1, ev q.2)) w
 check : ∀ (em : Bool) (k : κ) (w : World), (Instr.checkKey em 10000 kt (ek k)).run P w = .ok () w
 same : ∀ k, Instr.sameBits 10000 (ek k) (ek k) = true
end
theorem findNow_int {ν : Type} (ev : ν → Value) (q : IntKind) (k : Int) : ∀ (l : List (Int × ν × Nat)) (i : Nat), Instr.findNow (.int q) (.int q k) (ments (.int q) ev l) i = some ((kfind k l i).map fun z => (z.1, ev z.2))
 | [], i => rfl
 | x :: r, i => by
  show Instr.findNow (.int q) (.int q k) (⟨.int q x.1, ev x.2.1, x.2.2⟩ :: ments (.int q) ev r) i = _
  have e : Instr.sameNow (.int q) (.int q k) (.int q x.1) = some (k == x.1) := by simp [Instr.sameNow]
  unfold Instr.findNow kfind
  simp only [e]
  by_cases h : x.1 = k
  ·
   subst h; simp
  ·
   have h' : (k == x.1) = false := by simp; exact fun hh => h hh.symm
   rw [h', if_neg h]
   exact findNow_int ev q k r (i + 1)
theorem KeyT.int {P : Program} {kt : TypeId} {q : IntKind} (hk : P.underlying kt = some (.int q)) : KeyT P kt (Value.int q) where
 find ev k l w := Go.MapKept.run_findKey hk (findNow_int ev q k l 0)
 check em k w := by unfold Instr.checkKey; simp only [Sem.run_bind, run_underlying hk, Result.andThen]; rfl
 same k := by simp [Instr.sameBits]
def pk (k : Int × Int) : Value := .agg #[.int .i64 k.1, .int .i64 k.2]
/-- a struct of two integers -/
structure PairT (P : Program) (t : TypeId) : Prop where
 ex : ∃ f g : Field, P.underlying t = some (.struct (P.fieldsOf t)) ∧ P.fieldsOf t = #[f, g] ∧ f.name ≠ "_" ∧ g.name ≠ "_" ∧ f.offset = 0 ∧ g.offset = 1 ∧ P.underlying f.type = some (.int .i64) ∧ P.underlying g.type = some (.int .i64) ∧ P.stoodInHeld t = false
theorem PairT.of {P : Program} {t : TypeId} {f g : Field} (hu : P.underlying t = some (.struct #[f, g])) (h1 : f.name ≠ "_") (h2 : g.name ≠ "_") (h3 : f.offset = 0) (h4 : g.offset = 1) (h5 : P.underlying f.type = some (.int .i64)) (h6 : P.underlying g.type = some (.int .i64)) (h7 : P.stoodInHeld t = false) : PairT P t :=
 have e : P.fieldsOf t = #[f, g] := by simp [Program.fieldsOf, hu]
 ⟨f, g, by rw [e]; exact hu, e, h1, h2, h3, h4, h5, h6, h7⟩
theorem PairT.eq {P : Program} {t : TypeId} (h : PairT P t) (d : Nat) (w : World) (a b : Int × Int) : (Op.equalIn (d + 2) t (pk a) (pk b)).run P w = .ok (decide (a = b)) w := by
 obtain ⟨f, g, hu, hf, hfn, hgn, hf0, hg1, hfi, hgi, hs⟩ := h.ex
 have hpf : P.plainKey f.type = true := by simp [Program.plainKey, hfi]
 have hpg : P.plainKey g.type = true := by simp [Program.plainKey, hgi]
 unfold pk
 rw [show d + 2 = (d + 1) + 1 from rfl, run_equalIn_agg w (d + 1) t _ _ hu hs, hf]
 show (Op.eqFields (d + 1) _ _ [f, g]).run P w = _
 have p1 : ∀ u v : Int, (part f.type #[Value.int .i64 u, Value.int .i64 v] f.offset).run P w = .ok (.int .i64 u) w := fun u v => run_part_plain w hpf (by rw [hf0]; rfl)
 have p2 : ∀ u v : Int, (part g.type #[Value.int .i64 u, Value.int .i64 v] g.offset).run P w = .ok (.int .i64 v) w := fun u v => run_part_plain w hpg (by rw [hg1]; rfl)
 obtain ⟨a1, a2⟩ := a
 obtain ⟨b1, b2⟩ := b
 have e1 := run_equalIn_int (P := P) w d f.type .i64 .i64 a1 b1 hfi
 have e2 := run_equalIn_int (P := P) w d g.type .i64 .i64 a2 b2 hgi
 by_cases h1 : a1 = b1
 ·
  subst h1
  by_cases h2 : a2 = b2
  ·
   subst h2
   rw [beq_self_eq_true] at e1 e2
   simp only [Op.eqFields, hfn, hgn, ne_eq, not_false_eq_true, if_true, Sem.run_bind, p1, p2, Result.andThen_ok, e1, e2, Bool.not_true, Bool.false_eq_true, if_false, Sem.run_pure, decide_true]
  ·
   rw [beq_self_eq_true] at e1
   rw [beq_false_of_ne h2] at e2
   have hd : decide ((a1, a2) = (a1, b2)) = false := decide_eq_false (by simp [h2])
   simp only [Op.eqFields, hfn, hgn, ne_eq, not_false_eq_true, if_true, Sem.run_bind, p1, p2, Result.andThen_ok, e1, e2, Bool.not_true, Bool.not_false, Bool.false_eq_true, if_false, Sem.run_pure, hd]
 ·
  rw [beq_false_of_ne h1] at e1
  have hd : decide ((a1, a2) = (b1, b2)) = false := decide_eq_false (by simp [h1])
  simp only [Op.eqFields, hfn, ne_eq, not_false_eq_true, if_true, Sem.run_bind, p1, Result.andThen_ok, e1, Bool.not_false, Sem.run_pure, hd]
theorem findAsking_pair {P : Program} {t : TypeId} (h : PairT P t) {ν : Type} (ev : ν → Value) (k : Int × Int) (w : World) : ∀ (l : List ((Int × Int) × ν × Nat)) (i : Nat), (Instr.findAsking t (pk k) (ments pk ev l) i).run P w = .ok ((kfind k l i).map fun z => (z.1, ev z.2)) w
 | [], i => by simp [ments, Instr.findAsking, kfind]
 | x :: r, i => by
  show (Instr.findAsking t (pk k) (⟨pk x.1, ev x.2.1, x.2.2⟩ :: ments pk ev r) i).run P w = _
  have e : (Op.equal t (pk k) (pk x.1)).run P w = .ok (decide (k = x.1)) w := h.eq 9998 w k x.1
  unfold Instr.findAsking kfind
  simp only [Sem.run_bind, e, Result.andThen_ok]
  by_cases hx : x.1 = k
  ·
   subst hx; simp
  ·
   have h' : decide (k = x.1) = false := decide_eq_false fun hh => hx hh.symm
   rw [h', if_neg hx]
   simp only [Bool.false_eq_true, if_false]
   exact findAsking_pair h ev k w r (i + 1)
theorem KeyT.pair {P : Program} {t : TypeId} (h : PairT P t) : KeyT P t pk where
 find ev k l w := by
  obtain ⟨f, g, hu, _⟩ := h.ex
  rw [run_findKey_eq w (by rw [hu])]
  exact findAsking_pair h ev k w l 0
 check em k w := by
  obtain ⟨f, g, hu, hf, hfn, hgn, hf0, hg1, hfi, hgi, hs⟩ := h.ex
  have hpf : P.plainKey f.type = true := by simp [Program.plainKey, hfi]
  have hpg : P.plainKey g.type = true := by simp [Program.plainKey, hgi]
  unfold pk
  have p1 : (part f.type #[Value.int .i64 k.1, Value.int .i64 k.2] f.offset).run P w = .ok (.int .i64 k.1) w := run_part_plain w hpf (by rw [hf0]; rfl)
  have p2 : (part g.type #[Value.int .i64 k.1, Value.int .i64 k.2] g.offset).run P w = .ok (.int .i64 k.2) w := run_part_plain w hpg (by rw [hg1]; rfl)
  have c1 : ∀ n, (Instr.checkKey em (n + 1) f.type (.int .i64 k.1)).run P w = .ok () w := fun n => by simp [Instr.checkKey, run_underlying hfi]
  have c2 : ∀ n, (Instr.checkKey em (n + 1) g.type (.int .i64 k.2)).run P w = .ok () w := fun n => by simp [Instr.checkKey, run_underlying hgi]
  rw [show (10000 : Nat) = 9998 + 1 + 1 from rfl]
  unfold Instr.checkKey
  simp only [Sem.run_bind, run_underlying hu, Result.andThen_ok]
  rw [← Array.forIn_toList, hf]
  simp only [List.forIn_cons, List.forIn_nil, hfn, hgn, ne_eq, not_false_eq_true, if_true, Sem.run_bind, p1, p2, c1, c2, Result.andThen_ok, Sem.run_pure]
 same k := by simp [pk, Instr.sameBits]
section
variable {P : Program} {n : Nat} {Q : Post} {e : Env} {w w0 : World} {L : Bks} {ops : Array Oper} {rest : List Oper} {t : TypeId} {p : String} {af : Array Edge} {d : Nat}
variable {κ ν : Type} [DecidableEq κ] {ek : κ → Value} {ev : ν → Value} {T kt et : TypeId}
end
section
variable {P : Program} {n : Nat} {Q : Post} {e : Env} {w w0 : World} {L : Bks} {ops : Array Oper} {rest : List Oper} {t : TypeId} {p : String} {af : Array Edge} {d : Nat}
variable {κ ν : Type} {ek : κ → Value} {ev : ν → Value} {T kt et : TypeId}
end
section
variable {P : Program} {n : Nat} {Q : Post} {e : Env} {w : World} {ops : Array Oper} {g : Nat} {listed : Array Bool}
end
/-! ### What is said of two texts, of two structs -/
section
variable {P : Program} {n : Nat} {e : Env} {w : World} {t : TypeId} {p : String} {af : Array Edge} {d : Nat}
end
end Go.Lk

namespace Go.Lk
open Go
/-! ### append in place of what stands behind, in a row that goes on (as slices.Delete does) -/
section
variable {P : Program} {n : Nat} {Q : Post} {e : Env} {w w0 : World} {L : Bks} {ops : Array Oper} {rest : List Oper} {t : TypeId} {p : String} {af : Array Edge}
end
end Go.Lk
