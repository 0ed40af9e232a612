/-
  A part of the proof: laws for walks, and plain laws, over any program of the model. Each theorem holds under its own premises alone.
-/
import Derived.Test.YtffobakdngbadaaGreatKit
import Derived.Scope
import Derived.ArgAppend
import Derived.Test.YtffobakdngbadaaGreatKitQ
import Derived.LoopN
import Derived.Lib.SliceRun
import Derived.Maps.RangeRun
import Derived.WideKeyRuns
import Derived.Laws.StructEq
namespace Go.Lk
open Go
section
variable {P : Program} {n : Nat} {Q : jeG} {e : Env} {w w0 : World}
theorem W_scope {c : Code} (h : W P n c (Exit.noGoto Q) e w) : W P n (.scope c) Q e w := fun a ha => wp_scope_straight (h a ha)
theorem jmN (h : Ex n Q .ret e w) : Ex n (Exit.noGoto Q) .ret e w := fun a ha => h a ha
end
def Qu (w0 : World) (E : TypeId) (v : Value) (xs : List Int) (M : List (Nat × Obj)) : Prop :=
 ∃ g o cap, ∃ pre sp : List Value, v = .slice (some ⟨g, o, none⟩) xs.length cap /\ M = [(g, Row E (pre ++ il xs ++ sp))] /\ pre.length = o /\ w0.heap.size <= g /\ xs.length <= cap /\ cap <= xs.length + sp.length
theorem Qu.own {w0 : World} {E : TypeId} {v : Value} {xs : List Int} {M : List (Nat × Obj)} (h : Qu w0 E v xs M) : Own w0 M := by
 obtain ⟨g, o, cap, pre, sp, _, rfl, _, hg, _⟩ := h
 exact Own.cons hg Own.nil
theorem jqQ {P : Program} {w0 w : World} {L : List (Nat × Obj)} {T E ty : TypeId} {z : Value} {b : Nat} {v : Value} {xs : List Int} {M : List (Nat × Obj)}
  (hT : P.underlying T = some (.slice E)) (hi : TI P E z 1 b) (hz : z.cells.size = 1) (hs : HS w0 w (L ++ M)) (hq : Qu w0 E v xs M)
  {ad : Addr} {c : Nat} {x : Int} (hnews : jbF w ad [.int .i64 x]) (h63 : xs.length + 1 <= 9223372036854775807) (hbytes : (xs.length + 1) * b <= 140737488355328) :
  ∃ v' w' M', (Builtin.append_ #[T, T] ty #[v, .slice (some ad) 1 c]).run P w = .ok v' w' /\ HS w0 w' (L ++ M') /\ Qu w0 E v' (xs ++ [x]) M' := by
 obtain ⟨i, hi1, hi2, hi3, hi4⟩ := hi.ex
 obtain ⟨g, o, cap, pre, sp, rfl, rfl, hp, hg, hlc, hcs⟩ := hq
 subst hi4
 have hL : (L ++ [(g, Row E (pre ++ il xs ++ sp))])[L.length]? = some (g, Row E (pre ++ il xs ++ sp)) := by simp
 by_cases hroom : xs.length + 1 <= cap
 ·
  obtain ⟨s0, sp', rfl⟩ : ∃ s0 sp', sp = s0 :: sp' := by
   cases sp with
   | nil => simp at hcs; omega
   | cons s0 sp' => exact ⟨s0, sp', rfl⟩
  have hcell : w.cell? ⟨g, o + xs.length, none⟩ = some s0 := hs.cell hL (by rw [<- hp]; simp)
  have hr := run_append_room_cells (P := P) (w := w) T ty E i hT hi1 g o xs.length cap ad 1 c [.int .i64 x] (by simp [hi3]) hnews (by simp [Value.oneCell']) hroom
   (fun j hj => by
    obtain rfl : j = 0 := by simpa using hj
    rw [hi3, Nat.mul_one, Nat.add_zero, hcell]; rfl)
   (fun j hj => jgT (hs.get hL) _ rfl)
  rw [hi3, Nat.mul_one] at hr
  have hst := hs.store (j := o + xs.length) (v := .int .i64 x) hL
  have e1 : (pre ++ il xs ++ s0 :: sp').set (o + xs.length) (.int .i64 x) = pre ++ il (xs ++ [x]) ++ sp' := by
   rw [<- jeD, List.set_append_right _ _ (by simp [hp])]
   simp [hp]
  refine ⟨_, _, [(g, Row E (pre ++ il (xs ++ [x]) ++ sp'))], hr, ?_, g, o, cap, pre, sp', ?_, rfl, hp, hg, ?_, ?_⟩
  ·
   have e2 : w.setCells g (o + xs.length) [.int .i64 x] = w.setCell ⟨g, o + xs.length, none⟩ (.int .i64 x) := rfl
   rw [e2]
   rw [e1] at hst
   simpa using hst
  ·
   simp
  ·
   simp; omega
  simp at hcs ⊢; omega
 have holds : jbF w ⟨g, o, none⟩ (il xs) := fun j u hu => by
  have hj : j < (il xs).length := (List.getElem?_eq_some_iff.1 hu).1
  rw [Addr.add_lit]
  refine hs.cell hL ?_
  rw [List.append_assoc, List.getElem?_append_right (by omega), List.getElem?_append_left (by omega), hp, Nat.add_sub_cancel_left]
  exact hu
 have hr := run_append_grow (P := P) w T ty E i z hT hi1 hi2 ⟨g, o, none⟩ xs.length cap (il xs) (by simp [hi3]) holds ad 1 c [.int .i64 x] (by simp [hi3]) hnews (by omega) (by omega) (growslice_fits (by omega) hbytes)
 have hge := grownCap_ge w (xs.length + 1) cap E
 have e2 : (il xs).toArray ++ [Value.int .i64 x].toArray = (il (xs ++ [x])).toArray := by simp [<- jeD]
 rw [e2, jhP] at hr
 refine ⟨_, _, [(w.heap.size, Row E (il (xs ++ [x]) ++ (Builtin.zeroCells z.cells (grownCap w (xs.length + 1) cap E - (xs.length + 1))).toList))], hr, ?_, w.heap.size, 0, grownCap w (xs.length + 1) cap E, [], _, ?_, rfl, rfl, hs.size, ?_, ?_⟩
 ·
  have h2 := (hs.drewN 1).alloc (Row E (il (xs ++ [x]) ++ (Builtin.zeroCells z.cells (grownCap w (xs.length + 1) cap E - (xs.length + 1))).toList))
  refine h2.sub (fun p hp => ?_) ?_ (fun p hp => ?_)
  ·
   rcases List.mem_append.1 hp with h3 | h3
   ·
    simp [h3]
   simp at h3; subst h3; simp
  ·
   have := h2.nodup
   rw [List.map_append, List.map_append, List.append_assoc] at this
   rw [List.map_append]
   exact this.sublist (by simp)
  simp only [List.mem_append, List.mem_singleton] at hp ⊢
  rcases hp with (h3 | h3) | h3
  ·
   exact .inl (.inl h3)
  ·
   right; subst h3; exact hg
  exact .inl (.inr h3)
 ·
  simp
 ·
  simp; omega
 simp only [List.length_append, Array.length_toList, size_zeroCells, hz, Nat.mul_one, List.length_cons, List.length_nil]; omega
section
variable {P : Program} {n : Nat} {Q : jeG} {e : Env} {w w0 : World} {L : List (Nat × Obj)} {ops : Array Oper} {rest : List Oper} {t : TypeId} {p : String} {af : Array Edge}
theorem L_appendQ {d : Nat} (hd : Nat.blt d n = true) {T E : TypeId} {x y : Operand} {z : Value} {b : Nat} {v : Value} {xs : List Int} {M : List (Nat × Obj)} {bt c : Nat} {u : Int}
  (hT : P.underlying T = some (.slice E)) (hi : TI P E z 1 b) (hz : z.cells.size = 1) (hs : HS w0 w ((L ++ M) ++ [(bt, Row E [.int .i64 u])])) (hbt : w0.heap.size <= bt) (hq : Qu w0 E v xs M) (hx : jaD e x = some v)
  (hy : jaD e y = some (.slice (some ⟨bt, 0, none⟩) 1 c)) (h63 : xs.length + 1 <= 9223372036854775807) (hbytes : (xs.length + 1) * b <= 140737488355328)
  (h : ∀ v' w' M', HS w0 w' (L ++ M') -> Qu w0 E v' (xs ++ [u]) M' -> RL P n ops rest Q ((d, v') :: e) w') :
  RL P n ops (Oper.mk (some d) (.call { callee := .builtin .append, args := #[x, y], argTypes := #[T, T] }) t p af none :: rest) Q e w := by
 obtain ⟨v', w', M', hr, h2, h3⟩ := jqQ (P := P) (ty := t) hT hi hz hs.swap hq (x := u) (fun j y hy => hs.cellA (i := (L ++ M).length) (b := bt) (T := E) (cs := [.int .i64 u]) (by simp) hy) h63 hbytes (c := c)
 exact jaT hd (fun a ha => by simp [execOp, ha.eval hx, ha.eval hy, resolve, invoke, builtin, hr]) (h v' w' M' (h2.swap.dropR (Own.cons hbt Own.nil)) h3)
end
theorem results_tmp4 {fn : Func} {t u v q : Tmp} (h : fn.results = #[.tmp t, .tmp u, .tmp v, .tmp q]) (tmps : Array Value) (P : Program) (w : World) :
  (results fn tmps).run P w = .ok (.tuple #[tmps.getD t undef, tmps.getD u undef, tmps.getD v undef, tmps.getD q undef]) w := by
 simp [results, h]
section
variable {P : Program} {n : Nat} {e : Env} {w : World}
theorem jhQ {fn : Func} {R : Ending -> World -> Prop} {t u s q : Tmp} {v v' v'' v''' : Value} (hr : fn.results = #[.tmp t, .tmp u, .tmp s, .tmp q]) (ht : look e t = some v) (hu : look e u = some v') (hs : look e s = some v'') (hq : look e q = some v''')
  (h : R (.returned (.tuple #[v, v', v'', v'''])) w) : Ex n (bodyPost P fn R) .ret e w :=
 fun a ha => ⟨ha.2.1, _, by rw [results_tmp4 hr, jeP ha ht, jeP ha hu, jeP ha hs, jeP ha hq], h⟩
end
theorem jh8 {v : Value} (h : v.oneCell' = true) : v.cells = #[v] := by cases v <;> simp [Value.oneCell'] at h <;> rfl
theorem flat_one {l : List (Nat × Value)} (h : l.all (fun q => q.2.oneCell') = true) : (l.flatMap fun q => q.2.cells.toList) = l.map (·.2) := by
 induction l with
 | nil => rfl
 | cons q l ih =>
  rw [List.all_cons, Bool.and_eq_true] at h
  rw [List.flatMap_cons, List.map_cons, ih h.2, jh8 h.1]; rfl
section
variable {P : Program} {n : Nat} {Q : jeG} {e : Env} {w w0 : World} {L : List (Nat × Obj)} {ops : Array Oper} {rest : List Oper} {t : TypeId} {p : String} {af : Array Edge}
theorem jb0 {d : Nat} (hd : Nat.blt d n = true) {T E : TypeId} {len : Nat} {xs : List (Nat × Operand)} {l : List (Nat × Value)} {z : Value} {b : Nat} (hs : HS w0 w L) (hT : P.underlying T = some (.slice E)) (hi : TI P E z 1 b)
  (hx : jf6 e xs = some l) (hsz : ¬ (len * 1 > 16777216)) (hidx : l.map (·.1) = List.range' 0 len) (h1 : l.all (fun q => q.2.oneCell') = true)
  (h : ∀ g w', w0.heap.size <= g -> g ∉ L.map (·.1) -> HS w0 w' (L ++ [(g, Row E (l.map (·.2)))]) -> RL P n ops rest Q ((d, .slice (some ⟨g, 0, none⟩) len len) :: e) w') :
  RL P n ops (Oper.mk (some d) (.buildSlice T len xs.toArray) t p af none :: rest) Q e w :=
 jb4 hd hs hT hi hx hsz hidx (fun q hq => by rw [jh8 (List.all_eq_true.1 h1 q hq)]; rfl) fun g w' a1 a2 a3 => h g w' a1 a2 (by rw [flat_one h1] at a3; exact a3)
end
theorem jhD {md : Region.Mode} {ops : Array Oper} : ∀ (f g j i : Nat), f <= g -> jg8 md ops f j i = true -> jg8 md ops g j i = true
 | 0, _, _, _, _, h => by cases h
 | f + 1, 0, _, _, hfg, _ => by omega
 | f + 1, g + 1, j, i, hfg, h => by
  unfold jg8 at h ⊢
  cases ho : ops[j]? with
  | none => simp [ho] at h
  | some o =>
   simp only [ho] at h ⊢
   obtain ⟨e, he, hb⟩ := Array.any_eq_true'.1 h
   simp only [Bool.and_eq_true, Bool.or_eq_true, beq_iff_eq] at hb
   refine Array.any_eq_true'.2 ⟨e, he, ?_⟩
   simp only [Bool.and_eq_true, Bool.or_eq_true, beq_iff_eq]
   exact ⟨hb.1, hb.2.imp id (fun h2 => jhD f g _ _ (by omega) h2)⟩
def maskOf (md : Region.Mode) (n : Nat) (t : List Nat) (es : List Edge) : Nat := es.foldl (fun m e => if Region.binds md e && Nat.blt e.on n then m ||| ((1 <<< e.on) ||| t.getD e.on 0) else m) 0
def jkK (md : Region.Mode) (ops : Array Oper) : Nat -> List Nat
 | 0 => []
 | n + 1 => jkK md ops n ++ [match ops[n]? with | none => 0 | some o => maskOf md n (jkK md ops n) o.after.toList]
theorem jkH {md : Region.Mode} {ops : Array Oper} : ∀ n, (jkK md ops n).length = n
 | 0 => rfl
 | n + 1 => by rw [jkK, List.length_append, jkH n]; rfl
theorem jq6 {md : Region.Mode} {n : Nat} {t : List Nat} {i : Nat} : ∀ (es : List Edge) (m : Nat), (es.foldl (fun m e => if Region.binds md e && Nat.blt e.on n then m ||| ((1 <<< e.on) ||| t.getD e.on 0) else m) m).testBit i = true -> m.testBit i = true ∨ ∃ e ∈ es, Region.binds md e = true /\ e.on < n /\ (e.on = i ∨ (t.getD e.on 0).testBit i = true)
 | [], m, h => .inl h
 | e :: es, m, h => by
  rw [List.foldl_cons] at h
  rcases jq6 es _ h with h1 | ⟨e', he', h1⟩
  ·
   by_cases hc : (Region.binds md e && Nat.blt e.on n) = true
   ·
    rw [if_pos hc] at h1
    rw [Bool.and_eq_true] at hc
    rw [Nat.testBit_or, Nat.testBit_or, Bool.or_eq_true, Bool.or_eq_true] at h1
    rcases h1 with h1 | h1 | h1
    ·
     exact .inl h1
    ·
     refine .inr ⟨e, by simp, hc.1, by simpa using hc.2, .inl ?_⟩
     rw [Nat.shiftLeft_eq, Nat.one_mul, Nat.testBit_two_pow] at h1
     exact of_decide_eq_true h1
    exact .inr ⟨e, by simp, hc.1, by simpa using hc.2, .inr h1⟩
   rw [if_neg hc] at h1
   exact .inl h1
  exact .inr ⟨e', by simp [he'], h1⟩
theorem jgR {md : Region.Mode} {ops : Array Oper} : ∀ (n j i : Nat), j < n -> ((jkK md ops n).getD j 0).testBit i = true -> jg8 md ops (j + 1) j i = true
 | 0, _, _, h, _ => absurd h (Nat.not_lt_zero _)
 | n + 1, j, i, hj, h => by
  rw [jkK] at h
  by_cases hjn : j < n
  ·
   have e : (jkK md ops n ++ [match ops[n]? with | none => 0 | some o => maskOf md n (jkK md ops n) o.after.toList]).getD j 0 = (jkK md ops n).getD j 0 := by
    simp only [List.getD]
    rw [List.getElem?_append_left (by rw [jkH]; exact hjn)]
   rw [e] at h
   exact jgR n j i hjn h
  obtain rfl : j = n := by omega
  have e : (jkK md ops j ++ [match ops[j]? with | none => 0 | some o => maskOf md j (jkK md ops j) o.after.toList]).getD j 0 = (match ops[j]? with | none => 0 | some o => maskOf md j (jkK md ops j) o.after.toList) := by
   simp only [List.getD]
   rw [List.getElem?_append_right (by rw [jkH]; exact Nat.le_refl _), jkH, Nat.sub_self]
   rfl
  rw [e] at h
  unfold jg8
  cases ho : ops[j]? with
  | none => rw [ho] at h; simp at h
  | some o =>
   rw [ho] at h
   simp only
   rcases jq6 o.after.toList 0 h with h1 | ⟨e, he, hb, hon, h1⟩
   ·
    simp at h1
   refine Array.any_eq_true'.2 ⟨e, by simpa using he, ?_⟩
   simp only [Bool.and_eq_true, Bool.or_eq_true, beq_iff_eq]
   refine ⟨hb, ?_⟩
   rcases h1 with h1 | h1
   ·
    exact .inl h1
   exact .inr (jhD (e.on + 1) j _ _ (by omega) (jgR j e.on i hon h1))
def chkWaitsF (md : Region.Mode) (ops : Array Oper) (hd tl : List Nat) : Bool :=
 let t := jkK md ops ops.size
 match tl with
 | [] => true
 | u :: r => Nat.blt u ops.size && hd.all (fun i => (t.getD u 0).testBit i) && go t u r
where go (t : List Nat) : Nat -> List Nat -> Bool
 | _, [] => true
 | u, v :: r => Nat.blt v ops.size && (t.getD v 0).testBit u && go t v r
theorem chain_of {md : Region.Mode} {ops : Array Oper} : ∀ (u : Nat) (r : List Nat), chkWaitsF.go ops (jkK md ops ops.size) u r = true -> chkWaits.chain md ops u r = true
 | _, [], _ => rfl
 | u, v :: r, h => by
  simp only [chkWaitsF.go, Bool.and_eq_true] at h
  simp only [chkWaits.chain, Bool.and_eq_true]
  have hv : v < ops.size := by simpa using h.1.1
  exact ⟨jhD _ _ _ _ (by omega) (jgR _ v u hv h.1.2), chain_of v r h.2⟩
theorem waits_of {md : Region.Mode} {ops : Array Oper} {hd tl : List Nat} (h : chkWaitsF md ops hd tl = true) : chkWaits md ops hd tl = true := by
 cases tl with
 | nil => rfl
 | cons u r =>
  simp only [chkWaitsF, Bool.and_eq_true, List.all_eq_true] at h
  simp only [chkWaits, Bool.and_eq_true, List.all_eq_true]
  have hu : u < ops.size := by simpa using h.1.1
  exact ⟨fun i hi => jhD _ _ _ _ (by omega) (jgR _ u i hu (h.1.2 i hi)), chain_of u r h.2⟩
def chkAllF (ops : Array Oper) (ps hd tl : List Nat) : Bool :=
 let l0 := Array.replicate ops.size false
 Region.noSelect ops && jgF .any ops ps l0 && ps.all (fun i => ((jh0 ops i).dst).isSome) && jrE .any ops (jbN l0 ps) && tl.all (fun t => !(jbN l0 ps).getD t true) && chkWaitsF .any ops hd tl &&
 (List.range ops.size).all (fun i => ps.contains i || hd.contains i || tl.contains i) && ps.all (fun i => (jbN l0 ps).getD i true) && hd.all (fun i => !tl.contains i) && jgF .any ops hd (jbN l0 ps) &&
 tl.all (fun i => (ops[i]?).isSome) && jg4 .any ops tl (jbN (jbN l0 ps) hd) && decide (ps.length + hd.length + tl.length = ops.size)
theorem jcQ {ops : Array Oper} {ps hd tl : List Nat} (h : chkAllF ops ps hd tl = true) : chkAll ops ps hd tl = true := by
 simp only [chkAllF, Bool.and_eq_true] at h
 simp only [chkAll, Bool.and_eq_true]
 obtain ⟨⟨⟨⟨⟨⟨⟨⟨⟨⟨⟨⟨h1, h2⟩, h3⟩, h4⟩, h5⟩, h6⟩, h7⟩, h8⟩, h9⟩, h10⟩, h11⟩, h12⟩, h13⟩ := h
 exact ⟨⟨⟨⟨⟨⟨⟨⟨⟨⟨⟨⟨h1, h2⟩, h3⟩, h4⟩, h5⟩, waits_of h6⟩, h7⟩, h8⟩, h9⟩, h10⟩, h11⟩, h12⟩, h13⟩
section
variable {P : Program} {n : Nat} {Q : jeG} {e E : Env} {w : World} {ops : Array Oper} {g : Nat} {listed : Array Bool}
end
theorem fop_some {op : BinOp} {x y r : Nat} (h : floatBits op .f64 x y = some r) : fop op x y = r := by simp [fop, h]
theorem cellsAt_row {w : World} {b T j : Nat} {xs : List Value} (cs : List Value) (h : w.heap[b]? = some (Row T xs)) (hx : ∀ q v, cs[q]? = some v -> xs[j + q]? = some v) : jbF w ((Addr.mk b 0 none).add j) cs := fun q v hv => by
 rw [jaR, jaM]
 exact Lk.cell_of_row h (hx q v hv)
theorem R_idxA1 {P : Program} {n : Nat} {e : Env} {w : World} {t : TypeId} {p : String} {af : Array Edge} {d : Nat} {T E : TypeId} {x y : Operand} {ad : Addr} {len j : Nat} {k : IntKind} {i : Int} {z : Value} {b : Nat} (hT : P.underlying T = some (.array len E)) (hi : TI P E z 1 b)
  (hx : jaD e x = some (.pointer (some ad))) (hy : jaD e y = some (.int k i)) (hj : i = (j : Int)) (hb : j < len) :
  ∀ act, Kn n act e -> (execOp act.eval (Oper.mk (some d) (.indexAddr T x y) t p af none)).run P w = .ok (.value (.pointer (some (ad.add j)))) w := by
 have := R_idxA (n := n) (w := w) (t := t) (p := p) (af := af) (d := d) hT hi hx hy hj hb
 rw [Nat.mul_one] at this
 exact this
theorem jrM {P : Program} {n : Nat} {Q : jeG} {e : Env} {w : World} {ops : Array Oper} {rest : List Oper} {t : TypeId} {p : String} {af : Array Edge} {d : Nat} (hd : Nat.blt d n = true) {T E : TypeId} {x y : Operand} {ad : Addr} {len j : Nat} {k : IntKind} {i : Int} {z : Value} {b : Nat} (hT : P.underlying T = some (.array len E)) (hi : TI P E z 1 b)
  (hx : jaD e x = some (.pointer (some ad))) (hy : jaD e y = some (.int k i)) (hj : i = (j : Int)) (hb : j < len)
  (h : RL P n ops rest Q ((d, .pointer (some (ad.add j))) :: e) w) : RL P n ops (Oper.mk (some d) (.indexAddr T x y) t p af none :: rest) Q e w :=
 jaT hd (R_idxA1 hT hi hx hy hj hb) h
theorem jaE {w : World} {b T : Nat} {cs : List Value} (h : w.heap[b]? = some (Row T cs)) : jbF w ⟨b, 0, none⟩ cs := fun q v hv => by
 rw [jaM]
 exact Lk.cell_of_row h hv
theorem jc7 {P : Program} {n : Nat} {e : Env} {w : World} {fn : Func} {R : Ending -> World -> Prop} {p : Tmp} {ty : TypeId} {ad : Addr} {cs : List Value} {z : Value} {b : Nat} (hr : fn.results = #[.cell p ty]) (hp : look e p = some (.pointer (some ad))) (hT : Agg P ty) (hi : TI P ty z cs.length b) (hc : jbF w ad cs) (h : R (.returned (.agg cs.toArray)) w) : Ex n (bodyPost P fn R) .ret e w :=
 fun a ha => ⟨ha.2.1, _, by
  have hl := run_loadCells_list (P := P) w ad cs hc
  have h1 := jeP ha hp
  have h2 : a.tmps[p]?.getD undef = .pointer (some ad) := by simpa using h1
  simp [results, hr, h2, asAddr, loadVar, hT.run, hi.sizeOf, hl], h⟩
theorem jk5 {P : Program} {n : Nat} {e : Env} {w : World} {t : TypeId} {p : String} {af : Array Edge} {d : Nat} {op : BinOp} {T T' : TypeId} {x y : Operand} {k : IntKind} {i j c : Int} (ho : op = .and ∨ op = .or ∨ op = .andNot ∨ op = .xor) (hx : jaD e x = some (.int k i)) (hy : jaD e y = some (.int k j)) (hc : bits op k i j = c) :
  ∀ act, Kn n act e -> (execOp act.eval (Oper.mk (some d) (.binOp op T x y T') t p af none)).run P w = .ok (.value (.int k c)) w := by
 subst hc
 rcases ho with rfl | rfl | rfl | rfl
 ·
  exact jhR hx hy (fun _ _ => rfl) (by rw [binOp_and]; rfl)
 ·
  exact jhR hx hy (fun _ _ => rfl) (by rw [binOp_or]; rfl)
 ·
  exact jhR hx hy (fun _ _ => rfl) (by rw [binOp_andNot]; rfl)
 exact jhR hx hy (fun _ _ => rfl) (by rw [binOp_xor]; rfl)
theorem jrL {P : Program} {n : Nat} {e : Env} {w : World} {t : TypeId} {p : String} {af : Array Edge} {d : Nat} {f : FuncId} {E : Array Value -> Sem Value} {x : Operand} {vx v : Value} {ats : Array TypeId} (hf : Ext P f E) (hx : jaD e x = some vx) (hr : ∀ w, (E #[vx]).run P w = .ok v w) :
  ∀ act, Kn n act e -> (execOp act.eval (Oper.mk (some d) (.call { callee := .value (.func f), args := #[x], argTypes := ats }) t p af none)).run P w = .ok (.value v) w := fun a ha => by
 have he : (execOp a.eval (Oper.mk (some d) (.call { callee := .value (.func f), args := #[x], argTypes := ats }) t p af none)).run P w = ((E #[a.eval x]).run P w).andThen fun v w' => .ok (.value v) w' := by
  simp [execOp, resolve, Act.eval, Deferred.ofValue, invoke, hf.run]
 rw [he, ha.eval hx, hr]
 rfl
theorem fs_val {op : BinOp} {x y r z : Nat} (h : Fs op x y r) (hz : floatBits op .f64 x y = some z) : r = z := by
 rcases h with h | ⟨h, _⟩
 ·
  rw [hz] at h; exact (Option.some.inj h).symm
 rw [hz] at h; cases h
theorem run_trunc {P : Program} {name : String} {way : Ieee.Toward} {x : Nat} (hx : jb1 x = false) (w : World) : (Extern.MathFloor.toIntegral name way #[.float .f64 x]).run P w = .ok (.float .f64 (FloatKind.f64.encode ((FloatKind.f64.decode x).integral way))) w := by
 have h : (FloatKind.f64.decode x).isNaN = false := hx
 change Sem.run P (Extern.MathFloor.toIntegral.match_1 (motive := fun _ => Sem Value) (FloatKind.f64.decode x) _ _) w = _
 cases hd : FloatKind.f64.decode x with
 | nan s t => rw [hd] at h; cases h
 | infinity s => rfl
 | number s m i => rfl
theorem run_sqrt {P : Program} {x r : Nat} (hx : FloatKind.f64.format.sqrt x = some r) (w : World) : (Extern.MathSqrt.sqrt #[.float .f64 x]).run P w = .ok (.float .f64 r) w := by
 change Sem.run P (Extern.MathSqrt.sqrt.match_1 (motive := fun _ => Sem Value) (FloatKind.f64.format.sqrt x) _ _) w = _
 rw [hx]
 rfl
theorem frung_lt {n : Nat} (hn : 1 <= n) (hn2 : n < 9007199254740992) : fRung n < 9218868437227405312 := by
 have he : n.log2 <= 52 := by
  have := (Nat.log2_lt (by omega : n ≠ 0) (k := 53)).2 (by simpa using hn2)
  omega
 obtain ⟨e, hE⟩ : ∃ e, e = n.log2 := ⟨_, rfl⟩
 have hhi : n < 2 ^ (e + 1) := by rw [hE]; exact ((Nat.log2_eq_iff (by omega)).1 rfl).2
 have hkept : n * 2 ^ (52 - e) < 9007199254740992 := by
  have h1 : n * 2 ^ (52 - e) < 2 ^ (e + 1) * 2 ^ (52 - e) := Nat.mul_lt_mul_of_pos_right hhi (Nat.two_pow_pos _)
  rw [<- Nat.pow_add, show e + 1 + (52 - e) = 53 by omega] at h1
  simpa using h1
 unfold fRung
 rw [<- hE]
 generalize n * 2 ^ (52 - e) = A at hkept
 omega
theorem perm_by {α : Type} {l m : List α} (h : ∀ c : α -> Nat, (l.map c).sum = (m.map c).sum) : l.Perm m := by
 haveI : DecidableEq α := fun a b => Classical.propDecidable (a = b)
 refine List.perm_iff_count.2 fun a => ?_
 have e : ∀ l : List α, l.count a = (l.map fun x => if x = a then 1 else 0).sum := fun l => by
  induction l with
  | nil => rfl
  | cons x l ih => rw [List.count_cons, ih, List.map_cons, List.sum_cons, Nat.add_comm]; simp
 rw [e, e]
 exact h _
theorem R_makeFunc {P : Program} {n : Nat} {e : Env} {w : World} {t : TypeId} {p : String} {af : Array Edge} {d : Nat} {fn : Fn} {xs ys : List Operand} {l l' : List Value} (hx : jdF e xs = some l) (hy : jdF e ys = some l') :
  ∀ act, Kn n act e -> (execOp act.eval (Oper.mk (some d) (.makeFunc fn xs.toArray ys.toArray) t p af none)).run P w = .ok (.value (.func fn l.toArray l'.toArray)) w := fun a ha => by
 have e1 := jdX ha hx
 have e2 := jdX ha hy
 simp only [execOp, List.map_toArray]
 rw [e1, e2]
 rfl
theorem jmB {P : Program} {n : Nat} {Q : jeG} {e : Env} {w : World} {ops : Array Oper} {rest : List Oper} {t : TypeId} {p : String} {af : Array Edge} {d : Nat} (hd : Nat.blt d n = true) {f : FuncId} {x : Operand} {first cap : List Value} {xs : List Operand} {l : List Value} {ats : Array TypeId} {R : Value -> World -> Prop} (hf : Fun P f) (hv : jaD e x = some (.func (.func f) first.toArray cap.toArray)) (hx : jdF e xs = some l) (hc : Ret P f (first ++ l ++ cap) w R)
  (h : ∀ v w', R v w' -> RL P n ops rest Q ((d, v) :: e) w') :
  RL P n ops (Oper.mk (some d) (.call { callee := .value x, args := xs.toArray, argTypes := ats }) t p af none :: rest) Q e w := by
 intro a ha
 refine wpList_plain rfl fun K hK => ?_
 have he : (execOp a.eval (Oper.mk (some d) (.call { callee := .value x, args := xs.toArray, argTypes := ats }) t p af none)).run P w = .ok (.enter f (first ++ l ++ cap).toArray) w := by
  have e1 := jdX ha hx
  simp [execOp, resolve, Deferred.ofValue, invoke, ha.eval hv, hf.run]
  rw [<- e1]
 simp only [Oper.wp, he, Oper.upon]
 refine Calls.mono hc fun ex w' hR => ?_
 obtain ⟨v, rfl, hv⟩ := hR
 exact hK _ _ (h v w' hv _ (ha.put hd v))
section
variable {P : Program} {n : Nat} {Q : jeG} {e : Env} {w : World} {c : Code}
end
abbrev Bks := List (Nat × Obj)
def NB (w w' : World) : Bks := if w'.heap.size = w.heap.size + 1 then (match w'.heap[w.heap.size]? with | some o => [(w.heap.size, o)] | none => []) else []
theorem NB_same {w w' : World} (h : w'.heap = w.heap) : NB w w' = [] := by
 unfold NB; rw [h, if_neg (by omega)]
theorem NB_alloc {w : World} {o : Obj} : NB w (w.alloc o) = [(w.heap.size, o)] := by
 have h : (w.alloc o).heap = w.heap.push o := rfl
 unfold NB; rw [h, if_pos (by simp)]; simp
section
variable {P : Program} {ops : Array Oper} {md : Region.Mode} {w0 : World} {L : Bks} {S : FuncId -> Array Value -> Value -> Bks -> Prop}
def FineB (P : Program) (w0 : World) (L : Bks) (S : FuncId -> Array Value -> Value -> Bks -> Prop) (R : Bks) (w : World) : Result Next -> Prop
 | .ok (.value _) w' => HS w0 w' ((L ++ R) ++ NB w w') /\ Own w0 (NB w w')
 | .ok .skip w' => HS w0 w' (L ++ R)
 | .ok (.enter f args) w' => Calls P f args w' (fun e w'' => ∃ v m, e = .returned v /\ S f args v m /\ HS w0 w'' ((L ++ R) ++ m) /\ Own w0 m)
 | _ => False
def MayB (S : FuncId -> Array Value -> Value -> Bks -> Prop) (w : World) : Result Next -> Value -> Bks -> Prop
 | .ok (.value u) w', v, m => u = v /\ m = NB w w'
 | .ok .skip _, v, m => v = undef /\ m = []
 | .ok (.enter f args) _, v, m => S f args v m
 | _, _, _ => False
def jg6 (P : Program) (ops : Array Oper) (w0 : World) (L : Bks) (S : FuncId -> Array Value -> Value -> Bks -> Prop) (o : Oper) (a : Act) : Prop :=
 Region.wanted o (yielded ops a.tmps) = true -> ∀ R w, Own w0 R -> HS w0 w (L ++ R) -> FineB P w0 L S R w ((execOp a.eval o).run P w)
def jhB (P : Program) (ops : Array Oper) (w0 : World) (L : Bks) (S : FuncId -> Array Value -> Value -> Bks -> Prop) (o : Oper) (a : Act) (v : Value) (m : Bks) : Prop :=
 (Region.wanted o (yielded ops a.tmps) = true /\ ∃ R w, Own w0 R /\ HS w0 w (L ++ R) /\ MayB S w ((execOp a.eval o).run P w) v m) ∨ (Region.wanted o (yielded ops a.tmps) = false /\ v = undef /\ m = [])
def hOpB (P : Program) (ops : Array Oper) (w0 : World) (L : Bks) (S : FuncId -> Array Value -> Value -> Bks -> Prop) (i : Nat) (K : Act -> Bks -> Prop) (a : Act) (M : Bks) : Prop :=
 ∀ o, ops[i]? = some o -> jg6 P ops w0 L S o a /\ ∀ v m, jhB P ops w0 L S o a v m -> Own w0 m -> K (a.put o.dst v) (M ++ m)
theorem jmH {o : Oper} {a a' : Act} (he : execOp a'.eval o = execOp a.eval o) (hw : Region.wanted o (yielded ops a'.tmps) = Region.wanted o (yielded ops a.tmps)) :
  jg6 P ops w0 L S o a' = jg6 P ops w0 L S o a /\ jhB P ops w0 L S o a' = jhB P ops w0 L S o a := by
 unfold jg6 jhB
 rw [he, hw]
 exact ⟨rfl, rfl⟩
theorem mayB_some {o : Oper} {a : Act} {w : World} {R : Bks} (hR : Own w0 R) (hw : HS w0 w (L ++ R)) (h : jg6 P ops w0 L S o a) : ∃ v m, jhB P ops w0 L S o a v m /\ Own w0 m := by
 by_cases hy : Region.wanted o (yielded ops a.tmps) = true
 ·
  have hf := h hy R w hR hw
  cases hr : (execOp a.eval o).run P w with
  | halt x w' => rw [hr] at hf; cases hf
  | ok nx w' =>
   rw [hr] at hf
   cases nx with
   | value u => exact ⟨u, NB w w', .inl ⟨hy, R, w, hR, hw, by rw [hr]; exact ⟨rfl, rfl⟩⟩, hf.2⟩
   | skip => exact ⟨undef, [], .inl ⟨hy, R, w, hR, hw, by rw [hr]; exact ⟨rfl, rfl⟩⟩, Own.nil⟩
   | enter f args =>
    obtain ⟨e, w'', fr, ⟨v, m, _, hS, _, ho⟩, _⟩ := hf []
    exact ⟨v, m, .inl ⟨hy, R, w, hR, hw, by rw [hr]; exact hS⟩, ho⟩
   | _ => cases hf
 exact ⟨undef, [], .inr ⟨by simpa using hy, rfl, rfl⟩, Own.nil⟩
theorem wpOp_of_hOpB {i : Nat} {a : Act} {w : World} {M : Bks} {K : Act -> Bks -> Prop} {K' : Act -> World -> Prop} {Q : Exit -> Act -> World -> Prop} (hi : ops[i]? ≠ none) (hM : Own w0 M) (hw : HS w0 w (L ++ M))
  (hk : ∀ a' w' M', Own w0 M' -> HS w0 w' (L ++ M') -> K a' M' -> K' a' w') (h : hOpB P ops w0 L S i K a M) : wpOp P ops Q i K' a w := by
 unfold wpOp
 cases ho : ops[i]? with
 | none => exact absurd ho hi
 | some o =>
  obtain ⟨h1, h2⟩ := h o ho
  simp only
  by_cases hy : Region.wanted o (yielded ops a.tmps) = true
  ·
   rw [if_pos hy]
   left
   have hf := h1 hy M w hM hw
   have hv : ∀ v m, MayB S w ((execOp a.eval o).run P w) v m -> Own w0 m -> K (a.put o.dst v) (M ++ m) := fun v m hv hm => h2 v m (.inl ⟨hy, M, w, hM, hw, hv⟩) hm
   unfold Oper.wp
   cases hr : (execOp a.eval o).run P w with
   | halt x w' => rw [hr] at hf; cases hf
   | ok nx w' =>
    rw [hr] at hf hv
    cases nx with
    | value u => exact hk _ _ _ (hM.app hf.2) (by rw [<- List.append_assoc]; exact hf.1) (hv u _ ⟨rfl, rfl⟩ hf.2)
    | skip => exact hk _ _ _ (hM.app Own.nil) (by rw [List.append_nil]; exact hf) (hv undef [] ⟨rfl, rfl⟩ Own.nil)
    | enter f args =>
     refine Calls.mono hf fun e w'' he => ?_
     obtain ⟨v, m, rfl, hS, hC, hm⟩ := he
     exact hk _ _ _ (hM.app hm) (by rw [<- List.append_assoc]; exact hC) (hv v m hS hm)
    | _ => cases hf
  rw [if_neg hy]
  exact hk _ _ _ (hM.app Own.nil) (by rw [List.append_nil]; exact hw) (h2 undef [] (.inr ⟨by simpa using hy, rfl, rfl⟩) Own.nil)
def AnyB (P : Program) (md : Region.Mode) (ops : Array Oper) (w0 : World) (L : Bks) (S : FuncId -> Array Value -> Value -> Bks -> Prop) (F : Array Bool -> Act -> Bks -> Prop) : Nat -> Array Bool -> Act -> Bks -> Prop
 | 0, listed, a, M => F listed a M
 | f + 1, listed, a, M => Region.ready md ops listed ≠ [] /\ ∀ i ∈ Region.ready md ops listed, hOpB P ops w0 L S i (AnyB P md ops w0 L S F f (listed.setIfInBounds i true)) a M
theorem AnyB_perm {F : Array Bool -> Act -> Bks -> Prop} (hF : ∀ listed a M M', List.Perm M M' -> F listed a M -> F listed a M') : ∀ (f : Nat) (listed : Array Bool) (a : Act) (M M' : Bks), List.Perm M M' -> AnyB P md ops w0 L S F f listed a M -> AnyB P md ops w0 L S F f listed a M'
 | 0, _, _, _, _, hp, h => hF _ _ _ _ hp h
 | f + 1, _, _, _, _, hp, h => ⟨h.1, fun i hi o ho => ⟨(h.2 i hi o ho).1, fun v m hv hm => AnyB_perm hF f _ _ _ _ (hp.append_right m) ((h.2 i hi o ho).2 v m hv hm)⟩⟩
theorem jqK {F : Array Bool -> Act -> Bks -> Prop} {Q : Exit -> Act -> World -> Prop} {g : Nat} (hF : ∀ listed a w M, Own w0 M -> HS w0 w (L ++ M) -> F listed a M -> wpAny P md ops Q g listed a w) :
  ∀ (f : Nat) (listed : Array Bool) (a : Act) (w : World) (M : Bks), Own w0 M -> HS w0 w (L ++ M) -> AnyB P md ops w0 L S F f listed a M -> wpAny P md ops Q (f + g) listed a w := by
 intro f
 induction f with
 | zero => intro listed a w M hM hw h; rw [Nat.zero_add]; exact hF _ _ _ _ hM hw h
 | succ f ih =>
  intro listed a w M hM hw h
  rw [show f + 1 + g = (f + g) + 1 by omega]
  exact ⟨fun h0 => absurd h0 h.1, fun i hi => wpOp_of_hOpB (jq0 hi) hM hw (fun a' w' M' hM' hC hK => ih _ a' w' M' hM' hC hK) (h.2 i hi)⟩
theorem AnyB_first {F : Array Bool -> Act -> Bks -> Prop} (hF : ∀ listed a M M', List.Perm M M' -> F listed a M -> F listed a M') {i : Nat} {oi : Oper} {w : World} {R : Bks} {Inv : Array Bool -> Prop} {Hd : Nat -> Prop} (hR : Own w0 R) (hw : HS w0 w (L ++ R)) (hi : ops[i]? = some oi) (hin : Hd i)
  (hsel : ∀ (j : Nat) (o : Oper) cs b, ops[j]? = some o -> o.op ≠ .select cs b)
  (hhead : ∀ listed, Inv listed -> ∀ k ∈ Region.ready md ops listed, Hd k -> ∀ j ∈ Region.ready md ops listed, Hd j) (hset : ∀ listed k, Inv listed -> k ∈ Region.ready md ops listed -> Hd k -> Inv (listed.setIfInBounds k true))
  (hdone : ∀ listed a M, F listed a M -> ∀ j ∈ Region.ready md ops listed, ¬ Hd j) :
  ∀ (f : Nat) (listed : Array Bool) (a : Act) (M : Bks), Inv listed -> i ∈ Region.ready md ops listed ->
   (∀ j oj, ops[j]? = some oj -> j ≠ i -> listed.getD j true = false -> (∀ e ∈ oj.after, Region.binds md e = true -> e.on ≠ i) -> oi.apart ops oj = true) ->
   hOpB P ops w0 L S i (AnyB P md ops w0 L S F f (listed.setIfInBounds i true)) a M -> AnyB P md ops w0 L S F (f + 1) listed a M := by
 intro f
 induction f with
 | zero =>
  intro listed a M inv hr _ H
  refine ⟨fun h => (by rw [h] at hr; cases hr), fun j hj => ?_⟩
  by_cases hji : j = i
  ·
   subst hji; exact H
  obtain ⟨h1, h2⟩ := H oi hi
  obtain ⟨v, m, hv, hm⟩ := mayB_some hR hw h1
  have h3 := hdone _ _ _ (h2 v m hv hm) j (ready_mono hj hji)
  exact absurd (hhead _ inv i hr hin j hj) h3
 | succ f ih =>
  intro listed a M inv hr hfree H
  refine ⟨fun h => (by rw [h] at hr; cases hr), fun j hj => ?_⟩
  by_cases hji : j = i
  ·
   subst hji; exact H
  obtain ⟨h1, h2⟩ := H oi hi
  have hjn := hhead _ inv i hr hin j hj
  intro oj hoj
  obtain ⟨hjun, oj', hoj', hall⟩ := mem_ready.1 hj
  have : oj' = oj := Option.some.inj (hoj'.symm.trans hoj)
  subst this
  have hun := (mem_ready.1 hr).1
  have hunf : listed.getD i false = false := getD_both hun
  have hnot : ∀ e ∈ oj'.after, Region.binds md e = true -> e.on ≠ i := fun e he hb heq => by
   have h5 := hall e he hb
   rw [heq, hunf] at h5
   cases h5
  have hap := hfree j oj' hoj hji hjun hnot
  obtain ⟨ap1, ap2, ap3⟩ := Oper.apart_spec hap
  -- each is to the other as it was
  have sj : ∀ v, jg6 P ops w0 L S oj' (a.put oi.dst v) = jg6 P ops w0 L S oj' a /\ jhB P ops w0 L S oj' (a.put oi.dst v) = jhB P ops w0 L S oj' a := fun v =>
   jmH (execOp_put oj' (fun cs b => hsel j oj' cs b hoj) a oi.dst v ap1) (wanted_put oj' a oi.dst v ap1)
  have si : ∀ u, jg6 P ops w0 L S oi (a.put oj'.dst u) = jg6 P ops w0 L S oi a /\ jhB P ops w0 L S oi (a.put oj'.dst u) = jhB P ops w0 L S oi a := fun u =>
   jmH (execOp_put oi (fun cs b => hsel i oi cs b hi) a oj'.dst u ap3) (wanted_put oi a oj'.dst u ap3)
  have step : ∀ v m, jhB P ops w0 L S oi a v m -> Own w0 m -> hOpB P ops w0 L S j (AnyB P md ops w0 L S F f ((listed.setIfInBounds i true).setIfInBounds j true)) (a.put oi.dst v) (M ++ m) := fun v m hv hm => (h2 v m hv hm).2 j (ready_mono hj hji)
  obtain ⟨v0, m0, hv0, hm0⟩ := mayB_some hR hw h1
  refine ⟨by have := (step v0 m0 hv0 hm0 oj' hoj).1; rwa [(sj v0).1] at this, fun u mu hu hmu => ?_⟩
  refine ih _ _ _ (hset _ _ inv hj hjn) (ready_mono hr (Ne.symm hji)) ?_ ?_
  ·
   intro k ok hk hki hkun hno
   refine hfree k ok hk hki ?_ hno
   by_cases hjk : j = k
   ·
    subst hjk; exact hjun
   rw [getD_set_ne true hjk] at hkun; exact hkun
  intro oi' hoi'
  have : oi' = oi := Option.some.inj (hoi'.symm.trans hi)
  subst this
  rw [(si u).1, (si u).2]
  refine ⟨h1, fun v m hv hm => ?_⟩
  have h6 := (step v m hv hm oj' hoj).2 u mu (by rw [(sj v).2]; exact hu) hmu
  rw [Array.setIfInBounds_comm _ _ hji, Act.put_comm a v u ap2] at *
  refine AnyB_perm hF f _ _ _ _ ?_ h6
  rw [List.append_assoc, List.append_assoc]
  exact List.Perm.append_left M List.perm_append_comm
def wpB (P : Program) (ops : Array Oper) (w0 : World) (L : Bks) (S : FuncId -> Array Value -> Value -> Bks -> Prop) (K : Act -> Bks -> Prop) : List Oper -> Act -> Bks -> Prop
 | [], a, M => K a M
 | o :: rest, a, M => jg6 P ops w0 L S o a /\ ∀ v m, jhB P ops w0 L S o a v m -> Own w0 m -> wpB P ops w0 L S K rest (a.put o.dst v) (M ++ m)
theorem jmQ {F : Array Bool -> Act -> Bks -> Prop} (hF : ∀ listed a M M', List.Perm M M' -> F listed a M -> F listed a M') {K : Act -> Bks -> Prop} {ps hd tl : List Nat} {w : World} {R : Bks} (hR : Own w0 R) (hw : HS w0 w (L ++ R)) (hsel : Region.noSelect ops = true)
  (hnr : ∀ listed, HdInv md ops ps tl listed -> ∀ i ∈ hd, listed.getD i true = false -> ∀ t ∈ tl, t ∉ Region.ready md ops listed)
  (hhd : ∀ listed, HdInv md ops ps tl listed -> ∀ j ∈ Region.ready md ops listed, j ∈ tl ∨ j ∈ hd) (hdis : ∀ i ∈ hd, i ∉ tl)
  (hdone : ∀ listed a M, F listed a M -> ∀ j ∈ Region.ready md ops listed, j ∈ tl) :
  ∀ (hs : List Nat) (listed : Array Bool) (a : Act) (M : Bks), (∀ i ∈ hs, i ∈ hd) -> HdInv md ops ps tl listed -> jgF md ops hs listed = true -> wpB P ops w0 L S K (hs.map (jh0 ops)) a M -> (∀ a' M', K a' M' -> F (jbN listed hs) a' M') ->
   AnyB P md ops w0 L S F hs.length listed a M
 | [], _, a, M, _, _, _, h, hk => hk a M h
 | i :: hs, listed, a, M, hin, inv, hc, h, hk => by
  simp only [jgF, Bool.and_eq_true] at hc
  obtain ⟨⟨⟨h0, h1⟩, h2⟩, h3⟩ := hc
  obtain ⟨oi, hoi⟩ := Option.isSome_iff_exists.1 h0
  have ho : jh0 ops i = oi := by simp [jh0, hoi]
  have hr : i ∈ Region.ready md ops listed := by simpa using h1
  have hih : i ∈ hd := hin i (by simp)
  obtain ⟨hf, hv⟩ := h
  rw [show jh0 ops i = oi from ho] at hf hv
  refine AnyB_first hF (Inv := HdInv md ops ps tl) (Hd := fun j => j ∈ hd) hR hw hoi hih (Region.noSelect_spec hsel) (fun l inv' k hk hkh j hj => ?_) (fun l k inv' hk hkh => inv'.set hk (hdis k hkh)) (fun l a' M' hL j hj hjh => hdis j hjh (hdone l a' M' hL j hj)) hs.length listed a M inv hr (Region.free_spec hoi h2) ?_
  ·
   rcases hhd l inv' j hj with h5 | h5
   ·
    exact absurd hj (hnr l inv' k hkh (mem_ready.1 hk).1 j h5)
   exact h5
  intro o' ho'
  have : o' = oi := Option.some.inj (ho'.symm.trans hoi)
  subst this
  exact ⟨hf, fun v m hvv hm => jmQ hF hR hw hsel hnr hhd hdis hdone hs _ _ _ (fun j hj => hin j (by simp [hj])) (inv.set hr (hdis i hih)) h3 (hv v m hvv hm) hk⟩
end
def HB (P : Program) (n : Nat) (ops : Array Oper) (w0 : World) (L : Bks) (S : FuncId -> Array Value -> Value -> Bks -> Prop) (K : Act -> Bks -> Prop) (rest : List Oper) (M : Bks) (e : Env) : Prop := ∀ a, Kn n a e -> wpB P ops w0 L S K rest a M
section
variable {P : Program} {n : Nat} {Q : jeG} {e : Env} {w w0 : World} {L M : Bks} {ops : Array Oper} {rest : List Oper} {t : TypeId} {p : String} {af : Array Edge} {S : FuncId -> Array Value -> Value -> Bks -> Prop} {K : Act -> Bks -> Prop} {g : Nat} {listed : Array Bool}
theorem jbR (ps hd tl : List Nat) (S : FuncId -> Array Value -> Value -> Bks -> Prop) {g' : Nat} (hg : Nat.beq g (ps.length + (hd.length + (tl.length + g'))) = true) (hB : chkStage ops listed ps hd tl = true) (hQ : ∀ c a w (d : Nat) v, Q (.panic c) (a.put (some d) v) w -> Q (.panic c) a w) (hs : HS w0 w L)
  (h : PL P n ops (fun a => wpB P ops w0 L S (fun a' M => ∀ w', HS w0 w' (L ++ M) -> wpList P ops (QF fun a'' w'' => wpAny P .any ops Q g' (jbN (jbN (jbN listed ps) hd) tl) a'' w'') (tl.map (jh0 ops)) a' w') (hd.map (jh0 ops)) a []) (ps.map (jh0 ops)) e) : SG P n ops Q g listed e w := by
 intro a ha
 have hg' := Nat.eq_of_beq_eq_true hg
 subst hg'
 simp only [chkStage, Bool.and_eq_true] at hB
 obtain ⟨⟨⟨⟨⟨⟨⟨⟨⟨⟨⟨⟨hsel, hps⟩, hdst⟩, hcl⟩, htu⟩, hwt⟩, hpl⟩, hdis⟩, hhs⟩, hl0⟩, htl⟩, hct⟩, hhb⟩ := hB
 obtain ⟨tl', htl'⟩ : ∃ tl', tl' = tl ++ jqZ ops listed ps hd tl := ⟨_, rfl⟩
 rw [<- htl'] at htu hwt hdis
 have hs0 : HS w0 w (L ++ []) := by rw [List.append_nil]; exact hs
 refine jhZ hsel hQ ps _ a hps (fun i hi => List.all_eq_true.1 hdst i hi) (h a ha) fun a1 h1 => ?_
 obtain ⟨prev, hprev⟩ : ∃ prev, prev = (List.range ops.size).filter fun i => listed.getD i false := ⟨_, rfl⟩
 have inv : HdInv .any ops (ps ++ prev) tl' (jbN listed ps) := ⟨fun i hi => by
  rcases List.mem_append.1 hi with hi | hi
  ·
   exact List.all_eq_true.1 hpl i hi
  rw [hprev] at hi
  obtain ⟨h5, h6⟩ := List.mem_filter.1 hi
  have := List.all_eq_true.1 hl0 i h5
  rw [h6] at this
  simpa using this, closed_of hcl, fun t ht => by simpa using List.all_eq_true.1 htu t ht⟩
 by_cases hemp : hd = []
 ·
  subst hemp
  rw [List.length_nil, Nat.zero_add]
  exact jhY tl _ a1 w (fun i hi => List.all_eq_true.1 htl i hi) hct (h1 w hs0)
 have hwt' : chkW .any ops hd tl' = true := by
  simp only [Bool.or_eq_true, List.isEmpty_iff, hemp, false_or] at hwt
  exact hwt
 have hdis' : ∀ i ∈ hd, i ∉ tl' := fun i hi hm => by
  have := List.all_eq_true.1 hdis i hi
  simp [hm] at this
 have hnr : ∀ l', HdInv .any ops (ps ++ prev) tl' l' -> ∀ i ∈ hd, l'.getD i true = false -> ∀ t ∈ tl', t ∉ Region.ready .any ops l' := by
  intro l' inv' i hi hun t ht hr
  obtain ⟨_, o, ho, hall⟩ := mem_ready.1 hr
  have hp : ∀ o', ops[t]? = some o' -> ∀ e ∈ o'.after, Region.binds .any e = true -> l'.getD e.on false = true := fun o' ho' => by
   have : o' = o := Option.some.inj (ho'.symm.trans ho)
   subst this; exact hall
  cases htt : tl' with
  | nil => rw [htt] at ht; cases ht
  | cons t1 r =>
   rw [htt] at hwt' ht
   simp only [chkW, Bool.and_eq_true] at hwt'
   rcases List.mem_cons.1 ht with rfl | ht'
   ·
    have h5 := jfR inv'.closed _ _ _ (List.all_eq_true.1 hwt'.1 i hi) hp
    rw [getD_both hun] at h5; cases h5
   have h5 := jfR inv'.closed _ _ _ (List.all_eq_true.1 hwt'.2 t ht') hp
   rw [getD_both (inv'.tail t1 (by rw [htt]; simp))] at h5; cases h5
 have hdt : ∀ l', HdInv .any ops (ps ++ prev) tl' l' -> ∀ j ∈ Region.ready .any ops l', j ∈ tl' ∨ j ∈ hd := fun l' hp j hj => by
  obtain ⟨hun, o, ho, _⟩ := mem_ready.1 hj
  have hjs := (Array.getElem?_eq_some_iff.1 ho).1
  by_cases h5 : j ∈ ps ++ prev
  ·
   rw [hp.pure j h5] at hun; cases hun
  by_cases h7 : j ∈ hd
  ·
   exact .inr h7
  left
  rw [htl', List.mem_append]
  by_cases h8 : j ∈ tl
  ·
   exact .inl h8
  right
  unfold jqZ
  rw [List.mem_filter]
  refine ⟨List.mem_range.2 hjs, ?_⟩
  rw [List.mem_append, not_or, hprev, List.mem_filter, not_and] at h5
  have h9 := h5.2 (List.mem_range.2 hjs)
  simp [h5.1, h7, h8, h9]
 have hready : ∀ j ∈ Region.ready .any ops (jbN (jbN listed ps) hd), j ∈ tl' ∨ j ∈ hd := by
  intro j hj
  obtain ⟨hun, o, ho, _⟩ := mem_ready.1 hj
  have hjs := (Array.getElem?_eq_some_iff.1 ho).1
  by_cases h7 : j ∈ hd
  ·
   exact .inr h7
  left
  rw [htl', List.mem_append]
  by_cases h8 : j ∈ tl
  ·
   exact .inl h8
  right
  unfold jqZ
  rw [List.mem_filter]
  refine ⟨List.mem_range.2 hjs, ?_⟩
  have h5 : j ∉ ps ++ prev := fun h5 => by
   have := jk3 (l := hd) (inv.pure j h5)
   rw [this] at hun; cases hun
  rw [List.mem_append, not_or, hprev, List.mem_filter, not_and] at h5
  have h9 := h5.2 (List.mem_range.2 hjs)
  simp [h5.1, h7, h8, h9]
 have H := jmQ (P := P) (S := S) (md := .any) (F := fun listed' a' M => listed' = jbN (jbN listed ps) hd /\ (∀ w', HS w0 w' (L ++ M) -> wpList P ops (QF fun a'' w'' => wpAny P .any ops Q g' (jbN (jbN (jbN listed ps) hd) tl) a'' w'') (tl.map (jh0 ops)) a' w'))
  (fun l' a' M M' hp hL => ⟨hL.1, fun w' hw' => hL.2 w' (hw'.mem_perm (List.Perm.append_left L hp.symm))⟩) (hd := hd) (tl := tl') (R := []) Own.nil hs0 hsel hnr hdt hdis'
  (fun l' a' M hL j hj => by
   rw [hL.1] at hj
   rcases hready j hj with h5 | h5
   ·
    exact h5
   exfalso
   have := (mem_ready.1 hj).1
   rw [jp3 (l := hd) (listed := jbN listed ps) h5 ] at this
   cases this)
  hd _ a1 [] (fun i hi => hi) inv hhs h1 (fun a2 M2 h2 => ⟨rfl, h2⟩)
 exact jqK (Q := Q) (g := tl.length + g') (fun l' a' w' M hM hw' hL => by
  rw [hL.1]
  exact jhY tl _ a' w' (fun i hi => List.all_eq_true.1 htl i hi) hct (hL.2 w' hw')) _ _ _ _ [] Own.nil hs0 H
theorem jd0 {hd : List Oper} (h : HB P n ops w0 L S K hd [] e) : PL P n ops (fun a => wpB P ops w0 L S K hd a []) [] e := fun a ha => h a ha
theorem jcU {l : List Oper} (h : ∀ w', HS w0 w' (L ++ M) -> RL P n ops l Q e w') : HB P n ops w0 L S (fun a' M => ∀ w', HS w0 w' (L ++ M) -> wpList P ops Q l a' w') [] M e := fun a ha w' hw' => h w' hw' a ha
theorem HB_set {d : Nat} {op : Op} (φ : Value -> Prop) (hd : Nat.blt d n = true) (hr : ∀ w R, Own w0 R -> HS w0 w (L ++ R) -> ∀ a, Kn n a e -> ∃ v w', (execOp a.eval (Oper.mk (some d) op t p af none)).run P w = .ok (.value v) w' /\ w'.heap = w.heap /\ HS w0 w' (L ++ R) /\ φ v)
  (h : ∀ v, φ v -> HB P n ops w0 L S K rest M ((d, v) :: e)) : HB P n ops w0 L S K (Oper.mk (some d) op t p af none :: rest) M e := by
 intro a ha
 refine ⟨fun _ R w hR hw => ?_, fun v m hv hm => ?_⟩
 ·
  obtain ⟨v, w', h1, h2, h3, _⟩ := hr w R hR hw a ha
  rw [h1]
  show HS w0 w' ((L ++ R) ++ NB w w') /\ Own w0 (NB w w')
  rw [NB_same h2, List.append_nil]
  exact ⟨h3, Own.nil⟩
 rcases hv with ⟨_, R, w, hR, hw, hm⟩ | ⟨hx, _⟩
 ·
  obtain ⟨u, w', h1, h2, _, h3⟩ := hr w R hR hw a ha
  rw [h1] at hm
  obtain ⟨rfl, rfl⟩ : u = v /\ m = NB w w' := hm
  rw [NB_same h2, List.append_nil]
  exact h u h3 _ (ha.put hd u)
 simp [Region.wanted] at hx
theorem jaP {d : Nat} {op : Op} {v : Value} (hd : Nat.blt d n = true) (hr : ∀ w R, Own w0 R -> HS w0 w (L ++ R) -> ∀ a, Kn n a e -> (execOp a.eval (Oper.mk (some d) op t p af none)).run P w = .ok (.value v) w)
  (h : HB P n ops w0 L S K rest M ((d, v) :: e)) : HB P n ops w0 L S K (Oper.mk (some d) op t p af none :: rest) M e :=
 HB_set (φ := fun u => u = v) hd (fun w R hR hw a ha => ⟨v, w, hr w R hR hw a ha, rfl, hw, rfl⟩) (fun _ hu => by subst hu; exact h)
theorem HB_new {d : Nat} {op : Op} {V : Nat -> Value} {o : Obj} (hd : Nat.blt d n = true) (hr : ∀ w a, Kn n a e -> (execOp a.eval (Oper.mk (some d) op t p af none)).run P w = .ok (.value (V w.heap.size)) (w.alloc o))
  (h : ∀ b, w0.heap.size <= b -> HB P n ops w0 L S K rest (M ++ [(b, o)]) ((d, V b) :: e)) : HB P n ops w0 L S K (Oper.mk (some d) op t p af none :: rest) M e := by
 intro a ha
 refine ⟨fun _ R w hR hw => ?_, fun v m hv hm => ?_⟩
 ·
  rw [hr w a ha]
  show HS w0 (w.alloc o) ((L ++ R) ++ NB w (w.alloc o)) /\ Own w0 (NB w (w.alloc o))
  rw [NB_alloc]
  exact ⟨hw.alloc o, Own.cons hw.size Own.nil⟩
 rcases hv with ⟨_, R, w, hR, hw, hm⟩ | ⟨hx, _⟩
 ·
  rw [hr w a ha] at hm
  obtain ⟨rfl, rfl⟩ : V w.heap.size = v /\ m = NB w (w.alloc o) := hm
  rw [NB_alloc]
  exact h _ hw.size _ (ha.put hd _)
 simp [Region.wanted] at hx
theorem jbV {d : Nat} {op : BinOp} {T T' : TypeId} {x y : Operand} {i j : Nat} (hd : Nat.blt d n = true) (hop : jh7 op = true) (hx : jaD e x = some (.float .f64 i)) (hy : jaD e y = some (.float .f64 j))
  (h : ∀ r, (floatBits op .f64 i j = some r ∨ (floatBits op .f64 i j = none /\ jb1 r = true)) -> HB P n ops w0 L S K rest M ((d, .float .f64 r) :: e)) :
  HB P n ops w0 L S K (Oper.mk (some d) (.binOp op T x y T') t p af none :: rest) M e := by
 refine HB_set (φ := fun u => ∃ r, u = .float .f64 r /\ (floatBits op .f64 i j = some r ∨ (floatBits op .f64 i j = none /\ jb1 r = true))) hd (fun w R hR hw a ha => ?_) (fun u hu => ?_)
 ·
  obtain ⟨r, k, hr, hs⟩ := jm1 P w op i j hop
  have hb : binOp op T (.float .f64 i) (.float .f64 j) = Op.floatArith op .f64 i j := by cases op <;> simp [jh7] at hop <;> simp [binOp]
  exact ⟨.float .f64 r, w.drewN k, by simp [execOp, ha.eval hx, ha.eval hy, eqGuard_at_float, hb, hr], rfl, hw.drewN k, r, rfl, hs⟩
 obtain ⟨r, rfl, hs⟩ := hu
 exact h r hs
theorem HB_call {d : Nat} (hd : Nat.blt d n = true) {f : FuncId} {xs : List Operand} {l : List Value} {ats : Array TypeId} (hf : Fun P f) (hx : jdF e xs = some l)
  (hc : ∀ w R, Own w0 R -> HS w0 w (L ++ R) -> Ret P f l w (fun v w' => ∃ m, S f l.toArray v m /\ HS w0 w' ((L ++ R) ++ m) /\ Own w0 m))
  (h : ∀ v m, S f l.toArray v m -> Own w0 m -> HB P n ops w0 L S K rest (M ++ m) ((d, v) :: e)) : HB P n ops w0 L S K (Oper.mk (some d) (.call { callee := .value (.func f), args := xs.toArray, argTypes := ats }) t p af none :: rest) M e := by
 intro a ha
 have he : ∀ w, (execOp a.eval (Oper.mk (some d) (.call { callee := .value (.func f), args := xs.toArray, argTypes := ats }) t p af none)).run P w = .ok (.enter f l.toArray) w := fun w => by
  simp [execOp, resolve, Act.eval, Deferred.ofValue, invoke, hf.run]
  rw [<- jdX ha hx]
 refine ⟨fun _ R w hR hw => ?_, fun v m hv hm => ?_⟩
 ·
  rw [he w]
  refine Calls.mono (hc w R hR hw) fun ex w' hx => ?_
  obtain ⟨v, rfl, m, h1, h2, h3⟩ := hx
  exact ⟨v, m, rfl, h1, h2, h3⟩
 rcases hv with ⟨_, R, w, hR, hw, hm'⟩ | ⟨hx, _⟩
 ·
  rw [he w] at hm'
  exact h v m hm' hm _ (ha.put hd v)
 simp [Region.wanted] at hx
def jmZ (S0 : FuncId -> Array Value -> Value -> Prop) : FuncId -> Array Value -> Value -> Bks -> Prop := fun f a v m => S0 f a v /\ m = []
theorem jc5 {S0 : FuncId -> Array Value -> Value -> Prop} {d : Nat} (hd : Nat.blt d n = true) {f : FuncId} {xs : List Operand} {l : List Value} {ats : Array TypeId} (hf : Fun P f) (hx : jdF e xs = some l)
  (hc : ∀ w R, Own w0 R -> HS w0 w (L ++ R) -> Ret P f l w (fun v w' => S0 f l.toArray v /\ HS w0 w' (L ++ R)))
  (h : ∀ v, S0 f l.toArray v -> HB P n ops w0 L (jmZ S0) K rest M ((d, v) :: e)) : HB P n ops w0 L (jmZ S0) K (Oper.mk (some d) (.call { callee := .value (.func f), args := xs.toArray, argTypes := ats }) t p af none :: rest) M e :=
 HB_call hd hf hx (fun w R hR hw => Calls.mono (hc w R hR hw) fun ex w' hx => by
  obtain ⟨v, rfl, h1, h2⟩ := hx
  exact ⟨v, rfl, [], ⟨h1, rfl⟩, by rw [List.append_nil]; exact h2, Own.nil⟩) (fun v m hv _ => by
  obtain ⟨h1, rfl⟩ := hv
  rw [List.append_nil]; exact h v h1)
theorem jhT {d sz : Nat} {T E : TypeId} {len : Nat} {xs : List (Nat × Operand)} {l : List (Nat × Value)} {z : Value} {b : Nat} (hT : P.underlying T = some (.slice E)) (hi : TI P E z sz b)
  (hx : jf6 e xs = some l) (hsz : ¬ (len * sz > 16777216)) (hidx : l.map (·.1) = List.range' 0 len) (hc : ∀ q ∈ l, q.2.cells.size = sz) : ∀ a, Kn n a e -> (execOp a.eval (Oper.mk (some d) (.buildSlice T len xs.toArray) t p af none)).run P w = .ok (.value (.slice (some ⟨w.heap.size, 0, none⟩) len len)) (w.alloc (Row E (l.flatMap fun q => q.2.cells.toList))) := by
 intro a ha
 have hl := jfL ha hx
 have hlen : l.length = len := by have := congrArg List.length hidx; simpa using this
 have hf : ∀ (A : Array Value), A.size = len * sz -> Instr.fill (fun i => some (i * sz, sz)) A l = some (l.flatMap fun q => q.2.cells.toList).toArray := fun A hA => by
  have := jr9 sz l 0 [] A.toList (by rw [hlen]; exact hidx) hc (by simp) (by rw [hlen]; simpa using hA)
  simpa using this
 by_cases h0 : len * sz = 0
 ·
  have hf' := hf (Array.map (fun _ => (default : Value)) (Array.range 0)) (by simp [h0])
  simp [execOp, Instr.buildSlice, run_underlying hT, hi.sizeOf, h0, newRow]
  simp [hl, hf']
 have hf' := hf (Array.map (fun x => z.cells[x % z.cells.size]!) (Array.range (len * sz))) (by simp)
 simp [execOp, Instr.buildSlice, run_underlying hT, hi.sizeOf, h0, newRow, hsz, hi.zero]
 simp [hl, hf']
theorem jpV {d : Nat} (hd : Nat.blt d n = true) {T E : TypeId} {len : Nat} {xs : List (Nat × Operand)} {l : List (Nat × Value)} {z : Value} {b : Nat} (hT : P.underlying T = some (.slice E)) (hi : TI P E z 1 b)
  (hx : jf6 e xs = some l) (hsz : ¬ (len * 1 > 16777216)) (hidx : l.map (·.1) = List.range' 0 len) (h1 : l.all (fun q => q.2.oneCell') = true)
  (h : ∀ g, w0.heap.size <= g -> HB P n ops w0 L S K rest (M ++ [(g, Row E (l.map (·.2)))]) ((d, .slice (some ⟨g, 0, none⟩) len len) :: e)) :
  HB P n ops w0 L S K (Oper.mk (some d) (.buildSlice T len xs.toArray) t p af none :: rest) M e :=
 HB_new (V := fun g => .slice (some ⟨g, 0, none⟩) len len) hd (fun _ a ha => jhT hT hi hx hsz hidx (fun q hq => by rw [jh8 (List.all_eq_true.1 h1 q hq)]; rfl) a ha) (fun g hg => by rw [flat_one h1]; exact h g hg)
theorem jkV {d : Nat} (hd : Nat.blt d n = true) {T E : TypeId} {len sz : Nat} {xs : List (Nat × Operand)} {l : List (Nat × Value)} {z : Value} {b : Nat} (hT : P.underlying T = some (.slice E)) (hi : TI P E z sz b)
  (hx : jf6 e xs = some l) (hsz : ¬ (len * sz > 16777216)) (hidx : l.map (·.1) = List.range' 0 len) (hc : ∀ q ∈ l, q.2.cells.size = sz)
  (h : ∀ g, w0.heap.size <= g -> HB P n ops w0 L S K rest (M ++ [(g, Row E (l.flatMap fun q => q.2.cells.toList))]) ((d, .slice (some ⟨g, 0, none⟩) len len) :: e)) :
  HB P n ops w0 L S K (Oper.mk (some d) (.buildSlice T len xs.toArray) t p af none :: rest) M e :=
 HB_new (V := fun g => .slice (some ⟨g, 0, none⟩) len len) hd (fun _ a ha => jhT hT hi hx hsz hidx hc a ha) h
end
theorem fold_put (off : Nat) : ∀ (vs : List Value) (j : Nat) (cs : List Value), off + j + vs.length <= cs.length ->
  (vs.zipIdx j).foldl (fun (A : Array Value) (x : Value × Nat) => match x with | (c, j) => A.setIfInBounds (off + j) c) cs.toArray = (cs.take (off + j) ++ vs ++ cs.drop (off + j + vs.length)).toArray
 | [], j, cs, h => by simp
 | v :: vs, j, cs, h => by
  have hl : off + (j + 1) + vs.length <= (cs.set (off + j) v).length := by simp at h ⊢; omega
  have ih := fold_put off vs (j + 1) (cs.set (off + j) v) hl
  simp only [List.zipIdx_cons, List.foldl_cons]
  rw [List.setIfInBounds_toArray, ih]
  congr 1
  have e1 : (cs.set (off + j) v).take (off + (j + 1)) = cs.take (off + j) ++ [v] := by
   simp at h
   rw [List.take_set, show off + (j + 1) = off + j + 1 by omega, List.take_add_one, List.getElem?_eq_getElem (by omega)]
   rw [List.set_append_right _ _ (by simp; omega)]
   simp only [List.length_take]
   rw [Nat.min_eq_left (by omega), Nat.sub_self]; rfl
  have e2 : (cs.set (off + j) v).drop (off + (j + 1) + vs.length) = cs.drop (off + j + (v :: vs).length) := by
   rw [List.drop_set_of_lt (by omega)]; congr 1; simp; omega
  rw [e1, e2]
  simp
def putN (pl : List (Nat × Nat)) : List Value -> List (Nat × Value) -> Option (List Value)
 | cs, [] => some cs
 | cs, (i, v) :: l => match pl[i]? with
  | some (off, sz) => match Nat.beq v.cells.toList.length sz, Nat.ble (off + sz) cs.length with
   | true, true => putN pl (cs.take off ++ v.cells.toList ++ cs.drop (off + sz)) l
   | _, _ => none
  | none => none
theorem fill_putN (pl : List (Nat × Nat)) : ∀ (l : List (Nat × Value)) (cs r : List Value), putN pl cs l = some r -> Instr.fill (pl.toArray[·]?) cs.toArray l = some r.toArray
 | [], cs, r, h => by simp [putN] at h; subst h; simp [Instr.fill]
 | (i, v) :: l, cs, r, h => by
  simp only [putN] at h
  cases hp : pl[i]? with
  | none => rw [hp] at h; cases h
  | some q =>
   obtain ⟨off, sz⟩ := q
   rw [hp] at h
   dsimp only at h
   split at h
   case h_2 => cases h
   case h_1 h2 h3 =>
    have h2' : v.cells.toList.length = sz := Nat.eq_of_beq_eq_true h2
    have h3' : off + sz <= cs.length := Nat.le_of_ble_eq_true h3
    subst h2'
    have ih := fill_putN pl l _ r h
    have h5 : pl.toArray[i]? = some (off, v.cells.toList.length) := by simpa using hp
    have h6 := fold_put off v.cells.toList 0 cs (by omega)
    simp only [Instr.fill, h5]
    rw [if_neg (by simp at h3' ⊢; omega)]
    rw [<- ih]
    congr 1
    rw [<- Array.foldl_toList, Array.toList_zipIdx]
    simpa using h6
theorem Pl.builtN {P : Program} {T : TypeId} {z : List Value} {pl : List (Nat × Nat)} (h : Pl P T z pl) {l : List (Nat × Value)} {r : List Value} (hr : putN pl z l = some r) : P.built T l = some r.toArray := by
 obtain ⟨i, fs, h1, h2, h3, h4⟩ := h.ex
 unfold Program.built
 rw [h1, h3]
 dsimp only
 rw [h2, h4]
 exact fill_putN pl l z r hr
theorem R_sliceNil {P : Program} {n : Nat} {e : Env} {w : World} {t : TypeId} {p : String} {af : Array Edge} {d : Nat} {T E T' : TypeId} {x y : Operand} {ao : Option Addr} {l c l' c' : Nat} (hT : P.underlying T = some (.slice E)) (hx : jaD e x = some (.slice ao l c)) (hy : jaD e y = some (.slice none l' c')) :
  ∀ act, Kn n act e -> (execOp act.eval (Oper.mk (some d) (.binOp .eql T x y T') t p af none)).run P w = .ok (.value (.bool ao.isNone)) w :=
 jhR hx hy (fun _ _ => eqGuard_at_slice ..) (Lib.run_eql_slice_nil w T E ao l c l' c' hT)
theorem R_ftoi {P : Program} {n : Nat} {e : Env} {w : World} {t : TypeId} {p : String} {af : Array Edge} {d : Nat} {S D : TypeId} {x : Operand} {k : IntKind} {q : FloatKind} {b : Nat} {m : Int} {s : TypeDesc} (hS : P.underlying S = some s) (hD : P.underlying D = some (.int k)) (hx : jaD e x = some (.float q b)) (hm : floatToIntVal q b k = some m) :
  ∀ act, Kn n act e -> (execOp act.eval (Oper.mk (some d) (.convert S D x) t p af none)).run P w = .ok (.value (.int k m)) w := fun a ha => by
 have := run_convert_float_int (P := P) (w := w) S D q k b m (by simp [hS]) hD hm
 simp [execOp, ha.eval hx, this]
theorem SlC.sub {w : World} {a : Option Addr} {cs : List Value} (h : SlC w a cs) {off : Nat} {xs : List Value} (hx : ∀ q v, xs[q]? = some v -> cs[off + q]? = some v) : jbF w ((aD a).add off) xs := fun q v hv => by
 rw [jaR]; exact h.2 _ v (hx q v hv)
inductive Kept (E : TypeId) (xs : List Value) (M : Bks) : Bks -> Bks -> Prop
 | inplace {g : Nat} {sp news sp' : List Value} (h : M = [(g, Row E (xs ++ sp))] := by rfl) : Kept E xs M [(g, Row E (xs ++ news ++ sp'))] []
 | all {M' : Bks} : Kept E xs M M' M
def KV (E : TypeId) (ks : List Value) (ka : Option Addr) (N : Bks) : Prop := ks = [] ∨ ∃ g cs, ka = some ⟨g, 0, none⟩ /\ (g, Row E (ks ++ cs)) ∈ N
theorem KV.mono {E : TypeId} {ks : List Value} {ka : Option Addr} {N N' : Bks} (h : KV E ks ka N) (hN : ∀ p ∈ N, p ∈ N') : KV E ks ka N' := by
 rcases h with rfl | ⟨g, cs, rfl, hm⟩
 ·
  exact .inl rfl
 exact .inr ⟨g, cs, rfl, hN _ hm⟩
theorem KV.step {E : TypeId} {ks rest xs : List Value} {ka : Option Addr} {M M' K K' : Bks} (h : KV E ks ka (M ++ K)) (hk : Kept E xs M M' K') (hx : xs = ks ++ rest) : KV E ks ka (M' ++ (K' ++ K)) := by
 rcases h with rfl | ⟨g, cs, rfl, hm⟩
 ·
  exact .inl rfl
 right
 rcases List.mem_append.1 hm with h1 | h1
 ·
  cases hk with
  | @inplace g' sp news sp' hM =>
   rw [hM, List.mem_singleton, Prod.mk.injEq] at h1
   obtain ⟨rfl, _⟩ := h1
   exact ⟨g, rest ++ news ++ sp', rfl, by rw [hx]; simp⟩
  | all => exact ⟨g, cs, rfl, List.mem_append_right _ (List.mem_append_left _ h1)⟩
 exact ⟨g, cs, rfl, List.mem_append_right _ (List.mem_append_right _ h1)⟩
section
variable {P : Program} {n : Nat} {Q : jeG} {e : Env} {w w0 : World} {L : Bks} {ops : Array Oper} {rest : List Oper} {t : TypeId} {p : String} {af : Array Edge}
end
section
variable {P : Program} {n : Nat} {Q : jeG} {e : Env} {w w0 : World} {L : Bks} {ops : Array Oper} {rest : List Oper} {t : TypeId} {p : String} {af : Array Edge}
end
end Go.Lk

namespace Go.Lk
open Go Go.Deep
section
variable {H : Type} {enc : TypeId × Value -> H} {P : Program} {w : World} {base : Nat} {spare : Nat -> Bool} {held : Bool} {fuel : Nat} {t : TypeId} {cs : List Value} {x : DataW H × List MemPlace} {fs : Array Field}
end

section
variable {H : Type} {enc : TypeId × Value -> H} {P : Program} {w : World} {base : Nat} {spare : Nat -> Bool} {held : Bool} {fuel : Nat} {t e : TypeId} {cs : List Value} {x : DataW H × List MemPlace}
end
end Go.Lk

namespace Go.Lk
open Go
def putE : Option Tmp -> Value -> Env -> Env
 | some d, v, E => (d, v) :: E
 | none, _, E => E
theorem jmE {o : Option Tmp} {d : Nat} {v : Value} {E : Env} (h : o ≠ some d) : look (putE o v E) d = look E d := by
 cases o with
 | none => rfl
 | some e =>
  show look ((e, v) :: E) d = _
  rw [jdU, if_neg (fun hq => h (by rw [hq]))]
structure RInO (n : Nat) (l : List Oper) (e0 : Env) (w0 : World) (L : List (Nat × Obj)) (Φ : (Nat -> Value) -> Nat -> Value -> List (Nat × Obj) -> Prop) (cons : Nat -> List Nat) (listed : Array Bool) (a : Act) (w : World) (V : Nat -> Value) (M : Nat -> List (Nat × Obj)) (E : Env) (own : List Nat) : Prop where
 kn : Kn n a E
 old : ∀ d v, look e0 d = some v -> (∀ (k : Nat) (o : Oper), l[k]? = some o -> o.dst ≠ some d) -> look E d = some v
 new : ∀ (k : Nat) (o : Oper) (d : Nat), l[k]? = some o -> o.dst = some d -> listed.getD k false = true -> look E d = some (V k)
 fact : ∀ k, listed.getD k false = true -> Φ V k (V k) (M k) /\ Own w0 (M k)
 hs : HS w0 w (L ++ own.flatMap M)
 nodup : own.Nodup
 closed : ∀ (j : Nat) (o : Oper), l[j]? = some o -> listed.getD j false = true -> ∀ e ∈ o.after, Region.binds .any e = true -> listed.getD e.on false = true
 ownd : ∀ k, k ∈ own ↔ (k < l.length /\ listed.getD k false = true /\ ∀ j, j < l.length -> listed.getD j false = true -> k ∉ cons j)
section
variable {κ ν : Type}
def jcD (ek : κ -> Value) (ev : ν -> Value) (l : List (κ × ν × Nat)) : List MapEntry := l.map fun x => ⟨ek x.1, ev x.2.1, x.2.2⟩
abbrev jeY (ek : κ -> Value) (ev : ν -> Value) (l : List (κ × ν × Nat)) (ck : Nat) : Obj := .map (jcD ek ev l).toArray ck
abbrev ItO (m since : Nat) (seen : List Nat) (c : Nat) : Obj := .mapIter (some m) since seen.toArray c
variable [DecidableEq κ]
def mget (k : κ) : List (κ × ν × Nat) -> Option ν
 | [] => none
 | x :: r => if x.1 = k then some x.2.1 else mget k r
def mput (k : κ) (v : ν) (ck : Nat) : List (κ × ν × Nat) -> List (κ × ν × Nat)
 | [] => [(k, v, ck)]
 | x :: r => if x.1 = k then (k, v, x.2.2) :: r else x :: mput k v ck r
def mdel (k : κ) : List (κ × ν × Nat) -> List (κ × ν × Nat)
 | [] => []
 | x :: r => if x.1 = k then r else x :: mdel k r
def mclk (k : κ) (ck : Nat) (l : List (κ × ν × Nat)) : Nat := if (mget k l).isSome then ck else ck + 1
def jm7 (k : κ) : List (κ × ν × Nat) -> Nat -> Option (Nat × ν)
 | [], _ => none
 | x :: r, i => if x.1 = k then some (i, x.2.1) else jm7 k r (i + 1)
theorem jnZ (k : κ) : ∀ (l : List (κ × ν × Nat)) (i : Nat), (jm7 k l i).map (·.2) = mget k l
 | [], _ => rfl
 | x :: r, i => by
  unfold jm7 mget
  split
  ·
   rfl
  exact jnZ k r (i + 1)
theorem jm6 {k : κ} : ∀ {l : List (κ × ν × Nat)} {i : Nat}, jm7 k l i = none -> mdel k l = l /\ ∀ v ck, mput k v ck l = l ++ [(k, v, ck)]
 | [], _, _ => ⟨rfl, fun _ _ => rfl⟩
 | x :: r, i, h => by
  unfold jm7 at h
  split at h
  ·
   cases h
  next hx =>
  obtain ⟨h1, h2⟩ := jm6 h
  exact ⟨by unfold mdel; rw [if_neg hx, h1], fun v ck => by unfold mput; rw [if_neg hx, h2]; rfl⟩
theorem jm5 {k : κ} : ∀ {l : List (κ × ν × Nat)} {i j : Nat} {v : ν}, jm7 k l i = some (j, v) -> ∃ q, j = i + q /\ q < l.length /\ mdel k l = l.eraseIdx q /\ (∃ x, l[q]? = some x /\ x.1 = k) /\ ∀ u ck, mput k u ck l = l.modify q fun x => (k, u, x.2.2)
 | [], _, _, _, h => by cases h
 | x :: r, i, j, v, h => by
  unfold jm7 at h
  split at h
  ·
   next hx =>
   cases h
   exact ⟨0, rfl, by simp, by unfold mdel; rw [if_pos hx]; rfl, ⟨x, rfl, hx⟩, fun u ck => by unfold mput; rw [if_pos hx]; rfl⟩
  next hx =>
  obtain ⟨q, h1, h2, h3, ⟨y, hy, hyk⟩, h4⟩ := jm5 h
  exact ⟨q + 1, by omega, by simp; omega, by unfold mdel; rw [if_neg hx, h3]; rfl, ⟨y, by simpa using hy, hyk⟩, fun u ck => by unfold mput; rw [if_neg hx, h4]; rfl⟩
structure KeyT (P : Program) (kt : TypeId) (ek : κ -> Value) : Prop where
 find : ∀ {ν : Type} (ev : ν -> Value) (k : κ) (l : List (κ × ν × Nat)) (w : World), (Instr.findKey kt (ek k) (jcD ek ev l)).run P w = .ok ((jm7 k l 0).map fun q => (q.1, ev q.2)) w
 check : ∀ (em : Bool) (k : κ) (w : World), (Instr.checkKey em 10000 kt (ek k)).run P w = .ok () w
 same : ∀ k, Instr.sameBits 10000 (ek k) (ek k) = true
end
theorem jp8 {ν : Type} (ev : ν -> Value) (q : IntKind) (k : Int) : ∀ (l : List (Int × ν × Nat)) (i : Nat), Instr.findNow (.int q) (.int q k) (jcD (.int q) ev l) i = some ((jm7 k l i).map fun z => (z.1, ev z.2))
 | [], i => rfl
 | x :: r, i => by
  show Instr.findNow (.int q) (.int q k) (⟨.int q x.1, ev x.2.1, x.2.2⟩ :: jcD (.int q) ev r) i = _
  have e : Instr.sameNow (.int q) (.int q k) (.int q x.1) = some (k == x.1) := by simp [Instr.sameNow]
  unfold Instr.findNow jm7
  simp only [e]
  by_cases h : x.1 = k
  ·
   subst h; simp
  have h' : (k == x.1) = false := by simp; exact fun hh => h hh.symm
  rw [h', if_neg h]
  exact jp8 ev q k r (i + 1)
theorem KeyT.int {P : Program} {kt : TypeId} {q : IntKind} (hk : P.underlying kt = some (.int q)) : KeyT P kt (Value.int q) where
 find ev k l w := Go.MapKept.run_findKey hk (jp8 ev q k l 0)
 check em k w := by unfold Instr.checkKey; simp only [Sem.run_bind, run_underlying hk, Result.andThen]; rfl
 same k := by simp [Instr.sameBits]
def pk (k : Int × Int) : Value := .agg #[.int .i64 k.1, .int .i64 k.2]
structure PairT (P : Program) (t : TypeId) : Prop where
 ex : ∃ f g : Field, P.underlying t = some (.struct (P.fieldsOf t)) /\ P.fieldsOf t = #[f, g] /\ f.name ≠ "_" /\ g.name ≠ "_" /\ f.offset = 0 /\ g.offset = 1 /\ P.underlying f.type = some (.int .i64) /\ P.underlying g.type = some (.int .i64) /\ P.stoodInHeld t = false
theorem PairT.of {P : Program} {t : TypeId} {f g : Field} (hu : P.underlying t = some (.struct #[f, g])) (h1 : f.name ≠ "_") (h2 : g.name ≠ "_") (h3 : f.offset = 0) (h4 : g.offset = 1) (h5 : P.underlying f.type = some (.int .i64)) (h6 : P.underlying g.type = some (.int .i64)) (h7 : P.stoodInHeld t = false) : PairT P t :=
 have e : P.fieldsOf t = #[f, g] := by simp [Program.fieldsOf, hu]
 ⟨f, g, by rw [e]; exact hu, e, h1, h2, h3, h4, h5, h6, h7⟩
theorem PairT.eq {P : Program} {t : TypeId} (h : PairT P t) (d : Nat) (w : World) (a b : Int × Int) : (Op.equalIn (d + 2) t (pk a) (pk b)).run P w = .ok (decide (a = b)) w := by
 obtain ⟨f, g, hu, hf, hfn, hgn, hf0, hg1, hfi, hgi, hs⟩ := h.ex
 have hpf : P.plainKey f.type = true := by simp [Program.plainKey, hfi]
 have hpg : P.plainKey g.type = true := by simp [Program.plainKey, hgi]
 unfold pk
 rw [show d + 2 = (d + 1) + 1 from rfl, run_equalIn_agg w (d + 1) t _ _ hu hs, hf]
 show (Op.eqFields (d + 1) _ _ [f, g]).run P w = _
 have p1 : ∀ u v : Int, (part f.type #[Value.int .i64 u, Value.int .i64 v] f.offset).run P w = .ok (.int .i64 u) w := fun u v => run_part_plain w hpf (by rw [hf0]; rfl)
 have p2 : ∀ u v : Int, (part g.type #[Value.int .i64 u, Value.int .i64 v] g.offset).run P w = .ok (.int .i64 v) w := fun u v => run_part_plain w hpg (by rw [hg1]; rfl)
 obtain ⟨a1, a2⟩ := a
 obtain ⟨b1, b2⟩ := b
 have e1 := run_equalIn_int (P := P) w d f.type .i64 .i64 a1 b1 hfi
 have e2 := run_equalIn_int (P := P) w d g.type .i64 .i64 a2 b2 hgi
 by_cases h1 : a1 = b1
 ·
  subst h1
  by_cases h2 : a2 = b2
  ·
   subst h2
   rw [beq_self_eq_true] at e1 e2
   simp only [Op.eqFields, hfn, hgn, ne_eq, not_false_eq_true, if_true, Sem.run_bind, p1, p2, Result.andThen_ok, e1, e2, Bool.not_true, Bool.false_eq_true, if_false, Sem.run_pure, decide_true]
  rw [beq_self_eq_true] at e1
  rw [beq_false_of_ne h2] at e2
  have hd : decide ((a1, a2) = (a1, b2)) = false := decide_eq_false (by simp [h2])
  simp only [Op.eqFields, hfn, hgn, ne_eq, not_false_eq_true, if_true, Sem.run_bind, p1, p2, Result.andThen_ok, e1, e2, Bool.not_true, Bool.not_false, Bool.false_eq_true, if_false, Sem.run_pure, hd]
 rw [beq_false_of_ne h1] at e1
 have hd : decide ((a1, a2) = (b1, b2)) = false := decide_eq_false (by simp [h1])
 simp only [Op.eqFields, hfn, ne_eq, not_false_eq_true, if_true, Sem.run_bind, p1, Result.andThen_ok, e1, Bool.not_false, Sem.run_pure, hd]
theorem HS.setO {w0 w : World} {L : Bks} (h : HS w0 w L) {i b : Nat} {o o' : Obj} (hL : L[i]? = some (b, o)) : HS w0 { w with heap := w.heap.setIfInBounds b o' } (L.set i (b, o')) := by
 have hkeys := keys_set (o' := o') hL
 have hb : b < w.heap.size := h.lt hL
 have hi : i < L.length := (List.getElem?_eq_some_iff.1 hL).1
 refine ⟨by simpa using h.size, fun p hp => ?_, by rw [hkeys]; exact h.nodup, fun c hc hn => ?_, h.env⟩
 ·
  obtain ⟨j, hj⟩ := List.getElem?_of_mem hp
  rw [List.getElem?_set] at hj
  by_cases hij : i = j
  ·
   simp only [hij, if_true] at hj
   split at hj
   ·
    cases hj; simp [hb]
   cases hj
  simp only [hij, if_false] at hj
  have hne : b ≠ p.1 := by
   intro he
   have h1 : (L.map (·.1))[i]? = some b := by simp [hL]
   have h2 : (L.map (·.1))[j]? = some b := by simp [hj, he]
   exact hij (nodup_idx h.nodup h1 h2)
  show (w.heap.setIfInBounds b o')[p.1]? = some p.2
  rw [Array.getElem?_setIfInBounds_ne hne]
  exact h.has p (List.mem_of_getElem? hj)
 rw [hkeys] at hn
 have hne : b ≠ c := fun he => hn (by subst he; exact List.mem_map.2 ⟨_, List.mem_of_getElem? hL, rfl⟩)
 show (w.heap.setIfInBounds b o')[c]? = _
 rw [Array.getElem?_setIfInBounds_ne hne]
 exact h.kept c hc hn
section
variable {P : Program} {n : Nat} {Q : jeG} {e : Env} {w w0 : World} {L : Bks} {ops : Array Oper} {rest : List Oper} {t : TypeId} {p : String} {af : Array Edge} {d : Nat}
variable {κ ν : Type} [DecidableEq κ] {ek : κ -> Value} {ev : ν -> Value} {T kt et : TypeId}
theorem run_mlook {l : List (κ × ν × Nat)} {ck b : Nat} {z : Value} {sz by' : Nat} (hK : KeyT P kt ek) (hT : P.underlying T = some (.map kt et)) (hz : TI P et z sz by') (hb : w.heap[b]? = some (jeY ek ev l ck)) (k : κ) (c : Bool) :
  (Instr.lookup T (.map (some b)) (ek k) c).run P w = .ok (if c then .tuple #[((mget k l).map ev).getD z, .bool (mget k l).isSome] else ((mget k l).map ev).getD z) w := by
 have hf := hK.find ev k l w
 have hg := jnZ k l 0
 unfold Instr.lookup
 simp only [Sem.run_bind, run_underlying hT, Result.andThen_ok, Go.MapKept.run_getObj_map hb, Sem.run_pure, hK.check, hf]
 rw [<- hg]
 cases jm7 k l 0 with
 | none => simp only [Option.map_none, Sem.run_bind, hz.zero, Result.andThen_ok, Sem.run_pure]; rfl
 | some q => simp only [Option.map_some, Sem.run_pure, Result.andThen_ok]; rfl
theorem jf4 {x y : Operand} {l : List (κ × ν × Nat)} {ck b : Nat} {z : Value} {sz by' : Nat} {k : κ} (hd : Nat.blt d n = true) (hK : KeyT P kt ek) (hT : P.underlying T = some (.map kt et)) (hz : TI P et z sz by') (hb : w.heap[b]? = some (jeY ek ev l ck))
  (hx : jaD e x = some (.map (some b))) (hy : jaD e y = some (ek k)) (h : RL P n ops rest Q ((d, ((mget k l).map ev).getD z) :: e) w) :
  RL P n ops (Oper.mk (some d) (.lookup T x y false) t p af none :: rest) Q e w :=
 jaT hd (fun a ha => by simp [execOp, ha.eval hx, ha.eval hy, run_mlook hK hT hz hb k false]) h
omit [DecidableEq κ] in
theorem ments_len (l : List (κ × ν × Nat)) : (jcD ek ev l).length = l.length := List.length_map ..
theorem L_mput {x y z : Operand} {l : List (κ × ν × Nat)} {ck b i : Nat} {k : κ} {v : ν} (hs : HS w0 w L) (hL : L[i]? = some (b, jeY ek ev l ck)) (hK : KeyT P kt ek) (hT : P.underlying T = some (.map kt et))
  (hx : jaD e x = some (.map (some b))) (hy : jaD e y = some (ek k)) (hz : jaD e z = some (ev v)) (h : ∀ w', HS w0 w' (L.set i (b, jeY ek ev (mput k v ck l) (mclk k ck l))) -> RL P n ops rest Q e w') :
  RL P n ops (Oper.mk none (.mapUpdate T x y z) t p af none :: rest) Q e w := by
 have hb := hs.get hL
 have hf := hK.find ev k l w
 have hg := jnZ k l 0
 have key : ∃ w', (Instr.mapUpdate T (.map (some b)) (ek k) (ev v)).run P w = .ok () w' /\ HS w0 w' (L.set i (b, jeY ek ev (mput k v ck l) (mclk k ck l))) := by
  unfold Instr.mapUpdate
  simp only [Sem.run_bind, run_underlying hT, Result.andThen_ok, Go.MapKept.run_getObj_map hb, hK.check, hf]
  cases hk : jm7 k l 0 with
  | none =>
   rw [hk] at hg
   obtain ⟨_, h2⟩ := jm6 hk
   refine ⟨{ w with heap := w.heap.setIfInBounds b (.map ((jcD ek ev l).toArray.push { key := ek k, val := ev v, born := ck }) (ck + 1)) }, by simp only [Option.map_none, Go.MapKept.run_setObj_map _ hb], ?_⟩
   have := hs.setO (o' := .map ((jcD ek ev l).toArray.push { key := ek k, val := ev v, born := ck }) (ck + 1)) hL
   rw [h2, mclk, <- hg]
   have e2 : (jcD ek ev l).toArray.push { key := ek k, val := ev v, born := ck } = (jcD ek ev (l ++ [(k, v, ck)])).toArray := by
    apply Array.ext'; simp [jcD]
   show HS w0 _ (L.set i (b, Obj.map (jcD ek ev (l ++ [(k, v, ck)])).toArray (ck + 1)))
   rw [<- e2]
   exact this
  | some q =>
   rw [hk] at hg
   obtain ⟨j, vq⟩ := q
   obtain ⟨q', h1, h2, h3, ⟨x0, hx0, hx0k⟩, h4⟩ := jm5 hk
   rw [Nat.zero_add] at h1
   subst h1
   have hkey : (((jcD ek ev l).toArray[j]?).map (·.key)).getD (ek k) = ek k := by
    rw [List.getElem?_toArray]
    simp [jcD, hx0, hx0k]
   refine ⟨{ w with heap := w.heap.setIfInBounds b (.map ((jcD ek ev l).toArray.modify j fun e => { e with key := ek k, val := ev v }) ck) }, by simp only [Option.map_some, Sem.run_bind, Instr.keyThatStays, hkey, hK.same, if_true, Sem.run_pure, Result.andThen_ok, Go.MapKept.run_setObj_map _ hb], ?_⟩
   have := hs.setO (o' := .map ((jcD ek ev l).toArray.modify j fun e => { e with key := ek k, val := ev v }) ck) hL
   rw [h4, mclk, <- hg]
   have e2 : ((jcD ek ev l).toArray.modify j fun e => { e with key := ek k, val := ev v }) = (jcD ek ev (l.modify j fun x => (k, v, x.2.2))).toArray := by
    apply Array.ext'
    rw [Array.toList_modify]
    apply List.ext_getElem?
    intro q
    simp only [jcD, List.getElem?_modify, List.getElem?_map]
    cases l[q]? with
    | none => rfl
    | some u => by_cases hq : j = q <;> simp [hq]
   show HS w0 _ (L.set i (b, Obj.map (jcD ek ev (l.modify j fun x => (k, v, x.2.2))).toArray ck))
   rw [<- e2]
   exact this
 obtain ⟨w', h1, h2⟩ := key
 exact RL_unit (fun a ha => by simp [execOp, ha.eval hx, ha.eval hy, ha.eval hz, h1]) (h _ h2)
theorem run_mdel {T' : TypeId} {l : List (κ × ν × Nat)} {ck b i : Nat} {k : κ} {ty : TypeId} (hs : HS w0 w L) (hL : L[i]? = some (b, jeY ek ev l ck)) (hK : KeyT P kt ek) (hT : P.underlying T = some (.map kt et)) :
  ∃ w', (Builtin.delete_ #[T, T'] ty #[.map (some b), ek k]).run P w = .ok (.tuple #[]) w' /\ HS w0 w' (L.set i (b, jeY ek ev (mdel k l) ck)) := by
 have hb := hs.get hL
 have hf := hK.find ev k l w
 unfold Builtin.delete_
 simp only [Sem.run_bind, run_underlying hT, Result.andThen_ok, Go.MapKept.run_getObj_map hb, hK.check, hf, List.getElem?_toArray, List.getElem?_cons_zero, List.getElem?_cons_succ]
 cases hk : jm7 k l 0 with
 | none =>
  obtain ⟨h1, _⟩ := jm6 hk
  refine ⟨{ w with heap := w.heap.setIfInBounds b (jeY ek ev l ck) }, by simp only [Option.map_none, Sem.run_bind, Go.MapKept.run_setObj_map _ hb, Result.andThen_ok, Sem.run_pure], ?_⟩
  have := hs.setO (o' := jeY ek ev l ck) hL
  rw [h1]; exact this
 | some q =>
  obtain ⟨j, vq⟩ := q
  obtain ⟨q', h1, h2, h3, _, _⟩ := jm5 hk
  rw [Nat.zero_add] at h1
  subst h1
  refine ⟨{ w with heap := w.heap.setIfInBounds b (.map ((jcD ek ev l).toArray.eraseIdxIfInBounds j) ck) }, by simp only [Option.map_some, Sem.run_bind, Go.MapKept.run_setObj_map _ hb, Result.andThen_ok, Sem.run_pure], ?_⟩
  have := hs.setO (o' := .map ((jcD ek ev l).toArray.eraseIdxIfInBounds j) ck) hL
  have e2 : (jcD ek ev l).toArray.eraseIdxIfInBounds j = (jcD ek ev (l.eraseIdx j)).toArray := by
   apply Array.ext'
   have hlt : j < (jcD ek ev l).toArray.size := by simp [jcD]; exact h2
   rw [Array.eraseIdxIfInBounds, dif_pos hlt, Array.toList_eraseIdx]
   apply List.ext_getElem?
   intro q
   simp only [jcD, List.getElem?_eraseIdx, List.getElem?_map]
   split <;> rfl
  rw [h3]
  show HS w0 _ (L.set i (b, Obj.map (jcD ek ev (l.eraseIdx j)).toArray ck))
  rw [<- e2]
  exact this
theorem L_mdel {T' ty : TypeId} {x y : Operand} {l : List (κ × ν × Nat)} {ck b i : Nat} {k : κ} (hs : HS w0 w L) (hL : L[i]? = some (b, jeY ek ev l ck)) (hK : KeyT P kt ek) (hT : P.underlying T = some (.map kt et))
  (hx : jaD e x = some (.map (some b))) (hy : jaD e y = some (ek k)) (h : ∀ w', HS w0 w' (L.set i (b, jeY ek ev (mdel k l) ck)) -> RL P n ops rest Q e w') :
  RL P n ops (Oper.mk none (.call { callee := .builtin .delete, args := #[x, y], argTypes := #[T, T'] }) ty p af none :: rest) Q e w := by
 obtain ⟨w', h1, h2⟩ := run_mdel (T' := T') (k := k) (ty := ty) hs hL hK hT
 exact RL_val0 (v := .tuple #[]) (w' := w') (fun a ha => by simp [execOp, ha.eval hx, ha.eval hy, resolve, invoke, builtin, h1]) (h _ h2)
theorem L_makeMap (hd : Nat.blt d n = true) (hs : HS w0 w L)
  (h : ∀ b w', w0.heap.size <= b -> b ∉ L.map (·.1) -> HS w0 w' (L ++ [(b, .map #[] 0)]) -> RL P n ops rest Q ((d, .map (some b)) :: e) w') :
  RL P n ops (Oper.mk (some d) (.makeMap T none) t p af none :: rest) Q e w :=
 jaT hd (fun a ha => by simp [execOp, Instr.makeMap]) (h w.heap.size _ hs.size (fun hm => by
  obtain ⟨q, hq, he⟩ := List.mem_map.1 hm
  have := hs.lt' hq
  omega) (hs.alloc (.map #[] 0)))
end
section
variable {P : Program} {n : Nat} {Q : jeG} {e : Env} {w w0 : World} {L : Bks} {ops : Array Oper} {rest : List Oper} {t : TypeId} {p : String} {af : Array Edge} {d : Nat}
variable {κ ν : Type} {ek : κ -> Value} {ev : ν -> Value} {T kt et : TypeId}
theorem L_range {x : Operand} {l : List (κ × ν × Nat)} {ck m : Nat} (hd : Nat.blt d n = true) (hs : HS w0 w L) (hm : (m, jeY ek ev l ck) ∈ L) (hT : P.underlying T = some (.map kt et)) (hx : jaD e x = some (.map (some m)))
  (h : ∀ b w', w0.heap.size <= b -> b ∉ L.map (·.1) -> HS w0 w' (L ++ [(b, ItO m ck [] ck)]) -> RL P n ops rest Q ((d, .pointer (some ⟨b, 0, none⟩)) :: e) w') :
  RL P n ops (Oper.mk (some d) (.range T x) t p af none :: rest) Q e w :=
 jaT hd (fun a ha => by
  simp only [execOp, ha.eval hx]
  simp [Instr.range, run_underlying hT, Go.MapKept.run_getObj_map (hs.has _ hm)]) (h w.heap.size _ hs.size (fun hm => by
  obtain ⟨q, hq, he⟩ := List.mem_map.1 hm
  have := hs.lt' hq
  omega) (hs.alloc (ItO m ck [] ck)))
theorem leftOf_nil {l : List (κ × ν × Nat)} {seen : List Nat} (h : (leftOf (jcD ek ev l).toArray seen.toArray).size = 0) : ∀ x ∈ l, x.2.2 ∈ seen := fun x hx => by
 have h0 : leftOf (jcD ek ev l).toArray seen.toArray = #[] := Array.eq_empty_of_size_eq_zero h
 unfold leftOf at h0
 rw [Array.filter_eq_empty_iff] at h0
 have := h0 (a := ⟨ek x.1, ev x.2.1, x.2.2⟩) (List.mem_toArray.2 (List.mem_map.2 ⟨x, hx, rfl⟩))
 simpa using this
theorem leftOf_mem {l : List (κ × ν × Nat)} {seen : List Nat} {y : MapEntry} (h : y ∈ (leftOf (jcD ek ev l).toArray seen.toArray).toList) : ∃ x ∈ l, x.2.2 ∉ seen /\ y = ⟨ek x.1, ev x.2.1, x.2.2⟩ := by
 unfold leftOf at h
 simp only [Array.mem_toList_iff, Array.mem_filter, List.mem_toArray] at h
 obtain ⟨h1, h2⟩ := h
 obtain ⟨x, hx, rfl⟩ := List.mem_map.1 h1
 exact ⟨x, hx, by simpa using h2, rfl⟩
theorem L_next {x : Operand} {l : List (κ × ν × Nat)} {ck m r since c i : Nat} {seen : List Nat} (hd : Nat.blt d n = true) (hs : HS w0 w L) (hL : L[i]? = some (r, ItO m since seen c)) (hm : (m, jeY ek ev l ck) ∈ L)
  (hold : ∀ x ∈ l, x.2.2 < since) (hc : since <= c) (hx : jaD e x = some (.pointer (some ⟨r, 0, none⟩)))
  (h0 : (∀ x ∈ l, x.2.2 ∈ seen) -> RL P n ops rest Q ((d, .tuple #[.bool false]) :: e) w)
  (h1 : ∀ x ∈ l, x.2.2 ∉ seen -> ∀ w', HS w0 w' (L.set i (r, ItO m since (seen ++ [x.2.2]) ck)) -> RL P n ops rest Q ((d, .tuple #[.bool true, ek x.1, ev x.2.1]) :: e) w') :
  RL P n ops (Oper.mk (some d) (.next x false) t p af none :: rest) Q e w := by
 rcases run_next_at (P := P) w t r m since c seen.toArray (jcD ek ev l).toArray ck (hs.get hL) (hs.has _ hm) (fun y hy => by
  have hy' : y ∈ jcD ek ev l := by simpa using hy
  obtain ⟨x, hx, rfl⟩ := List.mem_map.1 hy'
  exact hold x hx) hc with ⟨hn, hr⟩ | ⟨y, hy, w1, hw1, hr⟩
 ·
  exact jaT hd (fun a ha => by simp only [execOp, ha.eval hx, Sem.run_bind, hr, Result.andThen_ok, Sem.run_pure]) (h0 (leftOf_nil hn))
 obtain ⟨x, hxl, hxs, rfl⟩ := leftOf_mem hy
 have hs1 : HS w0 w1 L := by
  rcases hw1 with rfl | rfl
  ·
   exact hs
  exact hs.drewN 1
 have e2 : (seen.toArray.push x.2.2) = (seen ++ [x.2.2]).toArray := by simp
 rw [e2] at hr
 exact jaT hd (fun a ha => by simp only [execOp, ha.eval hx, Sem.run_bind, hr, Result.andThen_ok, Sem.run_pure]; rfl) (h1 x hxl hxs _ (hs1.setO (o' := ItO m since (seen ++ [x.2.2]) ck) hL))
theorem L_entry {x : Operand} {l : List (κ × ν × Nat)} {ck m r since : Nat} {seen : List Nat} {y : κ × ν × Nat} (hd : Nat.blt d n = true) (hs : HS w0 w L) (hr : (r, ItO m since (seen ++ [y.2.2]) ck) ∈ L) (hm : (m, jeY ek ev l ck) ∈ L)
  (hy : y ∈ l) (hn : (l.map (·.2.2)).Nodup) (hx : jaD e x = some (.pointer (some ⟨r, 0, none⟩))) (h : RL P n ops rest Q ((d, .tuple #[ek y.1, ev y.2.1]) :: e) w) :
  RL P n ops (Oper.mk (some d) (.entry x) t p af none :: rest) Q e w := by
 have e2 : (seen.toArray.push y.2.2) = (seen ++ [y.2.2]).toArray := by simp
 have hr1 := hs.has _ hr
 have h0 := run_entry_at (P := P) w r m since seen.toArray (jcD ek ev l).toArray ck ⟨ek y.1, ev y.2.1, y.2.2⟩ (by rw [e2]; exact hr1) (hs.has _ hm) (List.mem_map.2 ⟨y, hy, rfl⟩) (by
  simp only [jcD, List.map_map]
  exact hn)
 exact jaT hd (fun a ha => by simp only [execOp, ha.eval hx, Sem.run_bind, h0, Result.andThen_ok, Sem.run_pure]) h
end
section
variable {P : Program} {n : Nat} {Q : jeG} {e : Env} {w : World} {ops : Array Oper} {g : Nat} {listed : Array Bool}
end
section
variable {P : Program} {n : Nat} {e : Env} {w : World} {t : TypeId} {p : String} {af : Array Edge} {d : Nat}
end
section
variable {P : Program} {n : Nat} {Q : jeG} {e : Env} {w w0 : World} {L : Bks} {ops : Array Oper} {rest : List Oper} {t : TypeId} {p : String} {af : Array Edge}
end
structure RInP (n : Nat) (l : List Oper) (e0 : Env) (w0 : World) (L : List (Nat × Obj)) (Φ : (Nat -> Value) -> Nat -> Value -> List (Nat × Obj) -> Prop) (cons : Nat -> List Nat) (pre : List Nat) (listed : Array Bool) (a : Act) (w : World) (V : Nat -> Value) (M : Nat -> List (Nat × Obj)) (E : Env) (own : List Nat) : Prop where
 kn : Kn n a E
 old : ∀ d v, look e0 d = some v -> (∀ (k : Nat) (o : Oper), l[k]? = some o -> o.dst ≠ some d) -> look E d = some v
 new : ∀ (k : Nat) (o : Oper) (d : Nat), l[k]? = some o -> o.dst = some d -> listed.getD k false = true -> look E d = some (V k)
 fact : ∀ k, (listed.getD k false = true ∨ k ∈ pre) -> Φ V k (V k) (M k) /\ Own w0 (M k)
 hs : HS w0 w (L ++ own.flatMap M)
 nodup : own.Nodup
 closed : ∀ (j : Nat) (o : Oper), l[j]? = some o -> listed.getD j false = true -> ∀ e ∈ o.after, Region.binds .any e = true -> listed.getD e.on false = true
 ownd : ∀ k, k ∈ own ↔ ((k < l.length /\ listed.getD k false = true ∨ k ∈ pre) /\ ∀ j, j < l.length -> listed.getD j false = true -> k ∉ cons j)
def RInvP (n : Nat) (l : List Oper) (e0 : Env) (w0 : World) (L : List (Nat × Obj)) (Φ : (Nat -> Value) -> Nat -> Value -> List (Nat × Obj) -> Prop) (cons : Nat -> List Nat) (pre : List Nat) (listed : Array Bool) (a : Act) (w : World) : Prop :=
 listed.size = l.length /\ ∃ V M E own, RInP n l e0 w0 L Φ cons pre listed a w V M E own
def chkRP (l : List Oper) (n : Nat) (deps cons : Nat -> List Nat) (pre : List Nat) : Bool :=
 (pre.all fun k => decide (l.length <= k) && (deps k).isEmpty) && decide pre.Nodup && (List.range l.length).all (fun i => match l[i]? with
  | none => false
  | some o => o.guard.isNone && (match o.dst with | none => true | some d => Nat.blt d n && (List.range l.length).all (fun j => j == i || (match l[j]? with | none => true | some o' => o'.dst != some d))) &&
    o.after.all (fun e => !Region.binds .any e || decide (e.on < i)) && (deps i).all (fun k => pre.contains k || o.after.any fun e => Region.binds .any e && e.on == k) && (cons i).all (fun k => (deps i).contains k) &&
    (List.range l.length).all (fun j => j == i || (cons j).all fun k => !(cons i).contains k) && decide ((cons i).Nodup) &&
    (deps i).all (fun k => (List.range l.length).all fun j => j == i || !(cons j).contains k || (match l[j]? with | none => true | some o' => o'.after.any fun e => Region.binds .any e && e.on == i)))
theorem W_anyP {P : Program} {n : Nat} {id : Nat} {l : List Oper} {Q : jeG} {e0 : Env} {w0 w : World} {L : List (Nat × Obj)} (Φ : (Nat -> Value) -> Nat -> Value -> List (Nat × Obj) -> Prop) (deps cons : Nat -> List Nat) (pre : List Nat) (M0 : Nat -> List (Nat × Obj)) (hp0 : ∀ k ∈ pre, ∀ V, Φ V k .nilIface (M0 k) /\ Own w0 (M0 k))
  (hloc : ∀ (k : Nat) (V V' : Nat -> Value) (v : Value) (m : List (Nat × Obj)), (∀ d ∈ deps k, V d = V' d) -> Φ V k v m -> Φ V' k v m) (hm : P.follows .mixedOrders = true) (hB0 : chkRP l n deps cons pre = true) (hs : HS w0 w (L ++ pre.flatMap M0))
  (hop : ∀ (i : Nat) (o : Oper), l[i]? = some o -> ∀ (V : Nat -> Value) (M : Nat -> List (Nat × Obj)) (E : Env) (R : List (Nat × Obj)) (w : World) (Q' : jeG),
   (∀ k ∈ deps i, Φ V k (V k) (M k) /\ Own w0 (M k)) -> (∀ k ∈ deps i, ∀ (o' : Oper) d', l[k]? = some o' -> o'.dst = some d' -> look E d' = some (V k)) -> (∀ d v, look e0 d = some v -> (∀ (k : Nat) (o : Oper), l[k]? = some o -> o.dst ≠ some d) -> look E d = some v) -> Own w0 R -> (∀ k ∈ deps i, ∀ p ∈ M k, p ∈ R ++ (cons i).flatMap M) ->
   HS w0 w ((L ++ R) ++ (cons i).flatMap M) -> (∀ v m w', Φ V i v m -> Own w0 m -> HS w0 w' ((L ++ R) ++ m) -> RL P n l.toArray [] Q' (putE o.dst v E) w') -> RL P n l.toArray [o] Q' E w)
  (hend : ∀ (V : Nat -> Value) (M : Nat -> List (Nat × Obj)) (own : List Nat) (w : World), (∀ k, k < l.length -> Φ V k (V k) (M k) /\ Own w0 (M k)) -> HS w0 w (L ++ own.flatMap M) -> (∀ k, k ∈ own ↔ ((k < l.length ∨ k ∈ pre) /\ ∀ j, j < l.length -> k ∉ cons j)) -> own.Nodup ->
   ∀ E, (∀ d v, look e0 d = some v -> (∀ (k : Nat) (o : Oper), l[k]? = some o -> o.dst ≠ some d) -> look E d = some v) -> (∀ (k : Nat) (o : Oper) (d : Nat), l[k]? = some o -> o.dst = some d -> look E d = some (V k)) -> Nx n Q E w) : W P n (.region id l.toArray true) Q e0 w := by
 obtain ⟨hB1, hB⟩ : ((pre.all fun k => decide (l.length <= k) && (deps k).isEmpty) = true /\ pre.Nodup) /\ _ := by
  have h := hB0
  unfold chkRP at h
  rw [Bool.and_eq_true, Bool.and_eq_true] at h
  exact ⟨⟨h.1.1, of_decide_eq_true h.1.2⟩, h.2⟩
 have hpre : ∀ k ∈ pre, l.length <= k /\ deps k = [] := fun k hk => by
  have h := List.all_eq_true.1 hB1.1 k hk
  rw [Bool.and_eq_true] at h
  exact ⟨of_decide_eq_true h.1, by simpa using h.2⟩
 have hpnd := hB1.2
 clear hB0 hB1
 have hB' : ∀ (i : Nat) (o : Oper), l[i]? = some o -> o.guard = none /\ (∀ d, o.dst = some d -> ∀ (j : Nat) (o' : Oper), l[j]? = some o' -> j ≠ i -> o'.dst ≠ some d) /\ (∀ e ∈ o.after, Region.binds .any e = true -> e.on < i) /\ (∀ k ∈ deps i, k ∈ pre ∨ ∃ e ∈ o.after, Region.binds .any e = true /\ e.on = k) /\ (∀ k ∈ cons i, k ∈ deps i) /\ (∀ j, j < l.length -> j ≠ i -> ∀ k ∈ cons j, k ∉ cons i) /\ (cons i).Nodup /\ (∀ k ∈ deps i, ∀ j, j < l.length -> j ≠ i -> k ∈ cons j -> ∃ o', l[j]? = some o' /\ ∃ e ∈ o'.after, Region.binds .any e = true /\ e.on = i) := by
  intro i o hi
  have hlt : i < l.length := (List.getElem?_eq_some_iff.1 hi).1
  have h := List.all_eq_true.1 hB i (List.mem_range.2 hlt)
  rw [hi] at h
  simp only [Bool.and_eq_true, decide_eq_true_eq] at h
  obtain ⟨⟨⟨⟨⟨⟨⟨h1, h2⟩, h3⟩, h4⟩, h5⟩, h6⟩, h7⟩, h9'⟩ := h
  refine ⟨by simpa using h1, ?_, ?_, ?_, ?_, ?_, h7, ?_⟩
  ·
   intro d hd
   rw [hd] at h2
   simp only [Bool.and_eq_true] at h2
   intro j o' hj hne hd'
   have h8 := List.all_eq_true.1 h2.2 j (List.mem_range.2 (List.getElem?_eq_some_iff.1 hj).1)
   rw [hj] at h8
   simp [hne, hd'] at h8
  ·
   intro e he hb
   have h8 := Array.all_eq_true_iff_forall_mem.1 h3 e he
   simpa [hb] using h8
  ·
   intro k hk
   have h8 := List.all_eq_true.1 h4 k hk
   rw [Bool.or_eq_true] at h8
   rcases h8 with h8 | h8
   ·
    exact .inl (by simpa using h8)
   obtain ⟨e, he, hb⟩ := Array.any_eq_true'.1 h8
   simp only [Bool.and_eq_true, beq_iff_eq] at hb
   exact .inr ⟨e, he, hb.1, hb.2⟩
  ·
   intro k hk
   have h8 := List.all_eq_true.1 h5 k hk
   simpa using h8
  ·
   intro j hj hne k hk
   have h8 := List.all_eq_true.1 h6 j (List.mem_range.2 hj)
   simp only [Bool.or_eq_true, beq_iff_eq, hne, false_or] at h8
   have h9 := List.all_eq_true.1 h8 k hk
   simpa using h9
  intro k hk j hj hne hkj
  have h8 := List.all_eq_true.1 (List.all_eq_true.1 h9' k hk) j (List.mem_range.2 hj)
  have hjo : l[j]? = some l[j] := by simp [hj]
  rw [hjo] at h8
  have hc : (cons j).contains k = true := by simpa using hkj
  rw [hc] at h8
  simp only [Bool.or_eq_true, beq_iff_eq, hne, Bool.not_true, Bool.false_eq_true, false_or] at h8
  obtain ⟨e, he, hb⟩ := Array.any_eq_true'.1 h8
  simp only [Bool.and_eq_true, beq_iff_eq] at hb
  exact ⟨_, hjo, e, he, hb.1, hb.2⟩
 intro a ha
 refine wp_region_any hm ?_
 -- the rounds
 have key : ∀ (f : Nat) (listed : Array Bool) (a : Act) (w : World), RInvP n l e0 w0 L Φ cons pre listed a w -> (listed.toList.count false) = f -> wpAny P .any l.toArray Q f listed a w := by
  intro f
  induction f with
  | zero =>
   intro listed a w hI hc
   obtain ⟨hsz, V, M, E, own, h⟩ := hI
   have hall : ∀ k, k < l.length -> listed.getD k false = true := by
    intro k hk
    have hk' : k < listed.toList.length := by simpa [hsz] using hk
    cases hb : listed.getD k false with
    | true => rfl
    | false =>
     exfalso
     have h1 : listed.toList[k] = false := by
      have : listed[k]'(by omega) = false := by simpa [Array.getD, show k < listed.size by omega] using hb
      simpa using this
     have h2 : false ∈ listed.toList := h1 ▸ List.getElem_mem hk'
     have := List.count_pos_iff.2 h2
     omega
   refine ⟨?_, ?_⟩
   ·
    refine List.eq_nil_iff_forall_not_mem.2 fun j hj => ?_
    obtain ⟨h1, o, ho, _⟩ := mem_ready.1 hj
    have hj' : j < l.length := by
     have := (Array.getElem?_eq_some_iff.1 ho).1
     simpa using this
    have := hall j hj'
    rw [getD_both h1] at this
    cases this
   refine hend V M own w (fun k hk => h.fact k (.inl (hall k hk))) h.hs (fun k => ?_) h.nodup E h.old (fun k o d hk hd => h.new k o d hk hd (hall k (List.getElem?_eq_some_iff.1 hk).1)) a h.kn
   rw [h.ownd]
   constructor
   ·
    rintro ⟨h1, h3⟩
    exact ⟨h1.imp And.left (fun h => h), fun j hj => h3 j hj (hall j hj)⟩
   rintro ⟨h1, h3⟩
   exact ⟨h1.imp (fun hk => ⟨hk, hall k hk⟩) (fun h => h), fun j hj _ => h3 j hj⟩
  | succ f ih =>
   intro listed a w hI hc
   obtain ⟨hsz, V, M, E, own, h⟩ := hI
   refine ⟨fun h0 => ?_, fun i hi => ?_⟩
   ·
    -- some operation is ready
    exfalso
    have hmem : false ∈ listed.toList := List.count_pos_iff.1 (by omega)
    obtain ⟨k, hk⟩ := List.getElem?_of_mem hmem
    have hex : ∃ k, k < l.length /\ listed.getD k true = false := ⟨k, by have := (List.getElem?_eq_some_iff.1 hk).1; simpa [hsz] using this, by
     have h9 := (List.getElem?_eq_some_iff.1 hk)
     obtain ⟨h9, h10⟩ := h9
     have h9' : k < listed.size := by simpa using h9
     simp [Array.getD, h9']
     simpa using h10⟩
    -- the least such
    have hmin : ∃ k, (k < l.length /\ listed.getD k true = false) /\ ∀ j, j < k -> listed.getD j false = true := by
     have : ∀ m, (∃ k, k < m /\ k < l.length /\ listed.getD k true = false) -> ∃ k, (k < l.length /\ listed.getD k true = false) /\ ∀ j, j < k -> listed.getD j false = true := by
      intro m
      induction m with
      | zero => intro ⟨k, h1, _⟩; omega
      | succ m ihm =>
       intro ⟨k, h1, h2, h3⟩
       by_cases hb : ∃ k, k < m /\ k < l.length /\ listed.getD k true = false
       ·
        exact ihm hb
       refine ⟨k, ⟨h2, h3⟩, fun j hj => ?_⟩
       cases hq : listed.getD j false with
       | true => rfl
       | false =>
        exfalso
        apply hb
        refine ⟨j, by omega, by omega, ?_⟩
        have hjs : j < listed.size := by omega
        simp [Array.getD, hjs] at hq ⊢
        exact hq
     obtain ⟨k, h1, h2⟩ := hex
     exact this (k + 1) ⟨k, by omega, h1, h2⟩
    obtain ⟨k, ⟨hk1, hk2⟩, hk3⟩ := hmin
    have : k ∈ Region.ready .any l.toArray listed := by
     refine mem_ready.2 ⟨hk2, l[k], by simp [hk1], fun e he hb => ?_⟩
     obtain ⟨_, _, h5, _⟩ := hB' k l[k] (by simp [hk1])
     exact hk3 _ (h5 e he hb)
    rw [h0] at this
    cases this
   obtain ⟨hun, o, ho, hall⟩ := mem_ready.1 hi
   have hol : l[i]? = some o := by simpa using ho
   have hil : i < l.length := (List.getElem?_eq_some_iff.1 hol).1
   have his : i < listed.size := by omega
   obtain ⟨hg, hdu, _, hdep, hcd, hcons, hcn, hlate⟩ := hB' i o hol
   have hunf : listed.getD i false = false := getD_both hun
   have hdl : ∀ k ∈ deps i, listed.getD k false = true ∨ k ∈ pre := fun k hk => by
    rcases hdep k hk with h | ⟨e, he, hb, rfl⟩
    ·
     exact .inr h
    exact .inl (hall e he hb)
   have hdlp : ∀ k ∈ deps i, k < l.length /\ listed.getD k false = true ∨ k ∈ pre := fun k hk => by
    rcases hdl k hk with h5 | h5
    ·
     left
     refine ⟨?_, h5⟩
     by_cases hks : k < listed.size
     ·
      omega
     simp [Array.getD, hks] at h5
    exact .inr h5
   have hipre : i ∉ pre := fun h => by have := (hpre i h).1; omega
   have hcown : ∀ k ∈ cons i, k ∈ own := fun k hk => by
    rw [h.ownd]
    refine ⟨hdlp k (hcd k hk), fun j hj hlj hkj => ?_⟩
    by_cases hji : j = i
    ·
     subst hji; rw [hunf] at hlj; cases hlj
    exact hcons j hj hji k hkj hk
   obtain ⟨R, hR⟩ : ∃ R, R = own.filter (fun k => !(cons i).contains k) := ⟨_, rfl⟩
   have hperm : List.Perm own (R ++ cons i) := by
    refine (List.perm_ext_iff_of_nodup h.nodup ?_).2 fun k => ?_
    ·
     rw [List.nodup_append]
     refine ⟨by rw [hR]; exact h.nodup.filter _, hcn, fun x hx y hy hxy => ?_⟩
     subst hxy
     rw [hR] at hx
     simp at hx
     exact hx.2 hy
    rw [List.mem_append, hR]
    simp only [List.mem_filter, Bool.not_eq_true', List.contains_eq_mem, decide_eq_false_iff_not]
    constructor
    ·
     intro hk
     by_cases hc : k ∈ cons i
     ·
      exact .inr hc
     exact .inl ⟨hk, hc⟩
    rintro (hk | hk)
    ·
     exact hk.1
    exact hcown k hk
   have hhs : HS w0 w ((L ++ R.flatMap M) ++ (cons i).flatMap M) := h.hs.mem_perm (by
    rw [List.append_assoc, <- List.flatMap_append]
    exact List.Perm.append_left L (hperm.flatMap_right M))
   have hRo : Own w0 (R.flatMap M) := by
    intro p hp
    obtain ⟨k, hk, hpk⟩ := List.mem_flatMap.1 hp
    rw [hR] at hk
    have hk' := (h.ownd k).1 (List.mem_filter.1 hk).1
    exact (h.fact k (hk'.1.imp And.right (fun h => h))).2 p hpk
   have hin : ∀ k ∈ deps i, ∀ p ∈ M k, p ∈ R.flatMap M ++ (cons i).flatMap M := fun k hk p hp => by
    have hko : k ∈ own := by
     rw [h.ownd]
     refine ⟨hdlp k hk, fun j hj hlj hkj => ?_⟩
     by_cases hji : j = i
     ·
      subst hji; rw [hunf] at hlj; cases hlj
     obtain ⟨o', ho', e, he, hb, hon⟩ := hlate k hk j hj hji hkj
     have := h.closed j o' ho' hlj e he hb
     rw [hon, hunf] at this; cases this
    rw [<- List.flatMap_append]
    exact List.mem_flatMap.2 ⟨k, (hperm.mem_iff).1 hko, hp⟩
   refine jpW ho hg h.kn ?_
   refine hop i o hol V M E (R.flatMap M) w _ (fun k hk => h.fact k (hdl k hk)) (fun k hk o' d' hk' hd' => h.new k o' d' hk' hd' ((hdl k hk).resolve_right fun h => by have := (hpre k h).1; have := (List.getElem?_eq_some_iff.1 hk').1; omega)) h.old hRo hin hhs fun v m w' hΦ hmo hs' a' ha' => ⟨rfl, ?_⟩
   refine ih _ _ _ ⟨by simpa using hsz, fun k => if k = i then v else V k, fun k => if k = i then m else M k, putE o.dst v E, R ++ [i], ?_⟩ ?_
   ·
    have hRi : i ∉ R := fun hm => by
     rw [hR] at hm
     have := ((h.ownd i).1 (List.mem_filter.1 hm).1).1.resolve_right hipre
     rw [hunf] at this; cases this.2
    refine ⟨ha', fun d' v' hl hn => ?_, fun k o' d' hk hd' hl => ?_, fun k hl => ?_, ?_, ?_, ?_, fun k => ?_⟩
    ·
     rw [jmE (hn i o hol)]
     exact h.old d' v' hl hn
    ·
     by_cases hki : k = i
     ·
      subst hki
      have : o' = o := Option.some.inj (hk.symm.trans hol)
      subst this
      rw [hd']
      simp [putE, jdU]
     rw [jmE (fun hq => hdu d' hq k o' hk hki hd')]
     simp only [hki, if_false]
     exact h.new k o' d' hk hd' (by rwa [getD_set_ne false (Ne.symm hki)] at hl)
    ·
     by_cases hki : k = i
     ·
      subst hki
      simp only [if_true]
      refine ⟨hloc k _ _ v m (fun d hd => ?_) hΦ, hmo⟩
      have : d ≠ k := fun hq => by
       rcases hdl d hd with this | this
       ·
        rw [hq, hunf] at this; cases this
       rw [hq] at this; exact hipre this
      simp [this]
     have hl' : listed.getD k false = true ∨ k ∈ pre := hl.imp (fun h => by rwa [getD_set_ne false (Ne.symm hki)] at h) (fun h => h)
     obtain ⟨f1, f2⟩ := h.fact k hl'
     simp only [hki, if_false]
     refine ⟨hloc k _ _ _ _ (fun d hd => ?_) f1, f2⟩
     rcases hl' with hl' | hl'
     ·
      have hkl : k < l.length := by
       by_cases hks : k < listed.size
       ·
        omega
       simp [Array.getD, hks] at hl'
      have hko : l[k]? = some l[k] := by simp [hkl]
      obtain ⟨_, _, _, hdep', _⟩ := hB' k l[k] hko
      have : d ≠ i := fun hq => by
       rcases hdep' d hd with h8 | ⟨e, he, hb, hon⟩
       ·
        rw [hq] at h8; exact hipre h8
       have h9 := h.closed k l[k] hko hl' e he hb
       rw [hon, hq, hunf] at h9; cases h9
      simp [this]
     rw [(hpre k hl').2] at hd; cases hd
    ·
     have e1 : R.flatMap (fun k => if k = i then m else M k) = R.flatMap M := by
      refine jmG fun k hk => ?_
      have : k ≠ i := fun hq => hRi (hq ▸ hk)
      simp [this]
     rw [List.flatMap_append, e1, <- List.append_assoc]
     simpa using hs'
    ·
     rw [List.nodup_append]
     refine ⟨by rw [hR]; exact h.nodup.filter _, by simp, fun x hx y hy hxy => ?_⟩
     simp at hy
     subst hxy hy
     exact hRi hx
    ·
     intro j oj hj hlj e he hb
     by_cases hji : i = j
     ·
      subst hji
      have : oj = o := Option.some.inj (hj.symm.trans hol)
      subst this
      exact getD_set_true (hall e he hb)
     rw [getD_set_ne false hji] at hlj
     exact getD_set_true (h.closed j oj hj hlj e he hb)
    rw [List.mem_append, List.mem_singleton]
    constructor
    ·
     rintro (hk | rfl)
     ·
      rw [hR] at hk
      obtain ⟨hk1, hk2⟩ := List.mem_filter.1 hk
      obtain ⟨h12, h3⟩ := (h.ownd k).1 hk1
      refine ⟨h12.imp (fun h => ⟨h.1, getD_set_true h.2⟩) (fun h => h), fun j hj hlj => ?_⟩
      by_cases hji : j = i
      ·
       subst hji; simpa using hk2
      exact h3 j hj (by rwa [getD_set_ne false (Ne.symm hji)] at hlj)
     refine ⟨.inl ⟨hil, by simp [Array.getD, his]⟩, fun j hj hlj hkj => ?_⟩
     have hjo : l[j]? = some l[j] := by simp [hj]
     obtain ⟨_, _, _, hdep', hcd', _⟩ := hB' j l[j] hjo
     by_cases hji : j = k
     ·
      subst hji
      obtain ⟨e, he, hb, hon⟩ := (hdep' j (hcd' j hkj)).resolve_left hipre
      obtain ⟨_, _, h7, _⟩ := hB' j l[j] hjo
      have := h7 e he hb
      omega
     rw [getD_set_ne false (Ne.symm hji)] at hlj
     obtain ⟨e, he, hb, hon⟩ := (hdep' k (hcd' k hkj)).resolve_left hipre
     have := h.closed j l[j] hjo hlj e he hb
     rw [hon, hunf] at this
     cases this
    rintro ⟨hk12, hk3⟩
    by_cases hki : k = i
    ·
     exact .inr hki
    left
    rw [hR, List.mem_filter]
    refine ⟨(h.ownd k).2 ⟨hk12.imp (fun h => ⟨h.1, by rw [<- getD_set_ne false (Ne.symm hki)]; exact h.2⟩) (fun h => h), fun j hj hlj => hk3 j hj (getD_set_true hlj)⟩, ?_⟩
    have := hk3 i hil (by simp [Array.getD, his])
    simpa using this
   have h1 : listed.toList[i]? = some false := by
    have : listed[i]'his = false := by simpa [Array.getD, his] using hunf
    simp [his, this]
   have h2 : (listed.setIfInBounds i true).toList = listed.toList.set i true := by simp
   rw [h2, List.count_set (by simpa using his)]
   have h3 : listed.toList[i]'(by simpa using his) = false := by simpa [his] using h1
   simp [h3, hc]
 refine key l.length _ a _ ⟨by simp, fun _ => .nilIface, M0, e0, pre, ⟨ha, fun d v h _ => h, fun k o d _ _ hl => ?_, fun k hl => ?_, hs.drewN 1, hpnd, fun j o _ hl => ?_, fun k => ?_⟩⟩ (by simp)
 ·
  simp [Array.getD] at hl
 ·
  rcases hl with hl | hl
  ·
   simp [Array.getD] at hl
  exact hp0 k hl _
 ·
  simp [Array.getD] at hl
 constructor
 ·
  exact fun hk => ⟨.inr hk, fun j _ hlj => by simp [Array.getD] at hlj⟩
 rintro ⟨⟨_, hk⟩ | hk, _⟩
 ·
  simp [Array.getD] at hk
 exact hk
section
variable {P : Program} {n : Nat} {e : Env} {w w0 : World} {L M : Bks} {ops : Array Oper} {rest : List Oper} {t : TypeId} {p : String} {af : Array Edge} {K : Act -> Bks -> Prop}
theorem HB_callV {S0 : FuncId -> Array Value -> Value -> Prop} {d : Nat} (hd : Nat.blt d n = true) {f : FuncId} {x : Operand} {first cap : List Value} {xs : List Operand} {l : List Value} {ats : Array TypeId} (hf : Fun P f) (hv : jaD e x = some (.func (.func f) first.toArray cap.toArray)) (hx : jdF e xs = some l)
  (hc : ∀ w R, Own w0 R -> HS w0 w (L ++ R) -> Ret P f (first ++ l ++ cap) w (fun v w' => S0 f (first ++ l ++ cap).toArray v /\ HS w0 w' (L ++ R)))
  (h : ∀ v, S0 f (first ++ l ++ cap).toArray v -> HB P n ops w0 L (jmZ S0) K rest M ((d, v) :: e)) : HB P n ops w0 L (jmZ S0) K (Oper.mk (some d) (.call { callee := .value x, args := xs.toArray, argTypes := ats }) t p af none :: rest) M e := by
 intro a ha
 have he : ∀ w, (execOp a.eval (Oper.mk (some d) (.call { callee := .value x, args := xs.toArray, argTypes := ats }) t p af none)).run P w = .ok (.enter f (first ++ l ++ cap).toArray) w := fun w => by
  have e1 := jdX ha hx
  simp [execOp, resolve, Deferred.ofValue, invoke, ha.eval hv, hf.run]
  rw [<- e1]
 refine ⟨fun _ R w hR hw => ?_, fun v m hv hm => ?_⟩
 ·
  rw [he w]
  refine Calls.mono (hc w R hR hw) fun ex w' hx => ?_
  obtain ⟨v, rfl, h1, h2⟩ := hx
  exact ⟨v, [], rfl, ⟨h1, rfl⟩, by rw [List.append_nil]; exact h2, Own.nil⟩
 rcases hv with ⟨_, R, w, hR, hw, hm'⟩ | ⟨hx, _⟩
 ·
  rw [he w] at hm'
  obtain ⟨h1, rfl⟩ := hm'
  rw [List.append_nil]
  exact h v h1 _ (ha.put hd v)
 simp [Region.wanted] at hx
variable {d : Nat} {T T' : TypeId} {x y : Operand}
theorem R_shl {k yk : IntKind} {i j c : Int} (hx : jaD e x = some (.int k i)) (hy : jaD e y = some (.int yk j)) (h0 : 0 <= j) (hc : k.wrap (i * 2 ^ (min j.toNat k.bits)) = c) :
  ∀ act, Kn n act e -> (execOp act.eval (Oper.mk (some d) (.binOp .shl T x y T') t p af none)).run P w = .ok (.value (.int k c)) w :=
 jhR hx hy (fun _ _ => rfl) (by
  show (Op.shift .shl k i yk j).run P w = _
  unfold Op.shift
  subst hc
  rw [if_neg (by omega)]; rfl)
theorem R_shr {k yk : IntKind} {i j c : Int} (hx : jaD e x = some (.int k i)) (hy : jaD e y = some (.int yk j)) (h0 : 0 <= j) (hc : i.fdiv (2 ^ (min j.toNat k.bits)) = c) :
  ∀ act, Kn n act e -> (execOp act.eval (Oper.mk (some d) (.binOp .shr T x y T') t p af none)).run P w = .ok (.value (.int k c)) w :=
 jhR hx hy (fun _ _ => rfl) (by
  show (Op.shift .shr k i yk j).run P w = _
  unfold Op.shift
  subst hc
  rw [if_neg (by omega)]; rfl)
theorem R_indexS {S : ByteArray} {k : IntKind} {i : Nat} {b : UInt8} (hT : P.underlying T = some .string) (hx : jaD e x = some (.string S)) (hy : jaD e y = some (.int k (i : Int))) (hb : S[i]? = some b) :
  ∀ act, Kn n act e -> (execOp act.eval (Oper.mk (some d) (.index T x y) t p af none)).run P w = .ok (.value (.int .u8 b.toNat)) w := fun act ha => by
 have hr : (Instr.index T (.string S) (.int k (i : Int))).run P w = .ok (.int .u8 b.toNat) w := by
  unfold Instr.index
  simp [asIntOf, run_underlying hT, hb]
 simp [execOp, ha.eval hx, ha.eval hy, hr]
end
theorem jkW {P : Program} {n : Nat} {e : Env} {w : World} {fn : Func} {R : Ending -> World -> Prop} {p u : Tmp} {ty : TypeId} {ad : Addr} {cs : List Value} {z v : Value} {b : Nat} (hr : fn.results = #[.cell p ty, .tmp u]) (hp : look e p = some (.pointer (some ad))) (hu : look e u = some v) (hT : Agg P ty) (hi : TI P ty z cs.length b) (hc : jbF w ad cs) (h : R (.returned (.tuple #[.agg cs.toArray, v])) w) : Ex n (bodyPost P fn R) .ret e w :=
 fun a ha => ⟨ha.2.1, _, by
  have hl := run_loadCells_list (P := P) w ad cs hc
  have h1 := jeP ha hp
  have h2 : a.tmps[p]?.getD undef = .pointer (some ad) := by simpa using h1
  have h3 := jeP ha hu
  have h4 : a.tmps[u]?.getD undef = v := by simpa using h3
  simp [results, hr, h2, h4, asAddr, loadVar, hT.run, hi.sizeOf, hl], h⟩
section
variable {P : Program} {n : Nat} {Q : jeG} {e : Env} {w w0 : World} {L : Bks} {ops : Array Oper} {rest : List Oper} {t : TypeId} {p : String} {af : Array Edge} {d : Nat}
variable {κ ν : Type} {ek : κ -> Value} {ev : ν -> Value} {T kt et : TypeId}
theorem R_mlen {x : Operand} {l : List (κ × ν × Nat)} {ck b : Nat} (hT : P.underlying T = some (.map kt et)) (hb : w.heap[b]? = some (jeY ek ev l ck)) (hx : jaD e x = some (.map (some b))) :
  ∀ act, Kn n act e -> (execOp act.eval (Oper.mk (some d) (.call { callee := .builtin .len, args := #[x], argTypes := #[T] }) t p af none)).run P w = .ok (.value (.int .i64 l.length)) w :=
 fun a ha => by
  have h1 : (Builtin.len_ #[T] t #[.map (some b)]).run P w = .ok (.int .i64 l.length) w := by
   simp [Builtin.len_, run_underlying hT, Go.MapKept.run_getObj_map hb, goInt, jcD]
  simp [execOp, ha.eval hx, resolve, invoke, builtin, h1]
theorem L_mlen {x : Operand} {l : List (κ × ν × Nat)} {ck b : Nat} (hd : Nat.blt d n = true) (hT : P.underlying T = some (.map kt et)) (hb : w.heap[b]? = some (jeY ek ev l ck)) (hx : jaD e x = some (.map (some b)))
  (h : RL P n ops rest Q ((d, .int .i64 l.length) :: e) w) : RL P n ops (Oper.mk (some d) (.call { callee := .builtin .len, args := #[x], argTypes := #[T] }) t p af none :: rest) Q e w :=
 jaT hd (R_mlen hT hb hx) h
end
theorem jpQ (u v : Value) (k : Nat) : madeCells #[u, v] (k * 2) = ((List.replicate k [u, v]).flatten).toArray := by
 apply Array.toList_inj.1
 rw [List.toList_toArray]
 induction k with
 | zero => simp [madeCells]
 | succ k ih =>
  have h1 : (madeCells #[u, v] ((k + 1) * 2)).toList = (madeCells #[u, v] (k * 2)).toList ++ [u, v] := by
   unfold madeCells
   simp [show (k + 1) * 2 = k * 2 + 1 + 1 by omega, List.range_succ]
  rw [h1, ih, List.replicate_succ', List.flatten_append]; simp
section
variable {P : Program} {n : Nat} {e : Env} {w : World} {t : TypeId} {p : String} {af : Array Edge} {d : Nat} {T : TypeId} {x y : Operand}
end
end Go.Lk
