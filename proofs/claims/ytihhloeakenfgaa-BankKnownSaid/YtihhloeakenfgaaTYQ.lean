/-
  A part of the proof: what functions that the statement reaches do, or a plain law on what they do. Each theorem holds under its own premises alone.
-/
import Derived.Test.YtihhloeakenfgaaKit
import Derived.Scope
import Derived.ArgAppend
namespace Go.Lk
open Go
/-! ### Scopes -/
section
variable {P : Program} {n : Nat} {Q : Post} {e : Env} {w w0 : World}
theorem W_scope {c : Code} (h : W P n c (Exit.noGoto Q) e w) : W P n (.scope c) Q e w := fun a ha => wp_scope_straight (h a ha)
theorem Nx_scope (h : Nx n Q e w) : Nx n (Exit.noGoto Q) e w := fun a ha => h a ha
theorem Ex_scope_ret (h : Ex n Q .ret e w) : Ex n (Exit.noGoto Q) .ret e w := fun a ha => h a ha
theorem Ex_scope_exit {id : Nat} (h : Ex n Q (.exit id) e w) : Ex n (Exit.noGoto Q) (.exit id) e w := fun a ha => h a ha
end
/-! ### Queues of whole numbers -/
def Qu (w0 : World) (E : TypeId) (v : Value) (xs : List Int) (M : List (Nat × Obj)) : Prop :=
  ∃ g o cap, ∃ pre sp : List Value, v = .slice (some ⟨g, o, none⟩) xs.length cap ∧ M = [(g, Row E (pre ++ il xs ++ sp))] ∧ pre.length = o ∧ w0.heap.size ≤ g ∧ xs.length ≤ cap ∧ cap ≤ xs.length + sp.length
theorem Qu.own {w0 : World} {E : TypeId} {v : Value} {xs : List Int} {M : List (Nat × Obj)} (h : Qu w0 E v xs M) : Own w0 M := by
  obtain ⟨g, o, cap, pre, sp, _, rfl, _, hg, _⟩ := h
  exact Own.cons hg Own.nil
theorem run_append_qu {P : Program} {w0 w : World} {L : List (Nat × Obj)} {T E ty : TypeId} {z : Value} {b : Nat} {v : Value} {xs : List Int} {M : List (Nat × Obj)}
    (hT : P.underlying T = some (.slice E)) (hi : TI P E z 1 b) (hz : z.cells.size = 1) (hs : HS w0 w (L ++ M)) (hq : Qu w0 E v xs M)
    {ad : Addr} {c : Nat} {x : Int} (hnews : CellsAt w ad [.int .i64 x]) (h63 : xs.length + 1 ≤ 9223372036854775807) (hbytes : (xs.length + 1) * b ≤ 140737488355328) :
    ∃ v' w' M', (Builtin.append_ #[T, T] ty #[v, .slice (some ad) 1 c]).run P w = .ok v' w' ∧ HS w0 w' (L ++ M') ∧ Qu w0 E v' (xs ++ [x]) M' := by
  obtain ⟨i, hi1, hi2, hi3, hi4⟩ := hi.ex
  obtain ⟨g, o, cap, pre, sp, rfl, rfl, hp, hg, hlc, hcs⟩ := hq
  subst hi4
  have hL : (L ++ [(g, Row E (pre ++ il xs ++ sp))])[L.length]? = some (g, Row E (pre ++ il xs ++ sp)) := by simp
  by_cases hroom : xs.length + 1 ≤ cap
  · obtain ⟨s0, sp', rfl⟩ : ∃ s0 sp', sp = s0 :: sp' := by
      cases sp with
      | nil => simp at hcs; omega
      | cons s0 sp' => exact ⟨s0, sp', rfl⟩
    have hcell : w.cell? ⟨g, o + xs.length, none⟩ = some s0 := hs.cell hL (by rw [← hp]; simp)
    have hr := run_append_room_cells (P := P) (w := w) T ty E i hT hi1 g o xs.length cap ad 1 c [.int .i64 x] (by simp [hi3]) hnews (by simp [Value.oneCell']) hroom
      (fun j hj => by
        obtain rfl : j = 0 := by simpa using hj
        rw [hi3, Nat.mul_one, Nat.add_zero, hcell]; rfl)
      (fun j hj => frozen_of_row (hs.get hL) _ rfl)
    rw [hi3, Nat.mul_one] at hr
    have hst := hs.store (j := o + xs.length) (v := .int .i64 x) hL
    have e1 : (pre ++ il xs ++ s0 :: sp').set (o + xs.length) (.int .i64 x) = pre ++ il (xs ++ [x]) ++ sp' := by
      rw [← il_snoc, List.set_append_right _ _ (by simp [hp])]
      simp [hp]
    refine ⟨_, _, [(g, Row E (pre ++ il (xs ++ [x]) ++ sp'))], hr, ?_, g, o, cap, pre, sp', ?_, rfl, hp, hg, ?_, ?_⟩
    · have e2 : w.setCells g (o + xs.length) [.int .i64 x] = w.setCell ⟨g, o + xs.length, none⟩ (.int .i64 x) := rfl
      rw [e2]
      rw [e1] at hst
      simpa using hst
    · simp
    · simp; omega
    · simp at hcs ⊢; omega
  · have holds : CellsAt w ⟨g, o, none⟩ (il xs) := fun j u hu => by
      have hj : j < (il xs).length := (List.getElem?_eq_some_iff.1 hu).1
      rw [Addr.add_lit]
      refine hs.cell hL ?_
      rw [List.append_assoc, List.getElem?_append_right (by omega), List.getElem?_append_left (by omega), hp, Nat.add_sub_cancel_left]
      exact hu
    have hr := run_append_grow (P := P) w T ty E i z hT hi1 hi2 ⟨g, o, none⟩ xs.length cap (il xs) (by simp [hi3]) holds ad 1 c [.int .i64 x] (by simp [hi3]) hnews (by omega) (by omega) (growslice_fits (by omega) hbytes)
    have hge := grownCap_ge w (xs.length + 1) cap E
    have e2 : (il xs).toArray ++ [Value.int .i64 x].toArray = (il (xs ++ [x])).toArray := by simp [← il_snoc]
    rw [e2, alloc_list] at hr
    refine ⟨_, _, [(w.heap.size, Row E (il (xs ++ [x]) ++ (Builtin.zeroCells z.cells (grownCap w (xs.length + 1) cap E - (xs.length + 1))).toList))], hr, ?_, w.heap.size, 0, grownCap w (xs.length + 1) cap E, [], _, ?_, rfl, rfl, hs.size, ?_, ?_⟩
    · have h2 := (hs.drewN 1).alloc (Row E (il (xs ++ [x]) ++ (Builtin.zeroCells z.cells (grownCap w (xs.length + 1) cap E - (xs.length + 1))).toList))
      refine h2.sub (fun p hp => ?_) ?_ (fun p hp => ?_)
      · rcases List.mem_append.1 hp with h3 | h3
        · simp [h3]
        · simp at h3; subst h3; simp
      · have := h2.nodup
        rw [List.map_append, List.map_append, List.append_assoc] at this
        rw [List.map_append]
        exact this.sublist (by simp)
      · simp only [List.mem_append, List.mem_singleton] at hp ⊢
        rcases hp with (h3 | h3) | h3
        · exact .inl (.inl h3)
        · right; subst h3; exact hg
        · exact .inl (.inr h3)
    · simp
    · simp; omega
    · simp only [List.length_append, Array.length_toList, size_zeroCells, hz, Nat.mul_one, List.length_cons, List.length_nil]; omega
section
variable {P : Program} {n : Nat} {Q : Post} {e : Env} {w w0 : World} {L : List (Nat × Obj)} {ops : Array Oper} {rest : List Oper} {t : TypeId} {p : String} {af : Array Edge}
theorem L_appendQ {d : Nat} (hd : Nat.blt d n = true) {T E : TypeId} {x y : Operand} {z : Value} {b : Nat} {v : Value} {xs : List Int} {M : List (Nat × Obj)} {bt c : Nat} {u : Int}
    (hT : P.underlying T = some (.slice E)) (hi : TI P E z 1 b) (hz : z.cells.size = 1) (hs : HS w0 w ((L ++ M) ++ [(bt, Row E [.int .i64 u])])) (hbt : w0.heap.size ≤ bt) (hq : Qu w0 E v xs M) (hx : evalE e x = some v)
    (hy : evalE e y = some (.slice (some ⟨bt, 0, none⟩) 1 c)) (h63 : xs.length + 1 ≤ 9223372036854775807) (hbytes : (xs.length + 1) * b ≤ 140737488355328)
    (h : ∀ v' w' M', HS w0 w' (L ++ M') → Qu w0 E v' (xs ++ [u]) M' → RL P n ops rest Q ((d, v') :: e) w') :
    RL P n ops (Oper.mk (some d) (.call { callee := .builtin .append, args := #[x, y], argTypes := #[T, T] }) t p af none :: rest) Q e w := by
  obtain ⟨v', w', M', hr, h2, h3⟩ := run_append_qu (P := P) (ty := t) hT hi hz hs.swap hq (x := u) (fun j y hy => hs.cellA (i := (L ++ M).length) (b := bt) (T := E) (cs := [.int .i64 u]) (by simp) hy) h63 hbytes (c := c)
  exact RL_val hd (fun a ha => by simp [execOp, ha.eval hx, ha.eval hy, resolve, invoke, builtin, hr]) (h v' w' M' (h2.swap.dropR (Own.cons hbt Own.nil)) h3)
end
end Go.Lk
