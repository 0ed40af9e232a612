/-
  A part of the proof: what functions that the statement reaches do, or a plain law on what they do. Each theorem holds under its own premises alone.
-/
import Derived.Test.YtoiobncojfeoiaaTUX
import Derived.Test.YtoiobncojfeoiaaKitQ
import Derived.Test.YtoiobncojfeoiaaTUP
namespace Go.Proofs.Ytoiobncojfeoiaa
open Go Go.Lk
/-! ### GuardTurns -/
def numsN (k : Nat) : List Int := (List.range k).map fun j : Nat => (j : Int) + 1
theorem numsN_succ (k : Nat) : numsN (k + 1) = numsN k ++ [(k : Int) + 1] := by unfold numsN; rw [List.range_succ, List.map_append]; rfl
theorem numsN_len (k : Nat) : (numsN k).length = k := by unfold numsN; simp
theorem numsN_nodup (k : Nat) : (numsN k).Nodup := by
  unfold numsN
  refine List.pairwise_map.2 ((List.nodup_range (n := k)).imp fun h e => h ?_)
  omega
theorem numsN_get {k i : Nat} (h : i < k) : (numsN k).getD i 0 = (i : Int) + 1 := by
  unfold numsN
  rw [List.getD_eq_getElem?_getD, List.getElem?_map, List.getElem?_range h]; rfl
theorem zs_get {gz : List Zn} (h : gz.map (·.num) = numsN gz.length) {i : Nat} (hi : i < gz.length) : (gz.getD i zn0).num = (i : Int) + 1 := by
  have h1 : (gz.map (·.num)).getD i 0 = (gz.getD i zn0).num := by
    rw [List.getD_eq_getElem?_getD, List.getElem?_map, List.getD_eq_getElem?_getD, List.getElem?_eq_getElem hi]; rfl
  rw [← h1, h, numsN_get hi]
theorem cr_le {zs : List AZ} {i : Nat} (h : i < zs.length) : (zs.getD i az0).ps.length / 4 ≤ crS zs zs.length := by
  have key : ∀ k, i < k → k ≤ zs.length → (zs.getD i az0).ps.length / 4 ≤ crS zs k := by
    intro k
    induction k with
    | zero => intro h; exact absurd h (Nat.not_lt_zero _)
    | succ k ih =>
      intro h1 h2
      rw [crS_succ (by omega)]
      by_cases hik : i < k
      · have := ih hik (by omega); omega
      · obtain rfl : i = k := by omega
        omega
  exact key _ h (Nat.le_refl _)
theorem tk_mono (ls : List LK) {i k : Nat} (h : i ≤ k) (hk : k ≤ ls.length) : tkS ls i ≤ tkS ls k := by
  induction k with
  | zero => obtain rfl : i = 0 := by omega
            exact Nat.le_refl _
  | succ k ih =>
    by_cases hik : i ≤ k
    · have := ih hik (by omega)
      rw [tkS_succ (by omega)]; omega
    · obtain rfl : i = k + 1 := by omega
      exact Nat.le_refl _
theorem il_app (xs ys : List Int) : il (xs ++ ys) = il xs ++ il ys := by unfold il; exact List.map_append ..
/-- the zones that were taken, beside those that came in -/
structure ZOk (w0 : World) (gz : List Zn) (kz : List AZ) : Prop where
  len : kz.length = gz.length
  nums : gz.map (·.num) = numsN gz.length
  same : ∀ j, j < gz.length → (gz.getD j zn0).ps = (kz.getD j az0).ps
  at' : ∀ j, j < gz.length → SlC w0 (kz.getD j az0).a (pcs (kz.getD j az0).ps)
theorem ZOk.snoc {w0 : World} {gz : List Zn} {kz : List AZ} (h : ZOk w0 gz kz) {z : Zn} {k : AZ} (h1 : z.num = (gz.length : Int) + 1) (h2 : z.ps = k.ps) (h3 : SlC w0 k.a (pcs k.ps)) : ZOk w0 (gz ++ [z]) (kz ++ [k]) := by
  have e1 : ∀ j, j < gz.length → (gz ++ [z]).getD j zn0 = gz.getD j zn0 := fun j hj => by rw [List.getD_eq_getElem?_getD, List.getElem?_append_left hj, ← List.getD_eq_getElem?_getD]
  have e2 : ∀ j, j < gz.length → (kz ++ [k]).getD j az0 = kz.getD j az0 := fun j hj => by rw [List.getD_eq_getElem?_getD, List.getElem?_append_left (by rw [h.len]; exact hj), ← List.getD_eq_getElem?_getD]
  have e3 : (gz ++ [z]).getD gz.length zn0 = z := by simp
  have e4 : (kz ++ [k]).getD gz.length az0 = k := by rw [← h.len]; simp
  refine ⟨by simp [h.len], ?_, fun j hj => ?_, fun j hj => ?_⟩
  · rw [List.map_append, h.nums, List.length_append, List.length_singleton, numsN_succ, List.map_singleton, h1]
  · rw [List.length_append, List.length_singleton] at hj
    by_cases hj2 : j < gz.length
    · rw [e1 j hj2, e2 j hj2]; exact h.same j hj2
    · obtain rfl : j = gz.length := by omega
      rw [e3, e4]; exact h2
  · rw [List.length_append, List.length_singleton] at hj
    by_cases hj2 : j < gz.length
    · rw [e2 j hj2]; exact h.at' j hj2
    · obtain rfl : j = gz.length := by omega
      rw [e4]; exact h3
structure LA where
  v : Value
  M : Bks
  gz : List Zn
  kz : List AZ
  vn : Value
  Mn : Bks
  vk : Value
  Mk : Bks
structure LB where
  v : Value
  M : Bks
  gz : List Zn
  kz : List AZ
  an : Option Addr
  cn : Nat
  Mn : Bks
  ak : Option Addr
  ck : Nat
  Mk : Bks
theorem AZ.one (z : AZ) : ∀ v ∈ z.cells, v.oneCell' = true := by
  intro v hv
  unfold AZ.cells at hv
  simp only [List.mem_cons, List.not_mem_nil, or_false] at hv
  rcases hv with rfl | rfl <;> rfl
theorem LK.one (l : LK) : ∀ v ∈ l.cells, v.oneCell' = true := by
  intro v hv
  unfold LK.cells at hv
  simp only [List.mem_cons, List.not_mem_nil, or_false] at hv
  rcases hv with rfl | rfl <;> rfl
theorem Al.one (l : Al) : ∀ v ∈ l.cells, v.oneCell' = true := by
  intro v hv
  unfold Al.cells at hv
  simp only [List.mem_cons, List.not_mem_nil, or_false] at hv
  rcases hv with rfl | rfl | rfl | rfl <;> rfl
end Go.Proofs.Ytoiobncojfeoiaa
