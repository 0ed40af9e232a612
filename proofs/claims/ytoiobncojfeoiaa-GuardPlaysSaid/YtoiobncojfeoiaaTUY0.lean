/-
  A part of the proof: what functions that the statement reaches do, or a plain law on what they do. Each theorem holds under its own premises alone.
-/
import Derived.Test.YtoiobncojfeoiaaTUX
import Derived.Test.YtoiobncojfeoiaaKitQ
import Derived.Test.YtoiobncojfeoiaaTUP
namespace Go.Proofs.Ytoiobncojfeoiaa
open Go Go.Lk
/-! ### GuardTurns -/
theorem nfX_fv {x : Nat} {v : Int} (h : FV x v) : nfX x = false := by
  obtain ⟨c, hc⟩ : ∃ c, c = 1074 := ⟨_, rfl⟩
  obtain ⟨r, h1, h2⟩ := fv_sub c hc h h (by rw [Int.sub_self]; exact Nat.zero_le _)
  rw [Int.sub_self, rd_zero] at h2
  have h0 : FV 0 0 := ⟨false, 0, by simp [Ieee.Format.word], by decide, by rw [show rv 0 = 0 from rv_zero.2 rfl]; rfl⟩
  unfold nfX eqB
  rw [fop_some' h1, h2.order h0, Int.compare_eq_eq.2 rfl]
  rfl
def numsN (k : Nat) : List Int := (List.range k).map fun j : Nat => (j : Int) + 1
theorem il_app (xs ys : List Int) : il (xs ++ ys) = il xs ++ il ys := by unfold il; exact List.map_append ..
/-- the zones that were taken, beside those that came in -/
structure ZOk (w0 : World) (gz : List Zn) (kz : List AZ) : Prop where
  len : kz.length = gz.length
  nums : gz.map (·.num) = numsN gz.length
  same : ∀ j, j < gz.length → (gz.getD j zn0).ps = (kz.getD j az0).ps
  at' : ∀ j, j < gz.length → SlC w0 (kz.getD j az0).a (pcs (kz.getD j az0).ps)
structure LA where
  v : Value
  M : Bks
  gz : List Zn
  kz : List AZ
  vn : Value
  Mn : Bks
  vk : Value
  Mk : Bks
structure LB where
  v : Value
  M : Bks
  gz : List Zn
  kz : List AZ
  an : Option Addr
  cn : Nat
  Mn : Bks
  ak : Option Addr
  ck : Nat
  Mk : Bks
theorem AZ.one (z : AZ) : ∀ v ∈ z.cells, v.oneCell' = true := by
  intro v hv
  unfold AZ.cells at hv
  simp only [List.mem_cons, List.not_mem_nil, or_false] at hv
  rcases hv with rfl | rfl <;> rfl
theorem LK.one (l : LK) : ∀ v ∈ l.cells, v.oneCell' = true := by
  intro v hv
  unfold LK.cells at hv
  simp only [List.mem_cons, List.not_mem_nil, or_false] at hv
  rcases hv with rfl | rfl <;> rfl
theorem Al.one (l : Al) : ∀ v ∈ l.cells, v.oneCell' = true := by
  intro v hv
  unfold Al.cells at hv
  simp only [List.mem_cons, List.not_mem_nil, or_false] at hv
  rcases hv with rfl | rfl | rfl | rfl <;> rfl
end Go.Proofs.Ytoiobncojfeoiaa
