/-
  A part of the proof: what functions that the statement reaches do, or a plain law on what they do. Each theorem holds under its own premises alone.
-/
import Derived.Test.YtihhloeakenfgaaTD9
namespace Go.Proofs.Ytihhloeakenfgaa
open Go Go.Lk
theorem rowsC2 {w : World} {B g0 g1 l0 l1 c0 c1 : Nat} {r0 r1 : CL} (h : SlC w (some ⟨B, 0, none⟩) [.slice (some ⟨g0, 0, none⟩) l0 c0, .slice (some ⟨g1, 0, none⟩) l1 c1]) (h0 : SlC w (some ⟨g0, 0, none⟩) (cl r0)) (h1 : SlC w (some ⟨g1, 0, none⟩) (cl r1)) (e0 : r0.length = l0) (e1 : r1.length = l1) (k0 : l0 ≤ c0) (k1 : l1 ≤ c1) :
    RowsC w (some ⟨B, 0, none⟩) [r0, r1] [.slice (some ⟨g0, 0, none⟩) l0 c0, .slice (some ⟨g1, 0, none⟩) l1 c1] := by
  subst e0 e1
  refine ⟨h, rfl, fun i hi => ?_⟩
  match i, hi with
  | 0, _ => exact ⟨_, _, rfl, k0, h0⟩
  | 1, _ => exact ⟨_, _, rfl, k1, h1⟩
theorem rowsC1 {w : World} {B g0 l0 c0 : Nat} {r0 : CL} (h : SlC w (some ⟨B, 0, none⟩) [.slice (some ⟨g0, 0, none⟩) l0 c0]) (h0 : SlC w (some ⟨g0, 0, none⟩) (cl r0)) (e0 : r0.length = l0) (k0 : l0 ≤ c0) :
    RowsC w (some ⟨B, 0, none⟩) [r0] [.slice (some ⟨g0, 0, none⟩) l0 c0] := by
  subst e0
  refine ⟨h, rfl, fun i hi => ?_⟩
  match i, hi with
  | 0, _ => exact ⟨_, _, rfl, k0, h0⟩
theorem cell_at {w : World} {A o j : Nat} {cs : List Value} {v : Value} (h : SlC w (some ⟨A, 0, none⟩) cs) (hv : cs[o + j]? = some v) : w.cell? ((Addr.mk A o none).add j) = some v := by
  have := h.2 (o + j) v hv
  have e : (Addr.mk A o none).add j = (aD (some ⟨A, 0, none⟩)).add (o + j) := by
    show _ = (Addr.mk A 0 none).add (o + j)
    rw [add_lit0]
    exact (Addr.add_lit ..)
  rw [e]; exact this
/-- sums of two terms -/
theorem slow2 {xs ys : CL} (h : SlowR xs ys 2) :
    (cn (ys.getD 0 (0, 0)).1 = cn (sumN [mulF (xs.getD 0 (0, 0)) (4607182418800017408, 0), mulF (xs.getD 1 (0, 0)) (4607182418800017408, 0)] 1).1 ∧ cn (ys.getD 0 (0, 0)).2 = cn (sumN [mulF (xs.getD 0 (0, 0)) (4607182418800017408, 0), mulF (xs.getD 1 (0, 0)) (4607182418800017408, 0)] 1).2) ∧
    (cn (ys.getD 1 (0, 0)).1 = cn (sumN [mulF (xs.getD 0 (0, 0)) (4607182418800017408, 0), mulF (xs.getD 1 (0, 0)) (13830554455654793216, 0)] 1).1 ∧ cn (ys.getD 1 (0, 0)).2 = cn (sumN [mulF (xs.getD 0 (0, 0)) (4607182418800017408, 0), mulF (xs.getD 1 (0, 0)) (13830554455654793216, 0)] 1).2) := by
  obtain ⟨U, hUl, hU, hS⟩ := h.ex
  have u0 := (hU 0 (by decide)).1 rfl (by decide)
  have u1 := (hU 1 (by decide)).2 rfl (by decide)
  have e0 : U.getD 0 (0, 0) = (4607182418800017408, 0) := by
    generalize U.getD 0 (0, 0) = z at u0
    obtain ⟨a, b⟩ := z
    obtain ⟨rfl, rfl⟩ := u0; rfl
  have e1 : U.getD 1 (0, 0) = (13830554455654793216, 0) := by
    generalize U.getD 1 (0, 0) = z at u1
    obtain ⟨a, b⟩ := z
    obtain ⟨rfl, rfl⟩ := u1; rfl
  have key : ∀ j, j < 2 → cn (ys.getD j (0, 0)).1 = cn (sumN [mulF (xs.getD 0 (0, 0)) (U.getD (j * 0 % 2) (0, 0)), mulF (xs.getD 1 (0, 0)) (U.getD (j * 1 % 2) (0, 0))] 1).1 ∧ cn (ys.getD j (0, 0)).2 = cn (sumN [mulF (xs.getD 0 (0, 0)) (U.getD (j * 0 % 2) (0, 0)), mulF (xs.getD 1 (0, 0)) (U.getD (j * 1 % 2) (0, 0))] 1).2 := fun j hj => by
    obtain ⟨ts, htl, hT, s1, s2⟩ := hS j hj
    have hc := sumN_congr (ts := ts) (us := [mulF (xs.getD 0 (0, 0)) (U.getD (j * 0 % 2) (0, 0)), mulF (xs.getD 1 (0, 0)) (U.getD (j * 1 % 2) (0, 0))]) 1 (fun q hq => by
      match q, hq with
      | 0, _ =>
        obtain ⟨t1, t2⟩ := hT 0 (by decide)
        exact ⟨t1.trans (cn_mulF _ _).1.symm, t2.trans (cn_mulF _ _).2.symm⟩
      | 1, _ =>
        obtain ⟨t1, t2⟩ := hT 1 (by decide)
        exact ⟨t1.trans (cn_mulF _ _).1.symm, t2.trans (cn_mulF _ _).2.symm⟩)
    exact ⟨s1.trans hc.1, s2.trans hc.2⟩
  have k0 := key 0 (by decide)
  have k1 := key 1 (by decide)
  simp only [Nat.zero_mul, Nat.zero_mod, Nat.mul_zero, Nat.mul_one, Nat.one_mul, show 1 % 2 = 1 from rfl] at k0 k1
  rw [e0] at k0 k1
  rw [e1] at k1
  exact ⟨k0, k1⟩
/-- two rows parted by speed -/
theorem dop2 {rows : List CL} {ws : List Nat} {zs : CL} {n g a0 b0 a1 b1 y0 z0 y1 z1 : Nat} (h : DopR rows ws zs 2 n g)
    (x0 : (fop .mul ((rows.getD 0 []).getD g (0, 0)).1 (ws.getD 0 0), fop .mul ((rows.getD 0 []).getD g (0, 0)).2 (ws.getD 0 0)) = (a0, b0)) (x1 : (fop .mul ((rows.getD 1 []).getD g (0, 0)).1 (ws.getD 1 0), fop .mul ((rows.getD 1 []).getD g (0, 0)).2 (ws.getD 1 0)) = (a1, b1))
    (n0 : isnan a0 = false ∧ isnan b0 = false ∧ isnan a1 = false ∧ isnan b1 = false)
    (hy0 : sumN [mulF (a0, b0) (4607182418800017408, 0), mulF (a1, b1) (4607182418800017408, 0)] 1 = (y0, z0)) (hy1 : sumN [mulF (a0, b0) (4607182418800017408, 0), mulF (a1, b1) (13830554455654793216, 0)] 1 = (y1, z1))
    (n1 : isnan y0 = false ∧ isnan z0 = false ∧ isnan y1 = false ∧ isnan z1 = false) : zs.getD (0 * n + g) (0, 0) = (y0, z0) ∧ zs.getD (1 * n + g) (0, 0) = (y1, z1) := by
  obtain ⟨xs, ys, hxl, hyl, hx, hS, hz⟩ := h
  obtain ⟨p1, p2⟩ := hx 0 (by decide)
  obtain ⟨q1, q2⟩ := hx 1 (by decide)
  have e0 : xs.getD 0 (0, 0) = (a0, b0) := by
    injection x0 with i1 i2
    exact pair_eq (p1.trans (i1.trans (cn_num n0.1).symm)) (p2.trans (i2.trans (cn_num n0.2.1).symm)) n0.1 n0.2.1
  have e1 : xs.getD 1 (0, 0) = (a1, b1) := by
    injection x1 with i1 i2
    exact pair_eq (q1.trans (i1.trans (cn_num n0.2.2.1).symm)) (q2.trans (i2.trans (cn_num n0.2.2.2).symm)) n0.2.2.1 n0.2.2.2
  obtain ⟨⟨s1, s2⟩, t1, t2⟩ := slow2 hS
  rw [e0, e1] at s1 s2 t1 t2
  rw [hy0] at s1 s2
  rw [hy1] at t1 t2
  exact ⟨(hz 0 (by decide)).trans (pair_eq s1 s2 n1.1 n1.2.1), (hz 1 (by decide)).trans (pair_eq t1 t2 n1.2.2.1 n1.2.2.2)⟩
end Go.Proofs.Ytihhloeakenfgaa
