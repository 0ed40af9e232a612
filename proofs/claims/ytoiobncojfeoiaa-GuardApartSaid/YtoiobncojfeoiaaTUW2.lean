/-
  A part of the proof: what functions that the statement reaches do, or a plain law on what they do. Each theorem holds under its own premises alone.
-/
import Derived.Test.YtoiobncojfeoiaaKitQ
import Derived.Test.YtoiobncojfeoiaaTUW1
import Derived.Test.YtoiobncojfeoiaaTUD
namespace Go.Proofs.Ytoiobncojfeoiaa
open Go Go.Lk
/-! ### Corners from another place on, or the other way round -/
theorem order_at {s t : Bool} {m n : Nat} {i j E : Int} (hi : E ≤ i) (hj : E ≤ j) : (Ieee.Datum.number s m i).order (.number t n j) = some (compare (Ieee.signed s m (i - E).toNat) (Ieee.signed t n (j - E).toNat)) := by
  simp only [Ieee.Datum.order]
  obtain ⟨b, hbd⟩ : ∃ b, b = min i j := ⟨_, rfl⟩
  have hb1 : b ≤ i ∧ b ≤ j ∧ E ≤ b := by omega
  rw [← hbd, show (i - E).toNat = (i - b).toNat + (b - E).toNat by omega, show (j - E).toNat = (j - b).toNat + (b - E).toNat by omega, signed_scale, signed_scale, cmp_scale _ _ _ (Nat.two_pow_pos _)]
/-- what is the same is so beside all -/
theorem order_same {x x' : Nat} (h : eqB x x' = true) (y : Nat) : FloatKind.f64.format.order x y = FloatKind.f64.format.order x' y := by
  unfold eqB at h
  have h := eq_of_beq h
  change (Ieee.double.read x).order (Ieee.double.read x') = some .eq at h
  show (Ieee.double.read x).order (Ieee.double.read y) = (Ieee.double.read x').order (Ieee.double.read y)
  cases hx : Ieee.double.read x with
  | nan s f => rw [hx] at h; cases Ieee.double.read x' <;> simp [Ieee.Datum.order] at h
  | infinity s =>
    rw [hx] at h
    cases hx' : Ieee.double.read x' with
    | nan t g => rw [hx'] at h; simp [Ieee.Datum.order] at h
    | infinity t => rw [hx'] at h; cases s <;> cases t <;> first | rfl | (simp [Ieee.Datum.order] at h)
    | number t n j => rw [hx'] at h; cases s <;> simp [Ieee.Datum.order] at h
  | number s m i =>
    rw [hx] at h
    cases hx' : Ieee.double.read x' with
    | nan t g => rw [hx'] at h; simp [Ieee.Datum.order] at h
    | infinity t => rw [hx'] at h; cases t <;> simp [Ieee.Datum.order] at h
    | number t n j =>
      rw [hx'] at h
      cases Ieee.double.read y with
      | nan u g => rfl
      | infinity u => rfl
      | number u k l =>
        obtain ⟨E, hE⟩ : ∃ E, E = min i (min j l) := ⟨_, rfl⟩
        rw [order_at (E := E) (by omega) (by omega)] at h
        rw [order_at (E := E) (by omega) (by omega), order_at (E := E) (by omega) (by omega), Int.compare_eq_eq.1 (Option.some.inj h)]
/-- numbers that may be held against one another -/
theorem order_ex {x y : Nat} {v u : Int} (hx : FV x v) (hy : FV y u) : (ltB x y = true ∧ ltB y x = false ∧ eqB x y = false ∧ eqB y x = false) ∨ (ltB x y = false ∧ ltB y x = true ∧ eqB x y = false ∧ eqB y x = false) ∨ (ltB x y = false ∧ ltB y x = false ∧ eqB x y = true ∧ eqB y x = true) := by
  unfold ltB eqB
  rw [hx.order hy, hy.order hx]
  rcases Int.lt_trichotomy v u with h | h | h
  · rw [Int.compare_eq_lt.2 h, Int.compare_eq_gt.2 h]; exact .inl ⟨rfl, rfl, rfl, rfl⟩
  · rw [Int.compare_eq_eq.2 h, Int.compare_eq_eq.2 h.symm]; exact .inr (.inr ⟨rfl, rfl, rfl, rfl⟩)
  · rw [Int.compare_eq_gt.2 h, Int.compare_eq_lt.2 h]; exact .inr (.inl ⟨rfl, rfl, rfl, rfl⟩)
def FinP (p : Pt) : Prop := (∃ v, FV p.1 v) ∧ ∃ v, FV p.2 v
theorem edge_sym {a b : Pt} (ha : FinP a) (hb : FinP b) (px py : Nat) : edgeB px py a b = edgeB px py b a := by
  obtain ⟨_, v, hv⟩ := ha
  obtain ⟨_, u, hu⟩ := hb
  unfold edgeB lowP highP
  rcases order_ex hv hu with ⟨h1, h2, _⟩ | ⟨h1, h2, _⟩ | ⟨h1, h2, h3, h4⟩
  · rw [h1, h2]; simp
  · rw [h1, h2]; simp
  · rw [h1, h2]
    simp only [Bool.false_eq_true, if_false]
    have key : ∀ c d : Pt, eqB c.2 d.2 = true → edgeC px py c d = false := fun c d h => by
      unfold edgeC
      cases hl : leB c.2 py with
      | false => rfl
      | true =>
        have : ltB py d.2 = false := by
          unfold ltB
          rw [order_swap d.2 py, ← order_same h py]
          unfold leB at hl
          cases ho : FloatKind.f64.format.order c.2 py with
          | none => rfl
          | some o => rw [ho] at hl; cases o <;> first | rfl | (simp at hl)
        rw [this]; rfl
    rw [key a b h3, key b a h4]
theorem fv00 : FV 0 0 := ⟨false, 0, by simp [Ieee.Format.word], by decide, by rw [show rv 0 = 0 from rv_zero.2 rfl]; rfl⟩
theorem fv_z {x : Nat} (h : FV x 0) : eqB x 0 = true := by
  unfold eqB
  rw [h.order fv00, Int.compare_eq_eq.2 rfl]; rfl
def ZN (x : Nat) : Prop := FV x 0 ∨ isnan x = true
theorem fv_zw {z : Nat} (h : FV z 0) : z = 0 ∨ z = 9223372036854775808 := by
  obtain ⟨s, r, hz, _, hv⟩ := h
  have hr : r = 0 := rv_zero.1 (by cases s <;> simp at hv <;> omega)
  subst hr
  cases s
  · left; rw [hz]; decide +kernel
  · right; rw [hz]; decide +kernel
theorem fop_nanL {op : BinOp} {x y : Nat} (h : isnan x = true) : isnan (fop op x y) = true := by unfold fop; rw [floatBits_nanL h]; exact isnan_qnan
theorem fop_nanR {op : BinOp} {x y : Nat} (h : isnan y = true) : isnan (fop op x y) = true := by unfold fop; rw [floatBits_nanR h]; exact isnan_qnan
theorem sub_z {x y : Nat} {v : Int} (hx : FV x v) (hy : FV y v) : FV (fop .sub x y) 0 := by
  obtain ⟨c, hc⟩ : ∃ c, c = 1074 := ⟨_, rfl⟩
  obtain ⟨r, h1, h2⟩ := fv_sub c hc hx hy (by rw [Int.sub_self]; exact Nat.zero_le _)
  rw [Int.sub_self, rd_zero] at h2
  rw [fop_some' h1]; exact h2
theorem sub_zn {x y : Nat} (hx : ZN x) (hy : ZN y) : ZN (fop .sub x y) := by
  rcases hx with hx | hx
  · rcases hy with hy | hy
    · exact .inl (sub_z hx hy)
    · exact .inr (fop_nanR hy)
  · exact .inr (fop_nanL hx)
theorem mul_zn {x z : Nat} (hx : x < 18446744073709551616) (hz : FV z 0) : ZN (fop .mul x z) := by
  rcases classify hx with ⟨v, hv⟩ | ⟨s, hs⟩ | hn
  · obtain ⟨r, h1, h2, _⟩ := fv_mul hv hz
    rw [Int.mul_zero] at h2
    rw [ZN, fop_some' h1]; exact .inl (h2 rfl)
  · right
    rcases inf_of_read hx hs with rfl | rfl <;> rcases fv_zw hz with rfl | rfl <;> decide +kernel
  · exact .inr (fop_nanL hn)
/-- an edge that is met on the way -/
def hW (p v : Pt) (most : Nat) (a b : Pt) : Bool := !eqB (wN v (lowW a b) (highW a b)) 0 && hitB p v most (lowW a b) (highW a b)
theorem hW_sym {a b : Pt} (ha : FinP a) (hb : FinP b) (p v : Pt) (most : Nat) (hv1 : v.1 < 18446744073709551616) (hv2 : v.2 < 18446744073709551616) : hW p v most a b = hW p v most b a := by
  obtain ⟨⟨a1, ha1⟩, a2, ha2⟩ := ha
  obtain ⟨⟨b1, hb1⟩, b2, hb2⟩ := hb
  have ne : ∀ x y : Bool, x = !y → swW a b = x → swW b a = y → hW p v most a b = hW p v most b a := fun x y hxy h1 h2 => by
    unfold hW lowW highW
    rw [h1, h2, hxy]
    cases y <;> simp
  have key : ∀ c d : Pt, ∀ u w : Int, FV c.1 u → FV d.1 u → FV c.2 w → FV d.2 w → hitB p v most c d = false ∨ eqB (wN v c d) 0 = true := fun c d u w h1 h2 h3 h4 => by
    have hN : ZN (wN v c d) := sub_zn (mul_zn hv1 (sub_z h4 h3)) (mul_zn hv2 (sub_z h2 h1))
    rcases hN with hN | hN
    · exact .inr (fv_z hN)
    · left
      have hT : isnan (wT p v c d) = true := fop_nanR hN
      unfold hitB
      cases hl : leB 0 (wT p v c d) with
      | false => rfl
      | true => rw [leB_num hl] at hT; cases hT
  have eq2 : eqB b.2 a.2 = true → eqB a.2 b.2 = true → ltB b.2 a.2 = false → ltB a.2 b.2 = false → ltB b.1 a.1 = false → ltB a.1 b.1 = false → eqB a.1 b.1 = true → hW p v most a b = hW p v most b a := fun e1 e2 l1 l2 l3 l4 e3 => by
    have hv1e : a1 = b1 := by
      unfold eqB at e3
      rw [ha1.order hb1] at e3
      exact Int.compare_eq_eq.1 (Option.some.inj (eq_of_beq e3))
    have hv2e : a2 = b2 := by
      unfold eqB at e2
      rw [ha2.order hb2] at e2
      exact Int.compare_eq_eq.1 (Option.some.inj (eq_of_beq e2))
    subst hv1e hv2e
    have z : ∀ c d : Pt, (hitB p v most c d = false ∨ eqB (wN v c d) 0 = true) → (!eqB (wN v c d) 0 && hitB p v most c d) = false := fun c d h => by
      rcases h with h | h <;> rw [h] <;> simp
    unfold hW lowW highW swW
    rw [l1, l2, l3, l4]
    simp only [Bool.and_false, Bool.or_false, Bool.false_eq_true, if_false]
    rw [z a b (key a b a1 a2 ha1 hb1 ha2 hb2), z b a (key b a a1 a2 hb1 ha1 hb2 ha2)]
  rcases order_ex ha2 hb2 with ⟨h1, h2, h3, h4⟩ | ⟨h1, h2, h3, h4⟩ | ⟨h1, h2, h3, h4⟩
  · exact ne false true rfl (by unfold swW; rw [h2, h4]; rfl) (by unfold swW; rw [h1]; rfl)
  · exact ne true false rfl (by unfold swW; rw [h2]; rfl) (by unfold swW; rw [h1, h3]; rfl)
  · rcases order_ex ha1 hb1 with ⟨g1, g2, g3, g4⟩ | ⟨g1, g2, g3, g4⟩ | ⟨g1, g2, g3, g4⟩
    · exact ne false true rfl (by unfold swW; rw [h2, h4, g2]; rfl) (by unfold swW; rw [h1, h3, g1]; rfl)
    · exact ne true false rfl (by unfold swW; rw [h2, h4, g2]; rfl) (by unfold swW; rw [h1, h3, g1]; rfl)
    · exact eq2 h4 h3 h2 h1 g2 g1 g3
theorem whenS_any (ps : List Pt) (p v : Pt) (most : Nat) : ∀ j, (whenS ps p v most j).2 = (List.range j).any fun i => hW p v most (ps.getD i (0, 0)) (nextP ps i)
  | 0 => rfl
  | j + 1 => by
    have ih := whenS_any ps p v most j
    rw [List.range_succ, List.any_append, ← ih]
    show (whenStep p v most _ _ (whenS ps p v most j)).2 = _
    generalize whenS ps p v most j = s
    simp only [List.any_cons, List.any_nil, Bool.or_false]
    unfold whenStep hW betB
    cases eqB (wN v (lowW (ps.getD j (0, 0)) (nextP ps j)) (highW (ps.getD j (0, 0)) (nextP ps j))) 0
    · simp only [Bool.false_eq_true, if_false, Bool.not_false, Bool.true_and]
      cases hitB p v most (lowW (ps.getD j (0, 0)) (nextP ps j)) (highW (ps.getD j (0, 0)) (nextP ps j))
      · simp
      · cases hs : s.2
        · simp
        · simp only [Bool.true_and, Bool.not_true, Bool.false_or, Bool.or_self]
          split <;> simp_all
    · simp
/-! ### The same edges, told in another order -/
def nx (n j : Nat) : Nat := if j + 1 < n then j + 1 else 0
def rot (n b0 k : Nat) : Nat := if b0 + k < n then b0 + k else b0 + k - n
def tIdx (n b0 : Nat) (back : Bool) (k : Nat) : Nat := if back then n - 1 - rot n b0 k else rot n b0 k
def turnL (ps : List Pt) (b0 : Nat) (back : Bool) : List Pt := (List.range ps.length).map fun k => ps.getD (tIdx ps.length b0 back k) (0, 0)
theorem turnL_len (ps : List Pt) (b0 : Nat) (back : Bool) : (turnL ps b0 back).length = ps.length := by unfold turnL; simp
theorem turnL_get {ps : List Pt} {b0 : Nat} {back : Bool} {k : Nat} (h : k < ps.length) : (turnL ps b0 back).getD k (0, 0) = ps.getD (tIdx ps.length b0 back k) (0, 0) := by
  unfold turnL
  rw [List.getD_eq_getElem?_getD, List.getElem?_map, List.getElem?_range h]; rfl
/-- the edge of T from k on is the edge of ps from here -/
def eIdx (n b0 : Nat) (back : Bool) (k : Nat) : Nat := if back then (if rot n b0 k + 1 < n then n - 2 - rot n b0 k else n - 1) else rot n b0 k
theorem eIdx_lt {n b0 k : Nat} (back : Bool) (hb : b0 < n) (hk : k < n) : eIdx n b0 back k < n := by
  unfold eIdx rot
  cases back
  · simp only [Bool.false_eq_true, if_false]; (repeat' split) <;> omega
  · simp only [if_true]; (repeat' split) <;> omega
theorem eIdx_perm {n b0 : Nat} (back : Bool) (hb : b0 < n) : ((List.range n).map (eIdx n b0 back)).Perm (List.range n) := by
  refine perm_nodup ?_ List.nodup_range fun x => ?_
  · refine List.pairwise_map.2 ((List.nodup_range (n := n)).imp_of_mem ?_)
    intro i j hi hj hij e
    rw [List.mem_range] at hi hj
    revert e
    unfold eIdx rot
    cases back
    · simp only [Bool.false_eq_true, if_false]; (repeat' split) <;> omega
    · simp only [if_true]; (repeat' split) <;> omega
  · rw [List.mem_map, List.mem_range]
    constructor
    · rintro ⟨k, hk, rfl⟩
      exact eIdx_lt back hb (List.mem_range.1 hk)
    · intro hx
      obtain ⟨y, hy⟩ : ∃ y, y = if back then (if x + 1 < n then n - 2 - x else n - 1) else x := ⟨_, rfl⟩
      refine ⟨if b0 ≤ y then y - b0 else y + n - b0, List.mem_range.2 ?_, ?_⟩
      · rw [hy]; cases back
        · simp only [Bool.false_eq_true, if_false]; (repeat' split) <;> omega
        · simp only [if_true]; (repeat' split) <;> omega
      · rw [hy]; unfold eIdx rot; cases back
        · simp only [Bool.false_eq_true, if_false]; (repeat' split) <;> omega
        · simp only [if_true]; (repeat' split) <;> omega
theorem edge_at {ps : List Pt} {b0 k : Nat} (back : Bool) (F : Pt → Pt → Bool) (hF : ∀ i j, i < ps.length → j < ps.length → F (ps.getD i (0, 0)) (ps.getD j (0, 0)) = F (ps.getD j (0, 0)) (ps.getD i (0, 0))) (hb : b0 < ps.length) (hk : k < ps.length) :
    F ((turnL ps b0 back).getD k (0, 0)) ((turnL ps b0 back).getD (nx ps.length k) (0, 0)) = F (ps.getD (eIdx ps.length b0 back k) (0, 0)) (ps.getD (nx ps.length (eIdx ps.length b0 back k)) (0, 0)) := by
  have hn : nx ps.length k < ps.length := by unfold nx; (repeat' split) <;> omega
  rw [turnL_get hk, turnL_get hn]
  cases back
  · have e1 : tIdx ps.length b0 false k = eIdx ps.length b0 false k := rfl
    have e2 : tIdx ps.length b0 false (nx ps.length k) = nx ps.length (eIdx ps.length b0 false k) := by
      unfold tIdx eIdx rot nx
      simp only [Bool.false_eq_true, if_false]
      (repeat' split) <;> omega
    rw [e1, e2]
  · have e1 : tIdx ps.length b0 true k = nx ps.length (eIdx ps.length b0 true k) := by
      unfold tIdx eIdx rot nx
      simp only [if_true]
      (repeat' split) <;> omega
    have e2 : tIdx ps.length b0 true (nx ps.length k) = eIdx ps.length b0 true k := by
      unfold tIdx eIdx rot nx
      simp only [if_true]
      (repeat' split) <;> omega
    rw [e1, e2]
    have hlt := eIdx_lt true hb hk
    exact hF _ _ (by unfold nx; (repeat' split) <;> omega) hlt
theorem edges_perm {ps : List Pt} {b0 : Nat} (back : Bool) (F : Pt → Pt → Bool) (hF : ∀ i j, i < ps.length → j < ps.length → F (ps.getD i (0, 0)) (ps.getD j (0, 0)) = F (ps.getD j (0, 0)) (ps.getD i (0, 0))) (hb : b0 < ps.length) :
    ((List.range ps.length).map fun k => F ((turnL ps b0 back).getD k (0, 0)) ((turnL ps b0 back).getD (nx ps.length k) (0, 0))).Perm ((List.range ps.length).map fun k => F (ps.getD k (0, 0)) (ps.getD (nx ps.length k) (0, 0))) := by
  have h1 := (eIdx_perm back hb).map fun k => F (ps.getD k (0, 0)) (ps.getD (nx ps.length k) (0, 0))
  rw [List.map_map] at h1
  refine List.Perm.trans (List.Perm.of_eq ?_) h1
  refine List.map_congr_left fun k hk => ?_
  exact edge_at back F hF hb (List.mem_range.1 hk)
theorem xor_perm {l m : List Bool} (h : l.Perm m) : ∀ a, l.foldl (fun a b => a != b) a = m.foldl (fun a b => a != b) a := by
  induction h with
  | nil => intro a; rfl
  | cons x _ ih => intro a; exact ih _
  | swap x y l =>
    intro a
    rw [List.foldl_cons, List.foldl_cons, List.foldl_cons, List.foldl_cons]
    congr 1
    cases a <;> cases x <;> cases y <;> rfl
  | trans _ _ i1 i2 => intro a; exact (i1 a).trans (i2 a)
theorem next_nx {ps : List Pt} {j : Nat} (h : j < ps.length) : nextP ps j = ps.getD (nx ps.length j) (0, 0) := by
  unfold nextP nx
  split
  · next h1 => rw [Nat.mod_eq_of_lt h1]
  · have : j + 1 = ps.length := by omega
    rw [this, Nat.mod_self]
theorem refOdd_fold (ps : List Pt) (px py : Nat) : ∀ j, j ≤ ps.length → refOdd ps px py j = ((List.range j).map fun k => edgeB px py (ps.getD k (0, 0)) (ps.getD (nx ps.length k) (0, 0))).foldl (fun a b => a != b) false
  | 0, _ => rfl
  | j + 1, h => by
    rw [List.range_succ, List.map_append, List.foldl_append, ← refOdd_fold ps px py j (by omega)]
    show (refOdd ps px py j != edgeB px py (ps.getD j (0, 0)) (nextP ps j)) = _
    rw [next_nx (by omega)]; rfl
def Fins (ps : List Pt) : Prop := ∀ i, i < ps.length → FinP (ps.getD i (0, 0))
theorem ins_turn {ps : List Pt} (hf : Fins ps) {b0 : Nat} (back : Bool) (hb : b0 < ps.length) (px py : Nat) : insF (turnL ps b0 back) px py = insF ps px py := by
  unfold insF
  rw [turnL_len]
  split
  · rfl
  · have e1 : oddP (turnL ps b0 back) px py ps.length = refOdd (turnL ps b0 back) px py ps.length := by
      have := odd_all (ps := turnL ps b0 back) px py (by rw [turnL_len]; omega)
      rw [turnL_len] at this
      exact this.symm
    have e2 := refOdd_fold (turnL ps b0 back) px py ps.length (by rw [turnL_len]; exact Nat.le_refl _)
    rw [turnL_len] at e2
    rw [e1, e2, ← odd_all px py (by omega), refOdd_fold ps px py ps.length (Nat.le_refl _)]
    exact xor_perm (edges_perm back (edgeB px py) (fun i j hi hj => edge_sym (hf i hi) (hf j hj) px py) hb) false
theorem when_turn {ps : List Pt} (hf : Fins ps) {b0 : Nat} (back : Bool) (hb : b0 < ps.length) (p v : Pt) (most : Nat) (hv1 : v.1 < 18446744073709551616) (hv2 : v.2 < 18446744073709551616) : (whenF (turnL ps b0 back) p v most).2 = (whenF ps p v most).2 := by
  unfold whenF
  rw [turnL_len, ins_turn hf back hb]
  split
  · rfl
  · split
    · rfl
    · show (whenS _ p v most _).2 = (whenS _ p v most _).2
      rw [whenS_any, whenS_any]
      have h := edges_perm back (hW p v most) (fun i j hi hj => hW_sym (hf i hi) (hf j hj) p v most hv1 hv2) hb
      have e : ∀ T : List Pt, T.length = ps.length → ((List.range ps.length).any fun i => hW p v most (T.getD i (0, 0)) (nextP T i)) = ((List.range ps.length).map fun k => hW p v most (T.getD k (0, 0)) (T.getD (nx ps.length k) (0, 0))).any id := fun T hT => by
        rw [List.any_map, Bool.eq_iff_iff, List.any_eq_true, List.any_eq_true]
        constructor
        · rintro ⟨x, hx, h⟩
          refine ⟨x, hx, ?_⟩
          rw [next_nx (by rw [hT]; exact List.mem_range.1 hx), hT] at h
          exact h
        · rintro ⟨x, hx, h⟩
          refine ⟨x, hx, ?_⟩
          rw [next_nx (by rw [hT]; exact List.mem_range.1 hx), hT]
          exact h
      rw [e _ (turnL_len ..), e _ rfl, Bool.eq_iff_iff, List.any_eq_true, List.any_eq_true]
      constructor
      · rintro ⟨x, hx, h2⟩; exact ⟨x, h.mem_iff.1 hx, h2⟩
      · rintro ⟨x, hx, h2⟩; exact ⟨x, h.mem_iff.2 hx, h2⟩
theorem now_turn {ps : List Pt} (hf : Fins ps) {b0 : Nat} (back : Bool) (hb : b0 < ps.length) (far : Nat) (t : Tk) (hv1 : t.xv < 18446744073709551616) (hv2 : t.yv < 18446744073709551616) : nowF far (turnL ps b0 back) t = nowF far ps t := by
  unfold nowF
  rw [ins_turn hf back hb, when_turn hf back hb _ _ _ hv1 hv2]
theorem fin_of {x : Nat} (hx : x < 18446744073709551616) (h : nfX x = false) : ∃ v, FV x v := by
  rcases classify hx with hv | ⟨s, hs⟩ | hn
  · exact hv
  · exfalso
    rcases inf_of_read hx hs with rfl | rfl
    · rw [show nfX 9218868437227405312 = true by kernel_rfl] at h; cases h
    · rw [show nfX 18442240474082181120 = true by kernel_rfl] at h; cases h
  · exfalso
    unfold nfX at h
    have : eqB (fop .sub x x) 0 = true := by simpa using h
    have h2 : leB 0 (fop .sub x x) = true := by
      rw [← geB_leB]; unfold geB; unfold eqB at this; rw [this]; simp
    have h3 := leB_num h2
    rw [fop_nanL hn] at h3; cases h3
end Go.Proofs.Ytoiobncojfeoiaa
