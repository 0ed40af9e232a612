/-
  A part of the proof: what functions that the statement reaches do, or a plain law on what they do. Each theorem holds under its own premises alone.
-/
import Derived.Test.YtcfdmenmlemahaaTPF
namespace Go.Pr
section
variable {n i t : Nat} {C : Nat → Nat → Int} {of U V V' slack back dist frm : Nat → Int} {done : Nat → Bool} {pos : Nat → Nat} {last rho : Int}
theorem Tr.congrV (h : Tr n C i of U V slack back done pos t last) (e : ∀ j, j < n → V' j = V j) : Tr n C i of U V' slack back done pos t last :=
  ⟨h.mat, fun r hr j hj => by rw [e j hj]; exact h.feas r hr j hj, fun j hj => by rw [e j hj]; exact h.vle j hj, fun j hj ho => by rw [e j hj]; exact h.free j hj ho, fun j hj ho => by rw [e j hj]; exact h.tight j hj ho, h.uz, h.ui, h.lastr, h.dn,
    fun j hj hd => by rw [e j hj]; exact h.tree j hj hd, fun j hj hd => by rw [e j hj]; exact h.sl j hj hd, fun j hj hd b hb hne => by rw [e j hj]; exact h.lo j hj hd b hb hne, h.post, h.onto⟩
theorem En.bd (h : En n C i of U V dist frm done rho t) (hi : i < n) (hu : U i = 0) (hC : ∀ r j, r < n → j < n → 0 ≤ C r j ∧ C r j ≤ 4503599627370496) :
    (0 ≤ rho ∧ rho ≤ 4503599627370496) ∧ ∀ j, j < n → done j = false → rho ≤ dist j ∧ dist j ≤ rho + 9007199254740992 := by
  obtain ⟨Ur, Vr, slack, back, slack', back', pos, last, hT, hl, h1, h2, h3, h4, h5, hR⟩ := h.ex
  obtain ⟨bU, bV⟩ := hT.bounds hi hC
  have hlT : isT n done last := by
    rcases hT.lastr with h6 | h6
    · exact .inl h6.1
    · exact .inr ⟨h6.1, h6.2.1, h6.2.2.1⟩
  have hrl := hT.ro_le hlT
  refine ⟨by have := bU i hi; have := hR.ui; omega, fun j hj hd => ?_⟩
  have e1 := (h4 j hj hd).1
  have e2 := h1 j hj hd
  have a1 := hT.feas (ro i of last) hrl j hj
  have a2 : 0 ≤ slack j := by
    rcases hT.sl j hj hd with h6 | h6
    · omega
    · have := hT.feas _ (hT.ro_le h6.1) j hj; omega
  have a3 := hC (ro i of last) j (by omega) hj
  have a4 := bU (ro i of last) (by omega)
  have a5 := bV j hj
  split at e2 <;> omega
theorem Ch.dn {k : Nat} (h : Ch n C i of U V dist frm done k t) {j : Nat} (hj : j < n) (hd : done j = true) (hjk : j ≠ k) : 0 ≤ of j := by
  obtain ⟨Ur, Vr, slack, back, pos, hT, _⟩ := h.ex
  exact hT.dn j hj hd (by omega)
theorem Ch.bd {k : Nat} (h : Ch n C i of U V dist frm done k t) (hi : i < n) (hu : U i = 0) (hV : ∀ j, j < n → -4503599627370496 ≤ V j ∧ V j ≤ 0) (hC : ∀ r j, r < n → j < n → 0 ≤ C r j ∧ C r j ≤ 4503599627370496) :
    (0 ≤ dist k ∧ dist k ≤ 4503599627370496) ∧ (∀ j, j < n → done j = true → -4503599627370496 ≤ dist k - dist j ∧ dist k - dist j ≤ 4503599627370496) ∧ t ≤ n := by
  obtain ⟨Ur, Vr, slack, back, pos, hT, h1, h2, hR⟩ := h.ex
  obtain ⟨bU, bV⟩ := hT.bounds hi hC
  refine ⟨by have := bU i hi; have := hR.ui; omega, fun j hj hd => ?_, hT.tn⟩
  have e1 := hR.vd j hj
  rw [hd, if_pos rfl] at e1
  have := bV j hj
  have := hV j hj
  omega
/-- What stands behind all: the prices, and the way back, by rows. -/
theorem Ch.fin {k : Nat} (h : Ch n C i of U V dist frm done k t) (hi : i < n) (hk : k < n) (hkd : done k = true) (hof : of k = -1) (hC : ∀ r j, r < n → j < n → 0 ≤ C r j ∧ C r j ≤ 4503599627370496) {U2 V2 : Nat → Int}
    (hV2 : ∀ j, j < n → V2 j = if done j = true ∧ j ≠ k then V j - (dist k - dist j) else V j) (hU2i : U2 i = U i + dist k) (hU2d : ∀ j, j < n → done j = true → j ≠ k → U2 (of j).toNat = U (of j).toNat + (dist k - dist j)) (hU2o : ∀ r, r ≠ i → (∀ j, j < n → done j = true → j ≠ k → (of j).toNat ≠ r) → U2 r = U r) :
    ∃ (slack back : Nat → Int) (pos : Nat → Nat), Tr n C i of U2 V2 slack back done pos t (k : Int) ∧ (∀ j, j < n → done j = true → frm j = (ro i of (back j) : Int)) ∧ (∀ r, r < n → 0 ≤ U2 r ∧ U2 r ≤ 4503599627370496) ∧ ∀ j, j < n → -4503599627370496 ≤ V2 j ∧ V2 j ≤ 0 := by
  obtain ⟨Ur, Vr, slack, back, pos, hT, h1, h2, hR⟩ := h.ex
  have hdof : ∀ j, j < n → done j = true → j ≠ k → 0 ≤ of j := fun j hj hd hne => hT.dn j hj hd (by omega)
  have eU : U2 = Ur := by
    funext r
    by_cases hri : r = i
    · rw [hri, hU2i, hR.ui]
    · by_cases hex : ∃ j, j < n ∧ done j = true ∧ j ≠ k ∧ (of j).toNat = r
      · obtain ⟨j, c1, c2, c3, rfl⟩ := hex
        rw [hU2d j c1 c2 c3, hR.ud j c1 c2 (hdof j c1 c2 c3)]
      · rw [hU2o r hri (fun j c1 c2 c3 c4 => hex ⟨j, c1, c2, c3, c4⟩), hR.uo r hri (fun j c1 c2 c3 => ?_)]
        by_cases hjk : j = k
        · rw [hjk, hof] at c3; omega
        · exact hex ⟨j, c1, c2, hjk, by omega⟩
  have eV : ∀ j, j < n → V2 j = Vr j := fun j hj => by
    rw [hV2 j hj, hR.vd j hj]
    by_cases hjk : j = k
    · rw [hjk, hkd]; simp
    · cases hd : done j <;> simp [hjk]
  have hT2 := hT.congrV eV
  rw [← eU] at hT2
  obtain ⟨bU, bV⟩ := hT2.bounds hi hC
  exact ⟨slack, back, pos, hT2, h2, bU, bV⟩
/-- Changing about along the way, told by rows: mates stand the other way round. -/
structure Ma (n i : Nat) (of' mt : Nat → Int) (h : Int) : Prop where
  inv : ∀ j : Nat, j < n → (j : Int) ≠ h → 0 ≤ of' j → mt (of' j).toNat = (j : Int)
  new : h ≠ -1 → mt i = -1
  up : ∀ q, i < q → q < n → mt q = -1
theorem Aug.mates {of' mt : Nat → Int} {hh : Nat} (h : Aug n C i of U V done pos of' (hh : Int)) (hm : Ma n i of' mt (hh : Int)) (ht : Tr n C i of U V slack back done pos t last) (hi : i < n) :
    ro i of (back hh) < n ∧ mt (ro i of (back hh)) = back hh ∧ (ro i of (back hh) : Int) = (if back hh < 0 then (i : Int) else of' (back hh).toNat) ∧
    ∀ of'' mt', of'' hh = (ro i of (back hh) : Int) → (∀ k, k ≠ hh → of'' k = of' k) → mt' (ro i of (back hh)) = (hh : Int) → (∀ q, q ≠ ro i of (back hh) → mt' q = mt q) → Ma n i of'' mt' (back hh) := by
  have hne : (hh : Int) ≠ -1 := by omega
  obtain ⟨_, hhn, hhd⟩ := h.at' hne
  rw [Int.toNat_natCast] at hhn hhd
  have hran := h.ran hne
  have hinj := h.inj hne
  have hkeep := h.keep hne
  rw [Int.toNat_natCast] at hinj hkeep
  obtain ⟨hT, hp, _⟩ := ht.tree hh hhn hhd
  obtain ⟨b, hb⟩ : ∃ b, back hh = b := ⟨_, rfl⟩
  rw [hb] at hT hp ⊢
  rcases hT with rfl | ⟨hb0, hbn, hbd⟩
  · have hro : ro i of (-1) = i := by unfold ro; rw [if_pos (by omega)]
    rw [hro]
    refine ⟨hi, hm.new hne, by rw [if_pos (by omega)], fun of'' mt' h1 h2 h3 h4 => ⟨fun j hj _ ho => ?_, fun h => absurd rfl h, fun q hq hqn => by rw [h4 q (by omega)]; exact hm.up q hq hqn⟩⟩
    by_cases hjx : j = hh
    · rw [hjx, h1, Int.toNat_natCast, h3]
    · rw [h2 j hjx] at ho ⊢
      rw [h4 _ (by have := hran j hj; omega)]
      exact hm.inv j hj (by omega) ho
  · have hpb := hp hb0
    have hbx : b.toNat ≠ hh := fun he => by rw [he] at hpb; omega
    have hkb := hkeep b.toNat hbn hbd (by omega)
    have hof0 : 0 ≤ of b.toNat := by
      refine ht.dn _ hbn hbd fun he => ?_
      rcases ht.lastr with h5 | h5
      · omega
      · by_cases hxl : hh = last.toNat
        · exact hbx (by omega)
        · have := h5.2.2.2 hh hhn hhd hxl
          rw [show b.toNat = last.toNat by omega] at hpb
          omega
    have hro : ro i of b = (of b.toNat).toNat := by unfold ro; rw [if_neg (by omega)]
    have hrb := hran _ hbn
    rw [hro]
    refine ⟨by rw [hkb] at hrb; omega, ?_, by rw [if_neg (by omega), hkb]; omega, fun of'' mt' h1 h2 h3 h4 => ⟨fun j hj hjb ho => ?_, fun _ => ?_, fun q hq hqn => by rw [h4 q (by rw [hkb] at hrb; omega)]; exact hm.up q hq hqn⟩⟩
    · have := hm.inv b.toNat hbn (by omega) (by rw [hkb]; exact hof0)
      rw [hkb] at this
      rw [this]; omega
    · by_cases hjx : j = hh
      · rw [hjx, h1, Int.toNat_natCast, h3]
      · rw [h2 j hjx] at ho ⊢
        rw [h4 _ (fun he => ?_)]
        · exact hm.inv j hj (by omega) ho
        · have := hinj j b.toNat hj hbn hjx hbx (by rw [hkb]; omega) (by omega)
          omega
    · rw [h4 i (by rw [hkb] at hrb; omega)]
      exact hm.new hne
end
end Go.Pr
