/-
  A part of the proof: what functions that the statement reaches do, or a plain law on what they do. Each theorem holds under its own premises alone.
-/
import Derived.Test.YtoiobncojfeoiaaTHG
import Derived.Test.YtoiobncojfeoiaaTUT
namespace Go.Proofs.Ytoiobncojfeoiaa
open Go Go.Lk
/-! ### The guard and the document's, side by side -/
structure GS where
  v : Value
  M : Bks
  ev : Int
  es : List KE
  ck : Nat
  zs : List Zn
  vZ : Value
  MZ : Bks
  vK : Value
  MK : Bks
  evR : Int
  zsR : List Zn
  ks : List Kn
def GS.gB (B m far : Nat) (s : GS) : Bks := gbs B far s.v s.M s.ev m s.es s.ck s.zs
def GS.rB (BR far : Nat) (s : GS) : Bks := rbs BR far s.vZ s.MZ s.vK s.MK s.evR s.zsR
def GS.bk (B m BR far : Nat) (s : GS) : Bks := s.gB B m far ++ s.rB BR far
structure GS.ok (w0 : World) (B m BR : Nat) (n : Nat) (s : GS) : Prop where
  g : GOk w0 B s.v s.M m s.es s.ck s.zs
  r : ROk w0 BR s.vZ s.MZ s.vK s.MK s.zsR s.ks
  vok : VOk s.es
  keyz : ∀ x ∈ s.es, ∃ z ∈ s.zs, z.num = x.1.1
  nd : (s.zs.map (·.num)).Nodup
  nle : ∀ z ∈ s.zs, z.num ≤ s.ev
  same : s.zsR.map (fun z => (z.num, z.name, z.ps)) = s.zs.map (fun z => (z.num, z.name, z.ps))
  evs : s.evR = s.ev
  ev0 : 0 ≤ s.ev
  evn : s.ev ≤ n
  kinv : KInv s.es s.ks
  ln : s.es.length ≤ 64 * n
theorem erase_map {α β : Type} (f : α → β) : ∀ (l : List α) (i : Nat), (l.eraseIdx i).map f = (l.map f).eraseIdx i
  | [], _ => rfl
  | _ :: _, 0 => rfl
  | a :: l, i + 1 => by show f a :: (l.eraseIdx i).map f = f a :: (l.map f).eraseIdx i; rw [erase_map f l i]
theorem same_len {zs zsR : List Zn} (h : zsR.map (fun z => (z.num, z.name, z.ps)) = zs.map (fun z => (z.num, z.name, z.ps))) : zsR.length = zs.length := by
  have := congrArg List.length h
  simpa using this
theorem numS {zs zsR : List Zn} (h : zsR.map (fun z => (z.num, z.name, z.ps)) = zs.map (fun z => (z.num, z.name, z.ps))) (i : Nat) : (zsR.getD i zn0).num = (zs.getD i zn0).num := by
  have := congrArg (fun l : List (Int × ByteArray × List Pt) => ((l[i]?).map (·.1)).getD zn0.num) h
  simp only [List.getElem?_map, Option.map_map] at this
  rw [List.getD_eq_getElem?_getD, List.getD_eq_getElem?_getD]
  cases h1 : zsR[i]? <;> cases h2 : zs[i]? <;> simp_all
theorem same_two {zs zsR : List Zn} (h : zsR.map (fun z => (z.num, z.name, z.ps)) = zs.map (fun z => (z.num, z.name, z.ps))) : zsR.map (fun z => (z.num, z.ps)) = zs.map (fun z => (z.num, z.ps)) := by
  have := congrArg (List.map fun q : Int × ByteArray × List Pt => (q.1, q.2.2)) h
  rw [List.map_map, List.map_map] at this
  exact this
theorem same_addE {zs zsR : List Zn} (h : zsR.map (fun z => (z.num, z.name, z.ps)) = zs.map (fun z => (z.num, z.name, z.ps))) (nm : ByteArray) (ps : List Pt) : addE zsR nm ps = addE zs nm ps := by
  have e1 : (zsR.any fun z => z.name == nm) = zs.any fun z => z.name == nm := by
    have := congrArg (fun l : List (Int × ByteArray × List Pt) => l.any fun q => q.2.1 == nm) h
    simp only [List.any_map] at this
    exact this
  unfold addE
  rw [e1, same_len h]
theorem GS.ok.own {w0 : World} {B m BR far n : Nat} {s : GS} (h : s.ok w0 B m BR n) : Own w0 (s.bk B m BR far) := h.g.owns.app h.r.owns
theorem GS.ok.mono {w0 : World} {B m BR n n' : Nat} {s : GS} (h : s.ok w0 B m BR n) (hn : n ≤ n') : s.ok w0 B m BR n' :=
  ⟨h.g, h.r, h.vok, h.keyz, h.nd, h.nle, h.same, h.evs, h.ev0, Int.le_trans h.evn (by omega), h.kinv, Nat.le_trans h.ln (by omega)⟩
theorem Lies.right {w0 : World} {A R : Bks} {a : Option Addr} {cs : List Value} (h : Lies w0 R a cs) : Lies w0 (A ++ R) a cs := fun w' L' hs ho hp => h w' L' hs ho fun p hpR => hp p (List.mem_append_right _ hpR)
theorem real_add (w0 : World) (B m BR far : Nat) (n : Nat) (s : GS) (w : World) (R : Bks) (nm : ByteArray) (a : Option Addr) (k c : Nat) (ps : List Pt) (hs : HS w0 w (s.bk B m BR far ++ R)) (hok : s.ok w0 B m BR n) (hn : n ≤ 10000) (hoR : Own w0 R) (hl : Lies w0 R a (pcs ps)) (hk : ps.length = k) (hk2 : k ≤ 10000) (hp : PtB ps) :
    Ret Try.prog 14 [.pointer (some ⟨B, 0, none⟩), .agg #[.string nm, .slice a k c]] w fun r w' => ∃ s1 x e, r = .tuple #[.int .i64 x, .int .i64 e] ∧ HS w0 w' (GS.bk B m BR far s1 ++ R) ∧ Own w0 (GS.bk B m BR far s1) ∧
      ∀ (w2 : World) (R2 : Bks) (a2 : Option Addr) (c2 : Nat), HS w0 w2 (GS.bk B m BR far s1 ++ R2) → Own w0 R2 → Lies w0 R2 a2 (pcs ps) →
        Ret Try.prog 42 [.pointer (some ⟨BR, 0, none⟩), .agg #[.string nm, .slice a2 k c2]] w2 fun r w' => r = .tuple #[.int .i64 x, .int .i64 e] ∧ ∃ s2, HS w0 w' (GS.bk B m BR far s2 ++ R2) ∧ GS.ok w0 B m BR (n + 1) s2 := by
  have hev := hok.evn
  have hs0 : HS w0 w ((s.gB B m far ++ s.rB BR far) ++ R) := hs
  have hs1 : HS w0 w (s.gB B m far ++ (s.rB BR far ++ R)) := HS.re hs0 (fun c => by simp only [List.map_append, List.sum_append]; omega)
  refine Calls.mono (addG w0 w B far s.v s.M s.ev m s.es s.ck s.zs (s.rB BR far ++ R) nm a k c ps hs1 hok.g (hok.r.owns.app hoR) hl.right hk (by omega) hok.ev0 (by omega)) fun e w' => ?_
  rintro ⟨r, rfl, h⟩
  refine ⟨_, rfl, ?_⟩
  rcases h with ⟨h0, v', M', zv, zM, rfl, hs2, hG⟩ | ⟨h0, rfl, hs2⟩
  · obtain ⟨s1, he1⟩ : ∃ s1, s1 = GS.mk v' M' (s.ev + 1) s.es s.ck (s.zs ++ [⟨s.ev + 1, nm, ps, zv, zM⟩]) s.vZ s.MZ s.vK s.MK s.evR s.zsR s.ks := ⟨_, rfl⟩
    have hs3 : HS w0 w' (s1.gB B m far ++ (s.rB BR far ++ R)) := by rw [he1]; exact hs2
    have hs4 : HS w0 w' ((s1.gB B m far ++ s.rB BR far) ++ R) := HS.re hs3 (fun c => by simp only [List.map_append, List.sum_append]; omega)
    have hb1 : s1.bk B m BR far = s1.gB B m far ++ s.rB BR far := by rw [he1]; rfl
    have ho1 : Own w0 (s1.gB B m far) := by rw [he1]; exact hG.owns
    refine ⟨s1, s.ev + 1, 0, rfl, by rw [hb1]; exact hs4, by rw [hb1]; exact ho1.app hok.r.owns, ?_⟩
    intro w2 R2 a2 c2 hs5 hoR2 hl2
    rw [hb1] at hs5
    have hs6 : HS w0 w2 (s.rB BR far ++ (s1.gB B m far ++ R2)) := HS.re hs5 (fun c => by simp only [List.map_append, List.sum_append]; omega)
    refine Calls.mono (radd_ok w0 w2 BR far s.vZ s.MZ s.vK s.MK s.evR s.zsR s.ks (s1.gB B m far ++ R2) nm a2 k c2 ps hs6 hok.r (ho1.app hoR2) hl2.right hk (by omega) (by rw [hok.evs]; exact hok.ev0) (by rw [hok.evs]; omega) hp) fun e w' => ?_
    rintro ⟨r, rfl, h⟩
    refine ⟨_, rfl, ?_⟩
    rcases h with ⟨_, vZ', MZ', zv2, zM2, rfl, hs7, hR⟩ | ⟨h1, _⟩
    · obtain ⟨s2, he2⟩ : ∃ s2, s2 = GS.mk v' M' (s.ev + 1) s.es s.ck (s.zs ++ [⟨s.ev + 1, nm, ps, zv, zM⟩]) vZ' MZ' s.vK s.MK (s.evR + 1) (s.zsR ++ [⟨s.evR + 1, nm, ps, zv2, zM2⟩]) s.ks := ⟨_, rfl⟩
      have hs8 : HS w0 w' (s2.rB BR far ++ (s1.gB B m far ++ R2)) := by rw [he2]; exact hs7
      have hb2 : s2.bk B m BR far = s1.gB B m far ++ s2.rB BR far := by rw [he1, he2]; rfl
      refine ⟨by rw [hok.evs], s2, by rw [hb2]; exact HS.re hs8 (fun c => by simp only [List.map_append, List.sum_append]; omega), ?_⟩
      subst he2
      refine ⟨hG, hR, hok.vok, fun x hx => ?_, ?_, fun z hz => ?_, ?_, by show s.evR + 1 = s.ev + 1; rw [hok.evs], by show 0 ≤ s.ev + 1; have := hok.ev0; omega, by show s.ev + 1 ≤ ((n + 1 : Nat) : Int); omega, hok.kinv, by have := hok.ln; show s.es.length ≤ _; omega⟩
      · obtain ⟨z, hz, hzn⟩ := hok.keyz x hx
        exact ⟨z, List.mem_append_left _ hz, hzn⟩
      · show ((s.zs ++ [_]).map _).Nodup
        rw [List.map_append, List.nodup_append]
        refine ⟨hok.nd, by simp, fun u hu v hv => ?_⟩
        obtain ⟨z, hz, rfl⟩ := List.mem_map.1 hu
        have hz1 := hok.nle z hz
        simp only [List.map_cons, List.map_nil, List.mem_singleton] at hv
        intro he
        rw [hv] at he
        omega
      · show z.num ≤ s.ev + 1
        rcases List.mem_append.1 hz with hz | hz
        · have := hok.nle z hz; omega
        · rw [List.mem_singleton.1 hz]; exact Int.le_refl _
      · show (s.zsR ++ [_]).map _ = (s.zs ++ [_]).map _
        rw [List.map_append, List.map_append, hok.same, hok.evs]
        rfl
    · exact absurd ((same_addE hok.same nm ps).trans h0) h1
  · have hs4 : HS w0 w' ((s.gB B m far ++ s.rB BR far) ++ R) := HS.re (show HS w0 w' (s.gB B m far ++ (s.rB BR far ++ R)) from hs2) (fun c => by simp only [List.map_append, List.sum_append]; omega)
    refine ⟨s, 0, addE s.zs nm ps, rfl, hs4, hok.own, ?_⟩
    intro w2 R2 a2 c2 hs5 hoR2 hl2
    have hs5' : HS w0 w2 ((s.gB B m far ++ s.rB BR far) ++ R2) := hs5
    have hs6 : HS w0 w2 (s.rB BR far ++ (s.gB B m far ++ R2)) := HS.re hs5' (fun c => by simp only [List.map_append, List.sum_append]; omega)
    refine Calls.mono (radd_ok w0 w2 BR far s.vZ s.MZ s.vK s.MK s.evR s.zsR s.ks (s.gB B m far ++ R2) nm a2 k c2 ps hs6 hok.r (hok.g.owns.app hoR2) hl2.right hk (by omega) (by rw [hok.evs]; exact hok.ev0) (by rw [hok.evs]; omega) hp) fun e w' => ?_
    rintro ⟨r, rfl, h⟩
    refine ⟨_, rfl, ?_⟩
    rcases h with ⟨h1, _⟩ | ⟨_, rfl, hs7⟩
    · exact absurd ((same_addE hok.same nm ps).symm.trans h1) h0
    · have hs8 : HS w0 w' ((s.gB B m far ++ s.rB BR far) ++ R2) := HS.re (show HS w0 w' (s.rB BR far ++ (s.gB B m far ++ R2)) from hs7) (fun c => by simp only [List.map_append, List.sum_append]; omega)
      exact ⟨by rw [same_addE hok.same], s, hs8, hok.mono (by omega)⟩
theorem real_drop (w0 : World) (B m BR far : Nat) (n : Nat) (s : GS) (w : World) (R : Bks) (q : Int) (hs : HS w0 w (s.bk B m BR far ++ R)) (hok : s.ok w0 B m BR n) (hn : n ≤ 10000) (hoR : Own w0 R) :
    Ret Try.prog 30 [.pointer (some ⟨B, 0, none⟩), .int .i64 q] w fun r w' => ∃ s1 e, r = .int .i64 e ∧ HS w0 w' (GS.bk B m BR far s1 ++ R) ∧ Own w0 (GS.bk B m BR far s1) ∧
      ∀ (w2 : World) (R2 : Bks), HS w0 w2 (GS.bk B m BR far s1 ++ R2) → Own w0 R2 →
        Ret Try.prog 43 [.pointer (some ⟨BR, 0, none⟩), .int .i64 q] w2 fun r w' => r = .int .i64 e ∧ ∃ s2, HS w0 w' (GS.bk B m BR far s2 ++ R2) ∧ GS.ok w0 B m BR (n + 1) s2 := by
  have hln := hok.ln
  have hev := hok.evn
  have hkl : s.ks.length ≤ 1000000000 := by rw [key_len hok.kinv hok.g.map.keys hok.vok]; omega
  have hs0 : HS w0 w ((s.gB B m far ++ s.rB BR far) ++ R) := hs
  have hs1 : HS w0 w (s.gB B m far ++ (s.rB BR far ++ R)) := HS.re hs0 (fun c => by simp only [List.map_append, List.sum_append]; omega)
  refine Calls.mono (dropG w0 w B far s.v s.M (s.rB BR far ++ R) s.ev m s.es s.ck s.zs q hs1 hok.g (hok.r.owns.app hoR)) fun e w' => ?_
  rintro ⟨r, rfl, h⟩
  refine ⟨_, rfl, ?_⟩
  rcases h with ⟨h0, rfl, hs2⟩ | ⟨i, hi, hiq, hif, v', M', rfl, hs2, hG⟩
  · have hs4 : HS w0 w' ((s.gB B m far ++ s.rB BR far) ++ R) := HS.re (show HS w0 w' (s.gB B m far ++ (s.rB BR far ++ R)) from hs2) (fun c => by simp only [List.map_append, List.sum_append]; omega)
    refine ⟨s, 290, rfl, hs4, hok.own, ?_⟩
    intro w2 R2 hs5 hoR2
    have hs5' : HS w0 w2 ((s.gB B m far ++ s.rB BR far) ++ R2) := hs5
    have hs6 : HS w0 w2 (s.rB BR far ++ (s.gB B m far ++ R2)) := HS.re hs5' (fun c => by simp only [List.map_append, List.sum_append]; omega)
    refine Calls.mono (rdrop_ok w0 w2 BR far s.vZ s.MZ s.vK s.MK s.evR s.zsR s.ks (s.gB B m far ++ R2) q hs6 hok.r hkl) fun e w' => ?_
    rintro ⟨r, rfl, h⟩
    refine ⟨_, rfl, ?_⟩
    rcases h with ⟨_, rfl, hs7⟩ | ⟨i, hi, hiq, _⟩
    · have hs8 : HS w0 w' ((s.gB B m far ++ s.rB BR far) ++ R2) := HS.re (show HS w0 w' (s.rB BR far ++ (s.gB B m far ++ R2)) from hs7) (fun c => by simp only [List.map_append, List.sum_append]; omega)
      exact ⟨rfl, s, hs8, hok.mono (by omega)⟩
    · exact absurd ((numS hok.same i).symm.trans hiq) (h0 i (by rw [← same_len hok.same]; exact hi))
  · obtain ⟨s1, he1⟩ : ∃ s1, s1 = GS.mk v' M' s.ev (dropE s.es q) s.ck (s.zs.eraseIdx i) s.vZ s.MZ s.vK s.MK s.evR s.zsR s.ks := ⟨_, rfl⟩
    have hs3 : HS w0 w' (s1.gB B m far ++ (s.rB BR far ++ R)) := by rw [he1]; exact hs2
    have hs4 : HS w0 w' ((s1.gB B m far ++ s.rB BR far) ++ R) := HS.re hs3 (fun c => by simp only [List.map_append, List.sum_append]; omega)
    have hb1 : s1.bk B m BR far = s1.gB B m far ++ s.rB BR far := by rw [he1]; rfl
    have ho1 : Own w0 (s1.gB B m far) := by rw [he1]; exact hG.owns
    refine ⟨s1, 0, rfl, by rw [hb1]; exact hs4, by rw [hb1]; exact ho1.app hok.r.owns, ?_⟩
    intro w2 R2 hs5 hoR2
    rw [hb1] at hs5
    have hs6 : HS w0 w2 (s.rB BR far ++ (s1.gB B m far ++ R2)) := HS.re hs5 (fun c => by simp only [List.map_append, List.sum_append]; omega)
    refine Calls.mono (rdrop_ok w0 w2 BR far s.vZ s.MZ s.vK s.MK s.evR s.zsR s.ks (s1.gB B m far ++ R2) q hs6 hok.r hkl) fun e w' => ?_
    rintro ⟨r, rfl, h⟩
    refine ⟨_, rfl, ?_⟩
    rcases h with ⟨h1, _⟩ | ⟨j, hj, hjq, hjf, vZ', MZ', vK', MK', rfl, hs7, hR⟩
    · exact absurd ((numS hok.same i).trans hiq) (h1 i (by rw [same_len hok.same]; exact hi))
    · obtain rfl : i = j := by
        rcases Nat.lt_trichotomy i j with h | h | h
        · exact absurd ((numS hok.same i).trans hiq) (hjf i h)
        · exact h
        · exact absurd ((numS hok.same j).symm.trans hjq) (hif j h)
      obtain ⟨s2, he2⟩ : ∃ s2, s2 = GS.mk v' M' s.ev (dropE s.es q) s.ck (s.zs.eraseIdx i) vZ' MZ' vK' MK' s.evR (s.zsR.eraseIdx i) (dropK s.ks q) := ⟨_, rfl⟩
      have hs8 : HS w0 w' (s2.rB BR far ++ (s1.gB B m far ++ R2)) := by rw [he2]; exact hs7
      have hb2 : s2.bk B m BR far = s1.gB B m far ++ s2.rB BR far := by rw [he1, he2]; rfl
      refine ⟨rfl, s2, by rw [hb2]; exact HS.re hs8 (fun c => by simp only [List.map_append, List.sum_append]; omega), ?_⟩
      subst he2
      refine ⟨hG, hR, fun x hx => hok.vok x (List.mem_filter.1 hx).1, fun x hx => ?_, ?_, fun z hz => hok.nle z (List.mem_of_mem_eraseIdx hz), ?_, hok.evs, hok.ev0, by show s.ev ≤ ((n + 1 : Nat) : Int); omega, kinv_drop hok.kinv hok.g.map.keys q, ?_⟩
      · obtain ⟨hx, hxq⟩ := List.mem_filter.1 hx
        obtain ⟨z, hz, hzn⟩ := hok.keyz x hx
        refine ⟨z, ?_, hzn⟩
        have hzq : z.num ≠ q := fun h => by
          unfold dropB at hxq
          rw [← hzn, h] at hxq
          simp at hxq
        obtain ⟨j, hj, rfl⟩ := List.getElem_of_mem hz
        rw [List.mem_eraseIdx_iff_getElem]
        refine ⟨j, hj, fun hji => hzq ?_, rfl⟩
        subst hji
        rw [← hiq, List.getD_eq_getElem?_getD, List.getElem?_eq_getElem hi]
        rfl
      · exact hok.nd.sublist ((List.eraseIdx_sublist _ _).map _)
      · show (s.zsR.eraseIdx i).map _ = (s.zs.eraseIdx i).map _
        rw [erase_map, erase_map, hok.same]
      · show (dropE s.es q).length ≤ _
        exact Nat.le_trans (List.length_filter_le _ _) (by omega)
theorem real_watch (w0 : World) (B m BR far : Nat) (n : Nat) (s : GS) (w : World) (R : Bks) (time : Nat) (a : Option Addr) (k c : Nat) (ts : List Tk) (hs : HS w0 w (s.bk B m BR far ++ R)) (hok : s.ok w0 B m BR n) (hn : n ≤ 10000) (hoR : Own w0 R) (hl : Lies w0 R a (tcs ts)) (hk : ts.length = k) (hk2 : k ≤ 5000) :
    Ret Try.prog 15 [.pointer (some ⟨B, 0, none⟩), .float .f64 time, .slice a k c] w fun r w' => ∃ s1 N told, HS w0 w' ((GS.bk B m BR far s1 ++ R) ++ N) ∧ Own w0 (GS.bk B m BR far s1) ∧ Bl w0 51 4 r told.length (acs told) N ∧ told.length ≤ 1000000000 ∧
      ∀ (w2 : World) (R2 : Bks) (a2 : Option Addr) (c2 : Nat), HS w0 w2 (GS.bk B m BR far s1 ++ R2) → Own w0 R2 → Lies w0 R2 a2 (tcs ts) →
        Ret Try.prog 44 [.pointer (some ⟨BR, 0, none⟩), .float .f64 time, .slice a2 k c2] w2 fun r w' => ∃ s2 N2, HS w0 w' ((GS.bk B m BR far s2 ++ R2) ++ N2) ∧ Bl w0 51 4 r told.length (acs told) N2 ∧ GS.ok w0 B m BR (n + 1 + k) s2 := by
  have hln := hok.ln
  have hev := hok.evn
  have hkl : s.ks.length ≤ 1000000 := by rw [key_len hok.kinv hok.g.map.keys hok.vok]; omega
  have hs0 : HS w0 w ((s.gB B m far ++ s.rB BR far) ++ R) := hs
  have hs1 : HS w0 w (s.gB B m far ++ (s.rB BR far ++ R)) := HS.re hs0 (fun c => by simp only [List.map_append, List.sum_append]; omega)
  refine Calls.mono (watchG w0 w B far s.v s.M (s.rB BR far ++ R) s.ev m s.es s.ck s.zs time a k c ts hs1 hok.g (hok.r.owns.app hoR) hl.right (by omega) hk hk2) fun e w' => ?_
  rintro ⟨r, rfl, N, hs2, hbN, hG, hlen⟩
  refine ⟨_, rfl, ?_⟩
  obtain ⟨c1, c2, c3, c4, c5⟩ := watch_closed far time s.zs s.es s.ck ts hok.nd hok.g.map hok.vok hok.keyz
  obtain ⟨t1, t2⟩ := watch_same (far := far) (time := time) (ts := ts) (same_two hok.same) hok.kinv hok.nd hok.g.map hok.vok hok.keyz
  have htl := told_len (far := far) (time := time) (ts := ts) hok.nd hok.g.map hok.vok hok.keyz
  obtain ⟨W, hW⟩ : ∃ W, W = watchF far time s.zs s.es s.ck ts := ⟨_, rfl⟩
  rw [← hW] at hs2 hbN hG hlen c4 c5 t1 t2 htl
  obtain ⟨s1, he1⟩ : ∃ s1, s1 = GS.mk s.v s.M s.ev W.es W.ck s.zs s.vZ s.MZ s.vK s.MK s.evR s.zsR s.ks := ⟨_, rfl⟩
  have hs3 : HS w0 w' ((s1.gB B m far ++ (s.rB BR far ++ R)) ++ N) := by rw [he1]; exact hs2
  have hs4 : HS w0 w' (((s1.gB B m far ++ s.rB BR far) ++ R) ++ N) := HS.re hs3 (fun c => by simp only [List.map_append, List.sum_append]; omega)
  have hb1 : s1.bk B m BR far = s1.gB B m far ++ s.rB BR far := by rw [he1]; rfl
  have ho1 : Own w0 (s1.gB B m far) := by rw [he1]; exact hG.owns
  refine ⟨s1, N, W.told, by rw [hb1]; exact hs4, by rw [hb1]; exact ho1.app hok.r.owns, hbN, ?_, ?_⟩
  · refine Nat.le_trans htl (Nat.le_trans (Nat.mul_le_mul hok.g.len (show ts.length + s.es.length ≤ 700000 by omega)) (by decide))
  intro w2 R2 a2 c2 hs5 hoR2 hl2
  rw [hb1] at hs5
  have hs6 : HS w0 w2 (s.rB BR far ++ (s1.gB B m far ++ R2)) := HS.re hs5 (fun c => by simp only [List.map_append, List.sum_append]; omega)
  refine Calls.mono (rwatch_ok w0 w2 BR far s.vZ s.MZ s.vK s.MK s.evR s.zsR s.ks (s1.gB B m far ++ R2) time a2 k c2 ts hs6 hok.r (ho1.app hoR2) hl2.right hkl hk hk2) fun e w' => ?_
  rintro ⟨r, rfl, N2, vK', MK', hs7, hbN2, hR⟩
  refine ⟨_, rfl, ?_⟩
  rw [t1] at hbN2
  obtain ⟨s2, he2⟩ : ∃ s2, s2 = GS.mk s.v s.M s.ev W.es W.ck s.zs s.vZ s.MZ vK' MK' s.evR s.zsR (rKnown far s.zsR s.ks ts) := ⟨_, rfl⟩
  have hs8 : HS w0 w' ((s2.rB BR far ++ (s1.gB B m far ++ R2)) ++ N2) := by rw [he2]; exact hs7
  have hb2 : s2.bk B m BR far = s1.gB B m far ++ s2.rB BR far := by rw [he1, he2]; rfl
  refine ⟨s2, N2, by rw [hb2]; exact HS.re hs8 (fun c => by simp only [List.map_append, List.sum_append]; omega), hbN2, ?_⟩
  subst he2
  exact ⟨hG, hR, c4, c5, hok.nd, hok.nle, hok.same, hok.evs, hok.ev0, by show s.ev ≤ ((n + 1 + k : Nat) : Int); omega, t2, by show W.es.length ≤ _; omega⟩
theorem real_in (w0 : World) (B m BR far : Nat) (n : Nat) (s : GS) (w : World) (R : Bks) (q : Int) (hs : HS w0 w (s.bk B m BR far ++ R)) (hok : s.ok w0 B m BR n) (hn : n ≤ 10000) :
    Ret Try.prog 17 [.pointer (some ⟨B, 0, none⟩), .int .i64 q] w fun r w' => ∃ N ids, HS w0 w' ((s.bk B m BR far ++ R) ++ N) ∧ Bl w0 3 1 r ids.length (il ids) N ∧ ids.length ≤ 1000000000 ∧
      ∀ (w2 : World) (R2 : Bks), HS w0 w2 (s.bk B m BR far ++ R2) →
        Ret Try.prog 26 [.pointer (some ⟨BR, 0, none⟩), .int .i64 q] w2 fun r w' => ∃ N2, HS w0 w' ((s.bk B m BR far ++ R2) ++ N2) ∧ Bl w0 3 1 r ids.length (il ids) N2 := by
  have hln := hok.ln
  have hkl : s.ks.length ≤ 1000000000 := by rw [key_len hok.kinv hok.g.map.keys hok.vok]; omega
  have hs0 : HS w0 w ((s.gB B m far ++ s.rB BR far) ++ R) := hs
  have hs1 : HS w0 w (s.gB B m far ++ (s.rB BR far ++ R)) := HS.re hs0 (fun c => by simp only [List.map_append, List.sum_append]; omega)
  refine Calls.mono (inG w0 w B far s.v s.M (s.rB BR far ++ R) s.ev m s.es s.ck s.zs q hs1 hok.g (by omega)) fun e w' => ?_
  rintro ⟨r, rfl, N, hs2, hbN⟩
  refine ⟨_, rfl, N, isort (inL s.es q), ?_, by rw [isort_len]; exact hbN, by rw [isort_len]; exact Nat.le_trans (inL_len _ _) (by omega), ?_⟩
  · have hs3 : HS w0 w' (((s.gB B m far ++ s.rB BR far) ++ R) ++ N) := HS.re (show HS w0 w' ((s.gB B m far ++ (s.rB BR far ++ R)) ++ N) from hs2) (fun c => by simp only [List.map_append, List.sum_append]; omega)
    exact hs3
  intro w2 R2 hs5
  have hs5' : HS w0 w2 ((s.gB B m far ++ s.rB BR far) ++ R2) := hs5
  have hs6 : HS w0 w2 (s.rB BR far ++ (s.gB B m far ++ R2)) := HS.re hs5' (fun c => by simp only [List.map_append, List.sum_append]; omega)
  refine Calls.mono (rin_ok w0 w2 BR far s.vZ s.MZ s.vK s.MK s.evR s.zsR s.ks (s.gB B m far ++ R2) q hs6 hok.r hkl) fun e w' => ?_
  rintro ⟨r, rfl, N2, hs7, hbN2⟩
  rw [rin_same hok.kinv hok.g.map.keys] at hbN2
  refine ⟨_, rfl, N2, ?_, hbN2⟩
  have hs8 : HS w0 w' (((s.gB B m far ++ s.rB BR far) ++ R2) ++ N2) := HS.re (show HS w0 w' ((s.rB BR far ++ (s.gB B m far ++ R2)) ++ N2) from hs7) (fun c => by simp only [List.map_append, List.sum_append]; omega)
  exact hs8
theorem duo_real (w0 : World) (B m BR far : Nat) : Duo w0 (.pointer (some ⟨B, 0, none⟩)) (.pointer (some ⟨BR, 0, none⟩)) GS (GS.bk B m BR far) (fun n s => s.ok w0 B m BR n) :=
  ⟨fun h => h.own, fun h hn => h.mono hn, real_add w0 B m BR far, real_drop w0 B m BR far, real_watch w0 B m BR far, real_in w0 B m BR far⟩
theorem duo_nil (w0 : World) : Duo w0 (.pointer none) (.pointer none) Unit (fun _ => []) (fun _ _ => True) := by
  refine ⟨fun _ => Own.nil, fun _ _ => trivial, ?_, ?_, ?_, ?_⟩
  · intro n s w R nm a k c ps hs _ _ _ _ _ _ _
    refine Calls.mono (add_nil nm a k c w) fun e w' => ?_
    rintro ⟨r, rfl, rfl, h⟩
    refine ⟨_, rfl, (), 0, 1, rfl, hs.nil h, Own.nil, ?_⟩
    intro w2 R2 a2 c2 hs2 _ _
    refine Calls.mono (radd_nil nm a2 k c2 w2) fun e w' => ?_
    rintro ⟨r, rfl, rfl, h⟩
    exact ⟨_, rfl, rfl, (), hs2.nil h, trivial⟩
  · intro n s w R q hs _ _ _
    refine Calls.mono (drop_nil q w) fun e w' => ?_
    rintro ⟨r, rfl, rfl, h⟩
    refine ⟨_, rfl, (), 1, rfl, hs.nil h, Own.nil, ?_⟩
    intro w2 R2 hs2 _
    refine Calls.mono (rdrop_nil q w2) fun e w' => ?_
    rintro ⟨r, rfl, rfl, h⟩
    exact ⟨_, rfl, rfl, (), hs2.nil h, trivial⟩
  · intro n s w R time a k c ts hs _ _ _ _ _ _
    refine Calls.mono (watch_nil time a k c w) fun e w' => ?_
    rintro ⟨r, rfl, rfl, h⟩
    refine ⟨_, rfl, (), [], [], by rw [List.append_nil]; exact hs.nil h, Own.nil, Bl.nil, Nat.zero_le _, ?_⟩
    intro w2 R2 a2 c2 hs2 _ _
    refine Calls.mono (rwatch_nil time a2 k c2 w2) fun e w' => ?_
    rintro ⟨r, rfl, rfl, h⟩
    exact ⟨_, rfl, (), [], by rw [List.append_nil]; exact hs2.nil h, Bl.nil, trivial⟩
  · intro n s w R q hs _ _
    refine Calls.mono (in_nil q w) fun e w' => ?_
    rintro ⟨r, rfl, rfl, h⟩
    refine ⟨_, rfl, [], [], by rw [List.append_nil]; exact hs.nil h, Bl.nil, Nat.zero_le _, ?_⟩
    intro w2 R2 hs2
    refine Calls.mono (rin_nil q w2) fun e w' => ?_
    rintro ⟨r, rfl, rfl, h⟩
    exact ⟨_, rfl, [], by rw [List.append_nil]; exact hs2.nil h, Bl.nil⟩
end Go.Proofs.Ytoiobncojfeoiaa
