/-
 A part of the proof: what functions that the statement reaches do, or a plain law on what they do. Each theorem holds under its own premises alone.
-/
import Derived.Test.YtoiobncojfeoiaaTHF
import Derived.Test.YtoiobncojfeoiaaTUW3
namespace Go.Proofs.Ytoiobncojfeoiaa
open Go Go.Lk
/-! ### step: one guard beside the document's -/
/-- an operation -/
structure OPr where
 kind : Int
 nm : ByteArray
 ca : Option Addr
 cc : Nat
 ps : List Pt
 num : Int
 time : Nat
 ta : Option Addr
 tc : Nat
 ts : List Tk
def OPr.cells (o : OPr) : List Value := [.int .i64 o.kind, .string o.nm, .slice o.ca o.ps.length o.cc, .int .i64 o.num, .float .f64 o.time, .slice o.ta o.ts.length o.tc]
theorem OPr.one (o : OPr) : ∀ v ∈ o.cells, v.oneCell' = true := by
 intro v hv
 unfold OPr.cells at hv
 simp only [List.mem_cons, List.not_mem_nil, or_false] at hv
 rcases hv with rfl | rfl | rfl | rfl | rfl | rfl <;> rfl
def PtB (ps : List Pt) : Prop := ∀ p ∈ ps, p.1 < 18446744073709551616 ∧ p.2 < 18446744073709551616
/-- a slice that lies in R -/
def Lies (w0 : World) (R : Bks) (a : Option Addr) (cs : List Value) : Prop := ∀ w' L', HS w0 w' L' → Own w0 L' → (∀ p ∈ R, p ∈ L') → SlC w' a cs
/-- two guards beside one another: what a call of the one tells, the call of the other tells -/
structure Duo (w0 : World) (gp rp : Value) (σ : Type) (bk : σ → Bks) (ok : Nat → σ → Prop) : Prop where
 own : ∀ {n s}, ok n s → Own w0 (bk s)
 mono : ∀ {n n' s}, ok n s → n ≤ n' → ok n' s
 add : ∀ (n : Nat) (s : σ) (w : World) (R : Bks) (nm : ByteArray) (a : Option Addr) (k c : Nat) (ps : List Pt), HS w0 w (bk s ++ R) → ok n s → n ≤ 10000 → Own w0 R → Lies w0 R a (pcs ps) → ps.length = k → k ≤ 10000 → PtB ps →
  Ret Try.prog 14 [gp, .agg #[.string nm, .slice a k c]] w fun r w' => ∃ s1 x e, r = .tuple #[.int .i64 x, .int .i64 e] ∧ HS w0 w' (bk s1 ++ R) ∧ Own w0 (bk s1) ∧
   ∀ (w2 : World) (R2 : Bks) (a2 : Option Addr) (c2 : Nat), HS w0 w2 (bk s1 ++ R2) → Own w0 R2 → Lies w0 R2 a2 (pcs ps) →
    Ret Try.prog 42 [rp, .agg #[.string nm, .slice a2 k c2]] w2 fun r w' => r = .tuple #[.int .i64 x, .int .i64 e] ∧ ∃ s2, HS w0 w' (bk s2 ++ R2) ∧ ok (n + 1) s2
 drop : ∀ (n : Nat) (s : σ) (w : World) (R : Bks) (q : Int), HS w0 w (bk s ++ R) → ok n s → n ≤ 10000 → Own w0 R →
  Ret Try.prog 30 [gp, .int .i64 q] w fun r w' => ∃ s1 e, r = .int .i64 e ∧ HS w0 w' (bk s1 ++ R) ∧ Own w0 (bk s1) ∧
   ∀ (w2 : World) (R2 : Bks), HS w0 w2 (bk s1 ++ R2) → Own w0 R2 →
    Ret Try.prog 43 [rp, .int .i64 q] w2 fun r w' => r = .int .i64 e ∧ ∃ s2, HS w0 w' (bk s2 ++ R2) ∧ ok (n + 1) s2
 watch : ∀ (n : Nat) (s : σ) (w : World) (R : Bks) (time : Nat) (a : Option Addr) (k c : Nat) (ts : List Tk), HS w0 w (bk s ++ R) → ok n s → n ≤ 10000 → Own w0 R → Lies w0 R a (tcs ts) → ts.length = k → k ≤ 5000 →
  Ret Try.prog 15 [gp, .float .f64 time, .slice a k c] w fun r w' => ∃ s1 N told, HS w0 w' ((bk s1 ++ R) ++ N) ∧ Own w0 (bk s1) ∧ Bl w0 51 4 r told.length (acs told) N ∧ told.length ≤ 1000000000 ∧
   ∀ (w2 : World) (R2 : Bks) (a2 : Option Addr) (c2 : Nat), HS w0 w2 (bk s1 ++ R2) → Own w0 R2 → Lies w0 R2 a2 (tcs ts) →
    Ret Try.prog 44 [rp, .float .f64 time, .slice a2 k c2] w2 fun r w' => ∃ s2 N2, HS w0 w' ((bk s2 ++ R2) ++ N2) ∧ Bl w0 51 4 r told.length (acs told) N2 ∧ ok (n + 1 + k) s2
 inn : ∀ (n : Nat) (s : σ) (w : World) (R : Bks) (q : Int), HS w0 w (bk s ++ R) → ok n s → n ≤ 10000 →
  Ret Try.prog 17 [gp, .int .i64 q] w fun r w' => ∃ N ids, HS w0 w' ((bk s ++ R) ++ N) ∧ Bl w0 3 1 r ids.length (il ids) N ∧ ids.length ≤ 1000000000 ∧
   ∀ (w2 : World) (R2 : Bks), HS w0 w2 (bk s ++ R2) →
    Ret Try.prog 26 [rp, .int .i64 q] w2 fun r w' => ∃ N2, HS w0 w' ((bk s ++ R2) ++ N2) ∧ Bl w0 3 1 r ids.length (il ids) N2
theorem _root_.Go.Lk.Bl.put {w0 : World} {E : TypeId} {sz : Nat} {a : Option Addr} {n c m : Nat} {xs : List Value} {M : Bks} (h : Bl w0 E sz (.slice a n c) m xs M) (hm : 0 < m) :
  ∃ g sp, a = some ⟨g, 0, none⟩ ∧ M = [(g, Row E (xs ++ sp))] ∧ xs.length = m * sz ∧ ∀ xs', xs'.length = xs.length → Bl w0 E sz (.slice a n c) m xs' [(g, Row E (xs' ++ sp))] := by
 have hl := h.len
 cases h with
 | nil => omega
 | @row g n cap xs sp hg hx hc hn => exact ⟨g, sp, rfl, rfl, hl, fun xs' hx' => Bl.row hg (by omega) (by rw [← hc]; simp [hx']) hn⟩
theorem put_app {cs sp vs : List Value} {j : Nat} (h : j + vs.length ≤ cs.length) : (cs ++ sp).take j ++ vs ++ (cs ++ sp).drop (j + vs.length) = (cs.take j ++ vs ++ cs.drop (j + vs.length)) ++ sp := by
 rw [List.take_append_of_le_length (by omega), List.drop_append_of_le_length h]; simp only [List.append_assoc]
theorem put_len {cs vs : List Value} {j : Nat} (h : j + vs.length ≤ cs.length) : (cs.take j ++ vs ++ cs.drop (j + vs.length)).length = cs.length := by simp; omega
theorem put_get {cs vs : List Value} {j q : Nat} (h : j + vs.length ≤ cs.length) (hq : j + vs.length ≤ q) : (cs.take j ++ vs ++ cs.drop (j + vs.length))[q]? = cs[q]? := by
 rw [List.getElem?_append_right (by simp; omega), List.getElem?_drop]; congr 1; simp; omega
set_option maxHeartbeats 4000000 in
theorem step_ok (w0 w : World) (gp rp : Value) (σ : Type) (bk : σ → Bks) (ok : Nat → σ → Prop) (D : Duo w0 gp rp σ bk ok) (n : Nat) (s : σ) (R : Bks) (o : OPr) (hs : HS w0 w (bk s ++ R)) (hok : ok n s) (hn : n ≤ 10000) (hR : Own w0 R) (hps : SlC w0 o.ca (pcs o.ps)) (hpb : PtB o.ps) (hpl : o.ps.length ≤ 10000) (hts : SlC w0 o.ta (tcs o.ts)) (htl : o.ts.length ≤ 5000) :
  Ret Try.prog 25 [gp, rp, .agg o.cells.toArray] w fun r w' => r = .bool true ∧ ∃ s', HS w0 w' (bk s' ++ R) ∧ ok (n + 1 + o.ts.length) s' := by
 have hoS := D.own hok
 refine calls_of_W Try.func25 rfl rfl rfl ?_
 refine W_seq ?_
 refine W_region ?_
 refine L_box rfl hs rfl ?_; intro b5 w hb5 hnb5 hs; replace hs := HS.push hs
 refine L_assign rfl rfl ?_
 refine RL_then ?_
 refine W_seq ?_
 refine W_seq ?_
 replace hs : HS w0 w ((b5, Row 75 o.cells) :: (bk s ++ R)) := hs
 have hoB : Own w0 ((b5, Row 75 o.cells) :: (bk s ++ R)) := Own.cons hb5 (hoS.app hR)
 by_cases h0 : o.kind = 0
 ·
  skip
  refine W_region ?_
  refine L_fieldAddr rfl (off := 0) Try.underlying75 rfl rfl Try.ti3 rfl ?_
  refine L_load rfl Try.one3 rfl (by exact hs.cell (i := 0) rfl rfl) ?_
  refine RL_then ?_
  refine W_block ?_
  refine W_seq ?_
  refine W_region ?_
  first | refine L_eql rfl rfl rfl (dtrue (by omega)) ?_ | refine L_eql rfl rfl rfl (dfalse (by omega)) ?_ | refine L_eql rfl rfl rfl rfl ?_
  refine L_assign rfl rfl ?_
  refine RL_then ?_
  refine W_if_true rfl ?_
  refine W_seq ?_
  refine W_region ?_
  refine L_fieldAddr rfl (off := 1) Try.underlying75 rfl rfl Try.ti40 rfl ?_
  refine L_fieldAddr rfl (off := 1) Try.underlying40 rfl rfl Try.ti22 rfl ?_
  refine L_load rfl Try.one22 rfl (by exact hs.cell (i := 0) rfl rfl) ?_
  refine L_appendS (L := (b5, Row 75 o.cells) :: (bk s ++ R)) (M := []) rfl Try.underlying22 Try.ti25 rfl (by decide) (by rw [List.append_nil]; exact hs) Bl.nil rfl rfl (news := pcs o.ps) (by rw [pcs_len]) (hps.old hs hoB) (pcs_one _) (by omega) (by omega) ?_
  rintro v28 w M28 hs hb28
  rw [List.nil_append, Nat.zero_add] at hb28
  refine L_assign rfl rfl ?_
  refine RL_then ?_
  refine W_seq ?_
  refine W_sg Try.mixed ?_
  replace hs := hs.drewN 1
  refine SG_stage [0, 1, 4, 5] [] [] (fun _ _ _ => False) (g' := 6) (by kernel_rfl) (by kernel_rfl) (fun _ _ _ _ _ h => h) hs ?_
  refine PL_val rfl (fun w => R_move rfl) ?_
  refine PL_val rfl (fun w => R_build rfl (Pl.built Try.pl25 rfl)) ?_
  refine PL_val rfl (fun w => R_fieldAddr (off := 1) Try.underlying75 rfl rfl Try.ti40 rfl) ?_
  refine PL_val rfl (fun w => R_fieldAddr (off := 1) Try.underlying40 rfl rfl Try.ti22 rfl) ?_
  refine PL_end ?_
  refine HL_tail ?_
  intro w hs
  refine RL_sg ?_
  refine SG_join (g' := 2) (l' := #[true, true, true, true, true, true, true, true, false, false]) (fun S => ∀ (v32 : Value) (M32 : Bks) (w : World), (HS w0 w (((b5, Row 75 o.cells) :: (bk s ++ R)) ++ M32)) ∧ (Bl w0 25 2 v32 (o.ps.length + 1) (pcs o.ps ++ [.float .f64 4635118810238550016, .float .f64 0]) M32) → S [(0, gp), (1, rp), (5, .pointer (some ⟨b5, 0, none⟩)), (32, v32), (36, .int .i64 o.ps.length)] w) ?_ ?_
  ·
   intro fin
   refine SG_pick2 (i := 2) (l1 := #[true, true, true, false, true, true, false, false, false, false]) (j := 6) (l2 := #[true, true, false, false, true, true, true, false, false, false]) (by kernel_rfl) (by kernel_rfl) (by kernel_rfl) (by kernel_rfl) ?_ ?_
   ·
    refine L_buildSlice rfl hs Try.underlying22 Try.ti25 rfl (by decide) rfl (by simp [Value.cells]) ?_
    intro b31 w hb31 hnb31 hs
    skip
    refine RL_sg ?_
    refine SG_pick2 (i := 3) (l1 := #[true, true, true, true, true, true, false, false, false, false]) (j := 6) (l2 := #[true, true, true, false, true, true, true, false, false, false]) (by kernel_rfl) (by kernel_rfl) (by kernel_rfl) (by kernel_rfl) ?_ ?_
    ·
     refine L_appendT (L := (b5, Row 75 o.cells) :: (bk s ++ R)) (M := M28) (news := [.float .f64 4635118810238550016, .float .f64 0]) rfl Try.underlying22 Try.ti25 rfl hs (by assumption) hb28 rfl rfl rfl (by simp [Value.oneCell']) (by omega) (by omega) ?_; intro v32 w M32 hs hb32
     refine RL_sg ?_
     refine SG_pick1 (i := 6) (l1 := #[true, true, true, true, true, true, true, false, false, false]) (by kernel_rfl) (by kernel_rfl) (by kernel_rfl) ?_
     refine L_load rfl Try.one22 rfl (by exact hs.cell (i := 0) rfl rfl) ?_
     refine RL_sg ?_
     refine SG_pick1 (i := 7) (l1 := #[true, true, true, true, true, true, true, true, false, false]) (by kernel_rfl) (by kernel_rfl) (by kernel_rfl) ?_
     refine L_len rfl Try.underlying22 rfl ?_
     refine RL_sg ?_
     refine SG_env (fin v32 M32 w ⟨hs, hb32⟩) (looks_cons rfl (looks_cons rfl (looks_cons rfl (looks_cons rfl (looks_cons rfl looks_nil)))))
    ·
     refine L_load rfl Try.one22 rfl (by exact hs.cell (i := 0) rfl rfl) ?_
     refine RL_sg ?_
     refine SG_pick2 (i := 3) (l1 := #[true, true, true, true, true, true, true, false, false, false]) (j := 7) (l2 := #[true, true, true, false, true, true, true, true, false, false]) (by kernel_rfl) (by kernel_rfl) (by kernel_rfl) (by kernel_rfl) ?_ ?_
     ·
      refine L_appendT (L := (b5, Row 75 o.cells) :: (bk s ++ R)) (M := M28) (news := [.float .f64 4635118810238550016, .float .f64 0]) rfl Try.underlying22 Try.ti25 rfl hs (by assumption) hb28 rfl rfl rfl (by simp [Value.oneCell']) (by omega) (by omega) ?_; intro v32 w M32 hs hb32
      refine RL_sg ?_
      refine SG_pick1 (i := 7) (l1 := #[true, true, true, true, true, true, true, true, false, false]) (by kernel_rfl) (by kernel_rfl) (by kernel_rfl) ?_
      refine L_len rfl Try.underlying22 rfl ?_
      refine RL_sg ?_
      refine SG_env (fin v32 M32 w ⟨hs, hb32⟩) (looks_cons rfl (looks_cons rfl (looks_cons rfl (looks_cons rfl (looks_cons rfl looks_nil)))))
     ·
      refine L_len rfl Try.underlying22 rfl ?_
      refine RL_sg ?_
      refine SG_pick1 (i := 3) (l1 := #[true, true, true, true, true, true, true, true, false, false]) (by kernel_rfl) (by kernel_rfl) (by kernel_rfl) ?_
      refine L_appendT (L := (b5, Row 75 o.cells) :: (bk s ++ R)) (M := M28) (news := [.float .f64 4635118810238550016, .float .f64 0]) rfl Try.underlying22 Try.ti25 rfl hs (by assumption) hb28 rfl rfl rfl (by simp [Value.oneCell']) (by omega) (by omega) ?_; intro v32 w M32 hs hb32
      refine RL_sg ?_
      refine SG_env (fin v32 M32 w ⟨hs, hb32⟩) (looks_cons rfl (looks_cons rfl (looks_cons rfl (looks_cons rfl (looks_cons rfl looks_nil)))))
   ·
    refine L_load rfl Try.one22 rfl (by exact hs.cell (i := 0) rfl rfl) ?_
    refine RL_sg ?_
    refine SG_pick2 (i := 2) (l1 := #[true, true, true, false, true, true, true, false, false, false]) (j := 7) (l2 := #[true, true, false, false, true, true, true, true, false, false]) (by kernel_rfl) (by kernel_rfl) (by kernel_rfl) (by kernel_rfl) ?_ ?_
    ·
     refine L_buildSlice rfl hs Try.underlying22 Try.ti25 rfl (by decide) rfl (by simp [Value.cells]) ?_
     intro b31 w hb31 hnb31 hs
     skip
     refine RL_sg ?_
     refine SG_pick2 (i := 3) (l1 := #[true, true, true, true, true, true, true, false, false, false]) (j := 7) (l2 := #[true, true, true, false, true, true, true, true, false, false]) (by kernel_rfl) (by kernel_rfl) (by kernel_rfl) (by kernel_rfl) ?_ ?_
     ·
      refine L_appendT (L := (b5, Row 75 o.cells) :: (bk s ++ R)) (M := M28) (news := [.float .f64 4635118810238550016, .float .f64 0]) rfl Try.underlying22 Try.ti25 rfl hs (by assumption) hb28 rfl rfl rfl (by simp [Value.oneCell']) (by omega) (by omega) ?_; intro v32 w M32 hs hb32
      refine RL_sg ?_
      refine SG_pick1 (i := 7) (l1 := #[true, true, true, true, true, true, true, true, false, false]) (by kernel_rfl) (by kernel_rfl) (by kernel_rfl) ?_
      refine L_len rfl Try.underlying22 rfl ?_
      refine RL_sg ?_
      refine SG_env (fin v32 M32 w ⟨hs, hb32⟩) (looks_cons rfl (looks_cons rfl (looks_cons rfl (looks_cons rfl (looks_cons rfl looks_nil)))))
     ·
      refine L_len rfl Try.underlying22 rfl ?_
      refine RL_sg ?_
      refine SG_pick1 (i := 3) (l1 := #[true, true, true, true, true, true, true, true, false, false]) (by kernel_rfl) (by kernel_rfl) (by kernel_rfl) ?_
      refine L_appendT (L := (b5, Row 75 o.cells) :: (bk s ++ R)) (M := M28) (news := [.float .f64 4635118810238550016, .float .f64 0]) rfl Try.underlying22 Try.ti25 rfl hs (by assumption) hb28 rfl rfl rfl (by simp [Value.oneCell']) (by omega) (by omega) ?_; intro v32 w M32 hs hb32
      refine RL_sg ?_
      refine SG_env (fin v32 M32 w ⟨hs, hb32⟩) (looks_cons rfl (looks_cons rfl (looks_cons rfl (looks_cons rfl (looks_cons rfl looks_nil)))))
    ·
     refine L_len rfl Try.underlying22 rfl ?_
     refine RL_sg ?_
     refine SG_pick1 (i := 2) (l1 := #[true, true, true, false, true, true, true, true, false, false]) (by kernel_rfl) (by kernel_rfl) (by kernel_rfl) ?_
     refine L_buildSlice rfl hs Try.underlying22 Try.ti25 rfl (by decide) rfl (by simp [Value.cells]) ?_
     intro b31 w hb31 hnb31 hs
     skip
     refine RL_sg ?_
     refine SG_pick1 (i := 3) (l1 := #[true, true, true, true, true, true, true, true, false, false]) (by kernel_rfl) (by kernel_rfl) (by kernel_rfl) ?_
     refine L_appendT (L := (b5, Row 75 o.cells) :: (bk s ++ R)) (M := M28) (news := [.float .f64 4635118810238550016, .float .f64 0]) rfl Try.underlying22 Try.ti25 rfl hs (by assumption) hb28 rfl rfl rfl (by simp [Value.oneCell']) (by omega) (by omega) ?_; intro v32 w M32 hs hb32
     refine RL_sg ?_
     refine SG_env (fin v32 M32 w ⟨hs, hb32⟩) (looks_cons rfl (looks_cons rfl (looks_cons rfl (looks_cons rfl (looks_cons rfl looks_nil)))))
  ·
   clear hs
   intro v32 M32 w hI
   show SG _ _ _ _ _ _ [(0, gp), (1, rp), (5, .pointer (some ⟨b5, 0, none⟩)), (32, v32), (36, .int .i64 o.ps.length)] w
   obtain ⟨hs, hb32⟩ := hI
   obtain ⟨q, cap, sp, rfl, rfl, hq, hcap, hle⟩ := hb32.own_row (by omega)
   obtain ⟨CS, hCS⟩ : ∃ CS, pcs o.ps ++ [.float .f64 4635118810238550016, .float .f64 0] ++ sp = CS := ⟨_, rfl⟩
   have hsA : HS w0 w (((b5, Row 75 o.cells) :: (bk s ++ R)) ++ [(q, Row 25 (pcs o.ps ++ [.float .f64 4635118810238550016, .float .f64 0] ++ sp))]) := hs
   rw [hCS] at hsA
   have hsB : HS w0 w (bk s ++ ((q, Row 25 CS) :: (b5, Row 75 o.cells) :: R)) := HS.re hsA (fun c => by simp only [List.map_append, List.map_cons, List.map_nil, List.sum_append, List.sum_cons, List.sum_nil]; omega)
   clear hs hsA
   have hs := hsB
   clear hsB
   have hoR : Own w0 ((q, Row 25 CS) :: (b5, Row 75 o.cells) :: R) := Own.cons hq (Own.cons hb5 hR)
   have hlq : Lies w0 ((q, Row 25 CS) :: (b5, Row 75 o.cells) :: R) (some ⟨q, 0, none⟩) (pcs o.ps) := fun w' L' h ho hp => SlC.of_row (T := 25) (sp := [.float .f64 4635118810238550016, .float .f64 0] ++ sp) (by rw [← List.append_assoc, hCS]; exact h.has _ (hp _ List.mem_cons_self))
   have hm5 : ∀ A, (b5, Row 75 o.cells) ∈ A ++ ((q, Row 25 CS) :: (b5, Row 75 o.cells) :: R) := fun A => List.mem_append_right _ (List.mem_cons_of_mem _ List.mem_cons_self)
   refine SG_pick1 (i := 8) (l1 := #[true, true, true, true, true, true, true, true, true, false]) (by kernel_rfl) (by kernel_rfl) (by kernel_rfl) ?_
   refine RL_val rfl (R_slice010 Try.underlying22 Try.ti25 rfl rfl (by with_reducible first | exact natc_k _ | exact natc_a1 _ | exact natc_0 | exact natc_1 | exact natc_2 | exact natc_s1 _ (by omega) | exact natc_a2 _ | exact natc_add _ _ | exact natc_mul _ _ | exact natc (by omega)) (by omega)) ?_
   refine RL_sg ?_
   refine SG_pick1 (i := 9) (l1 := #[true, true, true, true, true, true, true, true, true, true]) (by kernel_rfl) (by kernel_rfl) (by kernel_rfl) ?_
   refine L_assign rfl rfl ?_
   refine RL_sg ?_
   refine SG_end (by kernel_rfl) ?_
   refine Nx_then ?_
   refine W_seq ?_
   refine W_region ?_
   refine L_move rfl rfl ?_
   refine L_fieldAddr rfl (off := 1) Try.underlying75 rfl rfl Try.ti40 rfl ?_
   refine L_fieldAddr rfl (off := 0) Try.underlying40 rfl rfl Try.ti9 rfl ?_
   refine L_load rfl Try.one9 rfl (by exact hs.cellM (hm5 _) rfl) ?_
   refine L_move rfl rfl ?_
   refine L_build rfl rfl (Pl.built Try.pl40 rfl) ?_
   refine L_call rfl Try.fun14 rfl (D.add n s w _ o.nm (some ⟨q, 0, none⟩) o.ps.length cap o.ps hs hok hn hoR hlq rfl hpl hpb) ?_
   rintro _ w1 ⟨s1, x, e, rfl, hs1, ho1, hsec⟩
   clear hs
   have hs := hs1
   clear hs1
   refine L_move rfl rfl ?_
   refine L_extract rfl rfl rfl ?_
   refine L_extract rfl rfl rfl ?_
   refine L_assign rfl rfl ?_
   refine L_assign rfl rfl ?_
   refine RL_then ?_
   refine W_seq ?_
   refine W_region ?_
   refine L_move rfl rfl ?_
   refine L_fieldAddr rfl (off := 1) Try.underlying75 rfl rfl Try.ti40 rfl ?_
   refine L_loadA rfl Try.agg40 Try.ti40 rfl (by exact cellsAt2' (hs.has _ (hm5 _)) rfl rfl) ?_
   refine L_call rfl Try.fun42 rfl (hsec w1 _ o.ca o.cc hs hoR (fun w' L' h ho _ => hps.old h ho)) ?_
   rintro _ w2 ⟨rfl, s2, hs2, hok2⟩
   clear hs
   have hs : HS w0 w2 ((q, Row 25 CS) :: (b5, Row 75 o.cells) :: (bk s2 ++ R)) := HS.re hs2 (fun c => by simp only [List.map_append, List.map_cons, List.map_nil, List.sum_append, List.sum_cons, List.sum_nil]; omega)
   clear hs2
   have hlC : CS.length = o.ps.length * 2 + 2 + sp.length := by rw [← hCS]; simp [pcs_len]; omega
   refine L_move rfl rfl ?_
   refine L_extract rfl rfl rfl ?_
   refine L_extract rfl rfl rfl ?_
   refine L_assign rfl rfl ?_
   refine L_assign rfl rfl ?_
   refine RL_then ?_
   refine W_seq ?_
   refine W_seq ?_
   refine W_region ?_
   refine L_move rfl rfl ?_
   refine L_len rfl Try.underlying22 rfl ?_
   refine L_move rfl rfl ?_
   refine RL_then ?_
   refine W_block ?_
   refine W_loop3 (fun (i : Nat) (cs : List Value) (w : World) => [(0, gp), (1, rp), (5, .pointer (some ⟨b5, 0, none⟩)), (7, .slice (some ⟨q, 0, none⟩) o.ps.length cap), (8, .int .i64 x), (9, .int .i64 e), (10, .int .i64 x), (11, .int .i64 e), (56, .int .i64 o.ps.length), (57, .int .i64 i)]) (fun (i : Nat) (cs : List Value) (w : World) => w) (fun (i : Nat) (cs : List Value) (w : World) => (i ≤ o.ps.length) ∧ (cs.length = CS.length) ∧ (∀ j, i * 2 ≤ j → cs[j]? = CS[j]?) ∧ (HS w0 w ((q, Row 25 cs) :: (b5, Row 75 o.cells) :: (bk s2 ++ R)))) (fun (i : Nat) (cs : List Value) (w : World) => o.ps.length - i) (0) (CS) (w2) (is := [0, 1, 5, 7, 8, 9, 10, 11, 56, 57]) rfl rfl ?_ ?_
   ·
    exact ⟨Nat.zero_le _, rfl, fun _ _ => rfl, hs⟩
   ·
    clear hs
    intro i cs w hI
    show W _ _ _ _ [(0, gp), (1, rp), (5, .pointer (some ⟨b5, 0, none⟩)), (7, .slice (some ⟨q, 0, none⟩) o.ps.length cap), (8, .int .i64 x), (9, .int .i64 e), (10, .int .i64 x), (11, .int .i64 e), (56, .int .i64 o.ps.length), (57, .int .i64 i)] w
    obtain ⟨hi, hcl, hcg, hs⟩ := hI
    have hoW := hs
    by_cases hlt : i < o.ps.length
    ·
     refine W_seq ?_
     refine W_region ?_
     first | refine L_lss rfl rfl rfl (dtrue (by omega)) ?_ | refine L_lss rfl rfl rfl (dfalse (by omega)) ?_ | refine L_lss rfl rfl rfl rfl ?_
     refine RL_then ?_
     refine W_seq ?_
     refine W_if_true rfl ?_
     obtain ⟨u, hud⟩ : ∃ u, u = o.ps.getD i (0, 0) := ⟨_, rfl⟩
     have hoL : Own w0 ((q, Row 25 cs) :: (b5, Row 75 o.cells) :: (bk s2 ++ R)) := fun p hp => by
      rcases List.mem_cons.1 hp with rfl | hp
      ·
       exact hq
      rcases List.mem_cons.1 hp with rfl | hp
      ·
       exact hb5
      exact ((D.own hok2).app hR) p hp
     have cx : ∀ w1, HS w0 w1 ((q, Row 25 cs) :: (b5, Row 75 o.cells) :: (bk s2 ++ R)) → CellsAt w1 ((aD (some ⟨q, 0, none⟩)).add (i * 2)) [.float .f64 u.1, .float .f64 u.2] := fun w1 h => cellsAt_row (T := 25) (xs := cs) _ (h.get (i := 0) rfl) fun z v hv => by
      have h1 : (pcs o.ps)[i * 2 + z]? = some v := pcs_get hlt (by rw [← hud]; exact hv)
      rw [hcg _ (by omega), ← hCS, List.append_assoc, List.getElem?_append_left (List.getElem?_eq_some_iff.1 h1).1]
      exact h1
     have cy : ∀ w1, HS w0 w1 ((q, Row 25 cs) :: (b5, Row 75 o.cells) :: (bk s2 ++ R)) → CellsAt w1 ((aD o.ca).add (i * 2)) [.float .f64 u.1, .float .f64 u.2] := fun w1 h => by rw [hud]; exact pt_at (hps.old h hoL) (by omega)
     refine W_skip' ?_
     refine Nx_then ?_
     refine W_seq ?_
     refine W_block ?_
     refine W_seq ?_
     refine W_region ?_
     refine L_move rfl rfl ?_
     refine L_assign rfl rfl ?_
     refine RL_then ?_
     refine W_seq ?_
     refine W_seq ?_
     refine W_sg Try.mixed ?_
     replace hs := hs.drewN 1
     refine SG_stage [0, 1, 2, 3, 5, 6, 8] [4, 7, 9, 10, 11] [12, 13, 14] (fun _ _ _ => False) (g' := 15) (by kernel_rfl) (by kernel_rfl) (fun _ _ _ _ _ h => h) hs ?_
     refine PL_val rfl (fun w => R_move rfl) ?_
     refine PL_val rfl (fun w => R_move rfl) ?_
     refine PL_val rfl (fun w => R_idxN Try.underlying22 Try.ti25 rfl rfl (by with_reducible first | exact natc_k _ | exact natc_a1 _ | exact natc_0 | exact natc_1 | exact natc_2 | exact natc_s1 _ (by omega) | exact natc_a2 _ | exact natc_add _ _ | exact natc_mul _ _ | exact natc (by omega)) (by omega) rfl) ?_
     refine PL_val rfl (fun w => R_fieldAddr (off := 0) Try.underlying25 rfl rfl Try.ti23 rfl) ?_
     refine PL_val rfl (fun w => R_fieldAddr (off := 1) Try.underlying75 rfl rfl Try.ti40 rfl) ?_
     refine PL_val rfl (fun w => R_fieldAddr (off := 1) Try.underlying40 rfl rfl Try.ti22 rfl) ?_
     refine PL_val rfl (fun w => R_move rfl) ?_
     refine PL_end ?_
     refine HL_val rfl (fun w hs => R_load Try.one23 rfl (by exact cx _ hs 0 _ rfl)) ?_
     refine HL_val rfl (fun w hs => R_load Try.one22 rfl (by exact hs.cell (i := 1) rfl rfl)) ?_
     refine HL_val rfl (fun w hs => R_idxN Try.underlying22 Try.ti25 rfl rfl (by with_reducible first | exact natc_k _ | exact natc_a1 _ | exact natc_0 | exact natc_1 | exact natc_2 | exact natc_s1 _ (by omega) | exact natc_a2 _ | exact natc_add _ _ | exact natc_mul _ _ | exact natc (by omega)) (by omega) (hps.ao (by rw [pcs_len]; omega))) ?_
     refine HL_val rfl (fun w hs => R_fieldAddr (off := 0) Try.underlying25 rfl rfl Try.ti23 rfl) ?_
     refine HL_val rfl (fun w hs => R_load Try.one23 rfl (by exact cy _ hs 0 _ rfl)) ?_
     refine HL_tail ?_
     intro w hs
     refine L_call rfl Try.fun11 rfl (sf_ok u.1 u.1 _) ?_
     rintro _ w ⟨rfl, rfl⟩
     rw [sfB_self]
     refine L_not rfl rfl ?_
     refine L_move rfl rfl ?_
     refine RL_sg ?_
     refine SG_stage [15, 16, 17, 18, 20, 21, 23] [19, 22, 24, 25, 26] [27, 28, 29] (fun _ _ _ => False) (g' := 0) (by kernel_rfl) (by kernel_rfl) (fun _ _ _ _ _ h => h) hs ?_
     first | refine PL_want rfl rfl rfl (fun w => R_move rfl) ?_ | refine PL_skip rfl rfl rfl rfl ?_ | refine PL_skipU rfl rfl rfl ?_
     first | refine PL_want rfl rfl rfl (fun w => R_move rfl) ?_ | refine PL_skip rfl rfl rfl rfl ?_ | refine PL_skipU rfl rfl rfl ?_
     first | refine PL_want rfl rfl rfl (fun w => R_idxN Try.underlying22 Try.ti25 rfl rfl (by with_reducible first | exact natc_k _ | exact natc_a1 _ | exact natc_0 | exact natc_1 | exact natc_2 | exact natc_s1 _ (by omega) | exact natc_a2 _ | exact natc_add _ _ | exact natc_mul _ _ | exact natc (by omega)) (by omega) rfl) ?_ | refine PL_skip rfl rfl rfl rfl ?_ | refine PL_skipU rfl rfl rfl ?_
     first | refine PL_want rfl rfl rfl (fun w => R_fieldAddr (off := 1) Try.underlying25 rfl rfl Try.ti23 rfl) ?_ | refine PL_skip rfl rfl rfl rfl ?_ | refine PL_skipU rfl rfl rfl ?_
     first | refine PL_want rfl rfl rfl (fun w => R_fieldAddr (off := 1) Try.underlying75 rfl rfl Try.ti40 rfl) ?_ | refine PL_skip rfl rfl rfl rfl ?_ | refine PL_skipU rfl rfl rfl ?_
     first | refine PL_want rfl rfl rfl (fun w => R_fieldAddr (off := 1) Try.underlying40 rfl rfl Try.ti22 rfl) ?_ | refine PL_skip rfl rfl rfl rfl ?_ | refine PL_skipU rfl rfl rfl ?_
     first | refine PL_want rfl rfl rfl (fun w => R_move rfl) ?_ | refine PL_skip rfl rfl rfl rfl ?_ | refine PL_skipU rfl rfl rfl ?_
     refine PL_end ?_
     first | (refine HL_want rfl rfl ?_; refine HL_val rfl (fun w hs => R_load Try.one23 rfl (by exact cx _ hs 1 _ rfl)) ?_) | refine HL_skip rfl rfl rfl rfl ?_ | refine HL_skipU rfl rfl rfl ?_
     first | (refine HL_want rfl rfl ?_; refine HL_val rfl (fun w hs => R_load Try.one22 rfl (by exact hs.cell (i := 1) rfl rfl)) ?_) | refine HL_skip rfl rfl rfl rfl ?_ | refine HL_skipU rfl rfl rfl ?_
     first | (refine HL_want rfl rfl ?_; refine HL_val rfl (fun w hs => R_idxN Try.underlying22 Try.ti25 rfl rfl (by with_reducible first | exact natc_k _ | exact natc_a1 _ | exact natc_0 | exact natc_1 | exact natc_2 | exact natc_s1 _ (by omega) | exact natc_a2 _ | exact natc_add _ _ | exact natc_mul _ _ | exact natc (by omega)) (by omega) (hps.ao (by rw [pcs_len]; omega))) ?_) | refine HL_skip rfl rfl rfl rfl ?_ | refine HL_skipU rfl rfl rfl ?_
     first | (refine HL_want rfl rfl ?_; refine HL_val rfl (fun w hs => R_fieldAddr (off := 1) Try.underlying25 rfl rfl Try.ti23 rfl) ?_) | refine HL_skip rfl rfl rfl rfl ?_ | refine HL_skipU rfl rfl rfl ?_
     first | (refine HL_want rfl rfl ?_; refine HL_val rfl (fun w hs => R_load Try.one23 rfl (by exact cy _ hs 1 _ rfl)) ?_) | refine HL_skip rfl rfl rfl rfl ?_ | refine HL_skipU rfl rfl rfl ?_
     refine HL_tail ?_
     intro w hs
     skip
     refine RL_want rfl rfl ?_
     refine L_call rfl Try.fun11 rfl (sf_ok u.2 u.2 _) ?_
     rintro _ w ⟨rfl, rfl⟩
     rw [sfB_self]
     first | (refine RL_want rfl rfl ?_; refine L_not rfl rfl ?_) | refine RL_skip rfl rfl rfl rfl ?_ | refine RL_skipU rfl rfl rfl ?_
     first | refine L_pick_t rfl rfl rfl ?_ | refine L_pick_f rfl rfl rfl ?_
     refine RL_sg ?_
     refine SG_end (by kernel_rfl) ?_
     refine Nx_then ?_
     refine W_if_false rfl ?_
     refine W_skip' ?_
     refine Nx_then ?_
     refine W_region ?_
     refine L_move rfl rfl ?_
     refine L_move rfl rfl ?_
     refine L_build rfl rfl (Pl.built Try.pl25 rfl) ?_
     refine L_idxN rfl Try.underlying22 Try.ti25 rfl rfl (by with_reducible first | exact natc_k _ | exact natc_a1 _ | exact natc_0 | exact natc_1 | exact natc_2 | exact natc_s1 _ (by omega) | exact natc_a2 _ | exact natc_add _ _ | exact natc_mul _ _ | exact natc (by omega)) (by omega) rfl ?_
     refine L_storeA hs (i := 0) rfl Try.ti25 rfl rfl (by first | rfl | exact add_lit0 _ _ | exact Addr.add_lit .. | (rw [add_add]; exact add_lit0 _ _)) (by simp; omega) (by first | (simp; done) | simp [Value.oneCell']) ?_
     intro w hs
     try dsimp only [List.set_cons_succ, List.set_cons_zero, List.cons_append, List.nil_append] at hs
     refine RL_nil' ?_
     refine Nx_block ?_
     refine Nx_then ?_
     refine W_region ?_
     first | refine L_add rfl rfl rfl (wrp_i64 (by omega)) ?_ | refine L_add rfl rfl rfl rfl ?_
     refine L_move rfl rfl ?_
     refine RL_nil' ?_
     have hs0 : HS w0 _ ((q, Row 25 (cs.take (i * 2) ++ [.float .f64 4607182418800017408, .float .f64 4607182418800017408] ++ cs.drop (i * 2 + 2))) :: (b5, Row 75 o.cells) :: (bk s2 ++ R)) := hs
     refine Nx_loopP (i + 1, cs.take (i * 2) ++ [.float .f64 4607182418800017408, .float .f64 4607182418800017408] ++ cs.drop (i * 2 + 2), _) (is := [0, 1, 5, 7, 8, 9, 10, 11, 56, 57]) (I' := (fun (i : Nat) (cs : List Value) (w : World) => (i ≤ o.ps.length) ∧ (cs.length = CS.length) ∧ (∀ j, i * 2 ≤ j → cs[j]? = CS[j]?) ∧ (HS w0 w ((q, Row 25 cs) :: (b5, Row 75 o.cells) :: (bk s2 ++ R)))) (i + 1) (cs.take (i * 2) ++ [.float .f64 4607182418800017408, .float .f64 4607182418800017408] ++ cs.drop (i * 2 + 2)) (_)) rfl rfl rfl ?_ ?_
     ·
      refine ⟨hlt, ?_, fun j hj => ?_, hs0⟩
      ·
       rw [← hcl]; exact put_len (vs := [.float .f64 4607182418800017408, .float .f64 4607182418800017408]) (by simp; omega)
      ·
       rw [← hcg j (by omega)]; exact put_get (vs := [.float .f64 4607182418800017408, .float .f64 4607182418800017408]) (by simp; omega) (by simp; omega)
     ·
      omega
    ·
     obtain rfl : i = o.ps.length := by omega
     have cz : ∀ w1, HS w0 w1 ((q, Row 25 cs) :: (b5, Row 75 o.cells) :: (bk s2 ++ R)) → w1.cell? ((aD (some ⟨q, 0, none⟩)).add (o.ps.length * 2)) = some (.float .f64 4635118810238550016) := fun w1 h => h.cellA (i := 0) rfl (by rw [hcg _ (Nat.le_refl _), ← hCS, List.append_assoc, List.getElem?_append_right (by rw [pcs_len]; exact Nat.le_refl _), pcs_len, Nat.sub_self]; rfl)
     refine W_seq ?_
     refine W_region ?_
     first | refine L_lss rfl rfl rfl (dtrue (by omega)) ?_ | refine L_lss rfl rfl rfl (dfalse (by omega)) ?_ | refine L_lss rfl rfl rfl rfl ?_
     refine RL_then ?_
     refine W_seq ?_
     refine W_if_false rfl ?_
     refine W_exit' ?_
     refine Ex_then_exit ?_
     refine Ex_loop_exit ?_
     refine Ex_block_hit ?_
     refine Nx_then ?_
     refine W_seq ?_
     refine W_pht [0, 1, 2, 3, 4, 5, 6, 7, 8, 9, 10, 11, 16, 17] [12, 13, 14, 15, 18, 19, 20, 21, 22, 23, 24, 25] [] (fun _ _ _ => False) Try.mixed (by kernel_rfl) (fun _ _ _ _ _ h => h) hs ?_
     refine PL_val rfl (fun w => R_move rfl) ?_
     refine PL_val rfl (fun w => R_move rfl) ?_
     first | refine PL_val rfl (fun w => R_eql rfl rfl (dtrue (by omega))) ?_ | refine PL_val rfl (fun w => R_eql rfl rfl (dfalse (by omega))) ?_ | refine PL_val rfl (fun w => R_eql rfl rfl rfl) ?_
     refine PL_val rfl (fun w => R_move rfl) ?_
     first | refine PL_want rfl rfl rfl (fun w => R_move rfl) ?_ | refine PL_skip rfl rfl rfl rfl ?_ | refine PL_skipU rfl rfl rfl ?_
     first | refine PL_want rfl rfl rfl (fun w => R_move rfl) ?_ | refine PL_skip rfl rfl rfl rfl ?_ | refine PL_skipU rfl rfl rfl ?_
     first | refine PL_want rfl rfl rfl (fun w => R_eql rfl rfl (dtrue (by omega))) ?_ | refine PL_want rfl rfl rfl (fun w => R_eql rfl rfl (dfalse (by omega))) ?_ | refine PL_want rfl rfl rfl (fun w => R_eql rfl rfl rfl) ?_ | refine PL_skip rfl rfl rfl rfl ?_ | refine PL_skipU rfl rfl rfl ?_
     first | refine PL_val rfl (fun w => R_pick_t rfl rfl) ?_ | refine PL_val rfl (fun w => R_pick_f rfl rfl) ?_
     refine PL_val rfl (fun w => R_move rfl) ?_
     first | refine PL_want rfl rfl rfl (fun w => R_move rfl) ?_ | refine PL_skip rfl rfl rfl rfl ?_ | refine PL_skipU rfl rfl rfl ?_
     first | refine PL_want rfl rfl rfl (fun w => R_fieldAddr (off := 1) Try.underlying75 rfl rfl Try.ti40 rfl) ?_ | refine PL_skip rfl rfl rfl rfl ?_ | refine PL_skipU rfl rfl rfl ?_
     first | refine PL_want rfl rfl rfl (fun w => R_fieldAddr (off := 1) Try.underlying40 rfl rfl Try.ti22 rfl) ?_ | refine PL_skip rfl rfl rfl rfl ?_ | refine PL_skipU rfl rfl rfl ?_
     first | refine PL_want rfl rfl rfl (fun w => R_fieldAddr (off := 1) Try.underlying75 rfl rfl Try.ti40 rfl) ?_ | refine PL_skip rfl rfl rfl rfl ?_ | refine PL_skipU rfl rfl rfl ?_
     first | refine PL_want rfl rfl rfl (fun w => R_fieldAddr (off := 1) Try.underlying40 rfl rfl Try.ti22 rfl) ?_ | refine PL_skip rfl rfl rfl rfl ?_ | refine PL_skipU rfl rfl rfl ?_
     refine PL_end ?_
     first | (refine HL_want rfl rfl ?_; refine HL_val rfl (fun w hs => R_load Try.one22 rfl (by exact hs.cell (i := 1) rfl rfl)) ?_) | refine HL_skip rfl rfl rfl rfl ?_ | refine HL_skipU rfl rfl rfl ?_
     first | (refine HL_want rfl rfl ?_; refine HL_val rfl (fun w hs => R_len Try.underlying22 rfl) ?_) | refine HL_skip rfl rfl rfl rfl ?_ | refine HL_skipU rfl rfl rfl ?_
     first | (refine HL_want rfl rfl ?_; (first | refine HL_val rfl (fun w hs => R_add rfl rfl (wrp_i64 (by omega))) ?_ | refine HL_val rfl (fun w hs => R_add rfl rfl rfl) ?_)) | refine HL_skip rfl rfl rfl rfl ?_ | refine HL_skipU rfl rfl rfl ?_
     first | (refine HL_want rfl rfl ?_; refine HL_val rfl (fun w hs => R_slice010 Try.underlying22 Try.ti25 rfl rfl (by with_reducible first | exact natc_k _ | exact natc_a1 _ | exact natc_0 | exact natc_1 | exact natc_2 | exact natc_s1 _ (by omega) | exact natc_a2 _ | exact natc_add _ _ | exact natc_mul _ _ | exact natc (by omega)) (by omega)) ?_) | refine HL_skip rfl rfl rfl rfl ?_ | refine HL_skipU rfl rfl rfl ?_
     first | (refine HL_want rfl rfl ?_; refine HL_val rfl (fun w hs => R_load Try.one22 rfl (by exact hs.cell (i := 1) rfl rfl)) ?_) | refine HL_skip rfl rfl rfl rfl ?_ | refine HL_skipU rfl rfl rfl ?_
     first | (refine HL_want rfl rfl ?_; refine HL_val rfl (fun w hs => R_len Try.underlying22 rfl) ?_) | refine HL_skip rfl rfl rfl rfl ?_ | refine HL_skipU rfl rfl rfl ?_
     first | (refine HL_want rfl rfl ?_; refine HL_val rfl (fun w hs => R_idxN Try.underlying22 Try.ti25 rfl rfl (by with_reducible first | exact natc_k _ | exact natc_a1 _ | exact natc_0 | exact natc_1 | exact natc_2 | exact natc_s1 _ (by omega) | exact natc_a2 _ | exact natc_add _ _ | exact natc_mul _ _ | exact natc (by omega)) (by omega) rfl) ?_) | refine HL_skip rfl rfl rfl rfl ?_ | refine HL_skipU rfl rfl rfl ?_
     first | (refine HL_want rfl rfl ?_; refine HL_val rfl (fun w hs => R_fieldAddr (off := 0) Try.underlying25 rfl rfl Try.ti23 rfl) ?_) | refine HL_skip rfl rfl rfl rfl ?_ | refine HL_skipU rfl rfl rfl ?_
     first | (refine HL_want rfl rfl ?_; refine HL_val rfl (fun w hs => R_load Try.one23 rfl (by exact cz _ hs)) ?_) | refine HL_skip rfl rfl rfl rfl ?_ | refine HL_skipU rfl rfl rfl ?_
     first | (refine HL_want rfl rfl ?_; refine HL_val rfl (fun w hs => R_fcmp rfl rfl (fun _ => by rw [binOp_float_cmp_eql]; rfl)) ?_) | refine HL_skip rfl rfl rfl rfl ?_ | refine HL_skipU rfl rfl rfl ?_
     first | refine HL_val rfl (fun w hs => R_pick_t rfl rfl) ?_ | refine HL_val rfl (fun w hs => R_pick_f rfl rfl) ?_
     refine HL_val rfl (fun w hs => R_assign rfl) ?_
     refine HL_tail ?_
     intro w hs
     refine RL_then ?_
     refine W_ret' ?_
     refine Ex_block_ret ?_
     refine Ex_then_ret ?_
     refine Ex_done1 rfl rfl ?_
     refine ⟨_, rfl, congrArg Value.bool (by kernel_rfl), s2, ?_, D.mono hok2 (by omega)⟩
     exact HS.pop (HS.pop hs hq) hb5
 ·
  by_cases h1 : o.kind = 1
  ·
   have hs1 : HS w0 w (bk s ++ ((b5, Row 75 o.cells) :: R)) := HS.re hs (fun c => by simp only [List.map_append, List.map_cons, List.map_nil, List.sum_append, List.sum_cons, List.sum_nil]; omega)
   clear hs
   have hs := hs1
   clear hs1
   have hoR : Own w0 ((b5, Row 75 o.cells) :: R) := Own.cons hb5 hR
   have hm5 : ∀ A, (b5, Row 75 o.cells) ∈ A ++ ((b5, Row 75 o.cells) :: R) := fun A => List.mem_append_right _ List.mem_cons_self
   refine W_region ?_
   refine L_fieldAddr rfl (off := 0) Try.underlying75 rfl rfl Try.ti3 rfl ?_
   refine L_load rfl Try.one3 rfl (by exact hs.cellM (hm5 _) rfl) ?_
   refine RL_then ?_
   refine W_block ?_
   refine W_seq ?_
   refine W_region ?_
   first | refine L_eql rfl rfl rfl (dtrue (by omega)) ?_ | refine L_eql rfl rfl rfl (dfalse (by omega)) ?_ | refine L_eql rfl rfl rfl rfl ?_
   refine L_assign rfl rfl ?_
   refine RL_then ?_
   refine W_if_false rfl ?_
   refine W_seq ?_
   refine W_region ?_
   first | refine L_eql rfl rfl rfl (dtrue (by omega)) ?_ | refine L_eql rfl rfl rfl (dfalse (by omega)) ?_ | refine L_eql rfl rfl rfl rfl ?_
   refine L_assign rfl rfl ?_
   refine RL_then ?_
   refine W_if_true rfl ?_
   refine W_seq ?_
   refine W_sg Try.mixed ?_
   replace hs := hs.drewN 1
   refine SG_stage [0, 1, 4, 5] [] [] (fun _ _ _ => False) (g' := 6) (by kernel_rfl) (by kernel_rfl) (fun _ _ _ _ _ h => h) hs ?_
   refine PL_val rfl (fun w => R_move rfl) ?_
   refine PL_val rfl (fun w => R_fieldAddr (off := 3) Try.underlying75 rfl rfl Try.ti3 rfl) ?_
   refine PL_val rfl (fun w => R_move rfl) ?_
   refine PL_val rfl (fun w => R_fieldAddr (off := 3) Try.underlying75 rfl rfl Try.ti3 rfl) ?_
   refine PL_end ?_
   refine HL_tail ?_
   intro w hs
   refine RL_sg ?_
   refine SG_join (g' := 2) (l' := #[true, true, true, true, true, true, true, true, false, false]) (fun S => ∀ (e : Int) (s2 : σ) (w : World), (HS w0 w (bk s2 ++ ((b5, Row 75 o.cells) :: R))) ∧ (ok (n + 1) s2) → S [(0, gp), (1, rp), (125, .int .i64 e), (129, .int .i64 e)] w) ?_ ?_
   ·
    intro fin
    refine SG_pick2 (i := 2) (l1 := #[true, true, true, false, true, true, false, false, false, false]) (j := 6) (l2 := #[true, true, false, false, true, true, true, false, false, false]) (by kernel_rfl) (by kernel_rfl) (by kernel_rfl) (by kernel_rfl) ?_ ?_
    ·
     refine L_load rfl Try.one3 rfl (by exact hs.cellM (hm5 _) rfl) ?_
     refine RL_sg ?_
     refine SG_pick2 (i := 3) (l1 := #[true, true, true, true, true, true, false, false, false, false]) (j := 6) (l2 := #[true, true, true, false, true, true, true, false, false, false]) (by kernel_rfl) (by kernel_rfl) (by kernel_rfl) (by kernel_rfl) ?_ ?_
     ·
      refine L_call rfl Try.fun30 rfl (D.drop n s _ ((b5, Row 75 o.cells) :: R) o.num hs hok hn hoR) ?_; rintro _ w ⟨s1, e, rfl, hs1, ho1, hsec⟩; clear hs; have hs := hs1; clear hs1
      refine RL_sg ?_
      refine SG_pick1 (i := 6) (l1 := #[true, true, true, true, true, true, true, false, false, false]) (by kernel_rfl) (by kernel_rfl) (by kernel_rfl) ?_
      refine L_load rfl Try.one3 rfl (by exact hs.cellM (hm5 _) rfl) ?_
      refine RL_sg ?_
      refine SG_pick1 (i := 7) (l1 := #[true, true, true, true, true, true, true, true, false, false]) (by kernel_rfl) (by kernel_rfl) (by kernel_rfl) ?_
      refine L_call rfl Try.fun43 rfl (hsec _ ((b5, Row 75 o.cells) :: R) hs hoR) ?_; rintro _ w ⟨rfl, s2, hs2, hok2⟩
      refine RL_sg ?_
      refine SG_env (fin e s2 w ⟨hs2, hok2⟩) (looks_cons rfl (looks_cons rfl (looks_cons rfl (looks_cons rfl looks_nil))))
     ·
      refine L_load rfl Try.one3 rfl (by exact hs.cellM (hm5 _) rfl) ?_
      refine RL_sg ?_
      refine SG_pick1 (i := 3) (l1 := #[true, true, true, true, true, true, true, false, false, false]) (by kernel_rfl) (by kernel_rfl) (by kernel_rfl) ?_
      refine L_call rfl Try.fun30 rfl (D.drop n s _ ((b5, Row 75 o.cells) :: R) o.num hs hok hn hoR) ?_; rintro _ w ⟨s1, e, rfl, hs1, ho1, hsec⟩; clear hs; have hs := hs1; clear hs1
      refine RL_sg ?_
      refine SG_pick1 (i := 7) (l1 := #[true, true, true, true, true, true, true, true, false, false]) (by kernel_rfl) (by kernel_rfl) (by kernel_rfl) ?_
      refine L_call rfl Try.fun43 rfl (hsec _ ((b5, Row 75 o.cells) :: R) hs hoR) ?_; rintro _ w ⟨rfl, s2, hs2, hok2⟩
      refine RL_sg ?_
      refine SG_env (fin e s2 w ⟨hs2, hok2⟩) (looks_cons rfl (looks_cons rfl (looks_cons rfl (looks_cons rfl looks_nil))))
    ·
     refine L_load rfl Try.one3 rfl (by exact hs.cellM (hm5 _) rfl) ?_
     refine RL_sg ?_
     refine SG_pick1 (i := 2) (l1 := #[true, true, true, false, true, true, true, false, false, false]) (by kernel_rfl) (by kernel_rfl) (by kernel_rfl) ?_
     refine L_load rfl Try.one3 rfl (by exact hs.cellM (hm5 _) rfl) ?_
     refine RL_sg ?_
     refine SG_pick1 (i := 3) (l1 := #[true, true, true, true, true, true, true, false, false, false]) (by kernel_rfl) (by kernel_rfl) (by kernel_rfl) ?_
     refine L_call rfl Try.fun30 rfl (D.drop n s _ ((b5, Row 75 o.cells) :: R) o.num hs hok hn hoR) ?_; rintro _ w ⟨s1, e, rfl, hs1, ho1, hsec⟩; clear hs; have hs := hs1; clear hs1
     refine RL_sg ?_
     refine SG_pick1 (i := 7) (l1 := #[true, true, true, true, true, true, true, true, false, false]) (by kernel_rfl) (by kernel_rfl) (by kernel_rfl) ?_
     refine L_call rfl Try.fun43 rfl (hsec _ ((b5, Row 75 o.cells) :: R) hs hoR) ?_; rintro _ w ⟨rfl, s2, hs2, hok2⟩
     refine RL_sg ?_
     refine SG_env (fin e s2 w ⟨hs2, hok2⟩) (looks_cons rfl (looks_cons rfl (looks_cons rfl (looks_cons rfl looks_nil))))
   ·
    clear hs
    intro e s2 w hI
    show SG _ _ _ _ _ _ [(0, gp), (1, rp), (125, .int .i64 e), (129, .int .i64 e)] w
    obtain ⟨hs, hok2⟩ := hI
    refine SG_pick1 (i := 8) (l1 := #[true, true, true, true, true, true, true, true, true, false]) (by kernel_rfl) (by kernel_rfl) (by kernel_rfl) ?_
    first | refine L_eql rfl rfl rfl (dtrue (by omega)) ?_ | refine L_eql rfl rfl rfl (dfalse (by omega)) ?_ | refine L_eql rfl rfl rfl rfl ?_
    refine RL_sg ?_
    refine SG_pick1 (i := 9) (l1 := #[true, true, true, true, true, true, true, true, true, true]) (by kernel_rfl) (by kernel_rfl) (by kernel_rfl) ?_
    refine L_assign rfl rfl ?_
    refine RL_sg ?_
    refine SG_end (by kernel_rfl) ?_
    refine Nx_then ?_
    refine W_ret' ?_
    refine Ex_block_ret ?_
    refine Ex_then_ret ?_
    refine Ex_done1 rfl rfl ?_
    exact ⟨_, rfl, rfl, s2, HS.pop (p := (b5, Row 75 o.cells)) (HS.re hs (fun c => by simp only [List.map_append, List.map_cons, List.map_nil, List.sum_append, List.sum_cons, List.sum_nil]; omega)) hb5, D.mono hok2 (by omega)⟩
  ·
   by_cases h2 : o.kind = 2
   ·
    skip
    refine W_region ?_
    refine L_fieldAddr rfl (off := 0) Try.underlying75 rfl rfl Try.ti3 rfl ?_
    refine L_load rfl Try.one3 rfl (by first | exact hs.cell (i := 0) rfl rfl) ?_
    refine RL_then ?_
    refine W_block ?_
    refine W_seq ?_
    refine W_region ?_
    first | refine L_eql rfl rfl rfl (dtrue (by omega)) ?_ | refine L_eql rfl rfl rfl (dfalse (by omega)) ?_ | refine L_eql rfl rfl rfl rfl ?_
    refine L_assign rfl rfl ?_
    refine RL_then ?_
    refine W_if_false rfl ?_
    refine W_seq ?_
    refine W_region ?_
    first | refine L_eql rfl rfl rfl (dtrue (by omega)) ?_ | refine L_eql rfl rfl rfl (dfalse (by omega)) ?_ | refine L_eql rfl rfl rfl rfl ?_
    refine L_assign rfl rfl ?_
    refine RL_then ?_
    refine W_if_false rfl ?_
    refine W_seq ?_
    refine W_region ?_
    first | refine L_eql rfl rfl rfl (dtrue (by omega)) ?_ | refine L_eql rfl rfl rfl (dfalse (by omega)) ?_ | refine L_eql rfl rfl rfl rfl ?_
    refine L_assign rfl rfl ?_
    refine RL_then ?_
    refine W_if_true rfl ?_
    refine W_seq ?_
    refine W_region ?_
    refine L_fieldAddr rfl (off := 5) Try.underlying75 rfl rfl Try.ti44 rfl ?_
    refine L_load rfl Try.one44 rfl (by exact hs.cell (i := 0) rfl rfl) ?_
    refine L_appendS (L := (b5, Row 75 o.cells) :: (bk s ++ R)) (M := []) rfl Try.underlying44 Try.ti60 rfl (by decide) (by rw [List.append_nil]; exact hs) Bl.nil rfl rfl (news := tcs o.ts) (by rw [tcs_len]) (hts.old hs hoB) (tcs_one _) (by omega) (by omega) ?_
    rintro v135 w M hs hb
    rw [List.nil_append, Nat.zero_add] at hb
    obtain ⟨at', ct, rfl, _⟩ := hb.slice
    have hs1 : HS w0 w (bk s ++ (M ++ ((b5, Row 75 o.cells) :: R))) := HS.re hs (fun c => by simp only [List.map_append, List.map_cons, List.map_nil, List.sum_append, List.sum_cons, List.sum_nil]; omega)
    clear hs
    have hs := hs1
    clear hs1
    have hoR : Own w0 (M ++ ((b5, Row 75 o.cells) :: R)) := hb.own.app (Own.cons hb5 hR)
    have hm5 : ∀ A, (b5, Row 75 o.cells) ∈ A ++ (M ++ ((b5, Row 75 o.cells) :: R)) := fun A => List.mem_append_right _ (List.mem_append_right _ List.mem_cons_self)
    have hlt : Lies w0 (M ++ ((b5, Row 75 o.cells) :: R)) at' (tcs o.ts) := fun w' L' h ho hp => hb.slm h fun p hpm => hp p (List.mem_append_left _ hpm)
    refine L_assign rfl rfl ?_
    refine RL_then ?_
    refine W_seq ?_
    refine W_region ?_
    refine L_move rfl rfl ?_
    refine L_fieldAddr rfl (off := 4) Try.underlying75 rfl rfl Try.ti23 rfl ?_
    refine L_load rfl Try.one23 rfl (by exact hs.cellM (hm5 _) rfl) ?_
    refine L_move rfl rfl ?_
    refine L_call rfl Try.fun15 rfl (D.watch n s w (M ++ ((b5, Row 75 o.cells) :: R)) o.time at' o.ts.length ct o.ts hs hok hn hoR hlt rfl htl) ?_
    rintro v140 w1 ⟨s1, N, told, hs1, ho1, hbN, htl2, hsec⟩
    obtain ⟨aN, cN, rfl, _⟩ := hbN.slice
    clear hs
    have hs : HS w0 w1 (bk s1 ++ (N ++ (M ++ ((b5, Row 75 o.cells) :: R)))) := HS.re hs1 (fun c => by simp only [List.map_append, List.map_cons, List.map_nil, List.sum_append, List.sum_cons, List.sum_nil]; omega)
    clear hs1
    have hm6 : ∀ A, (b5, Row 75 o.cells) ∈ A ++ (N ++ (M ++ ((b5, Row 75 o.cells) :: R))) := fun A => List.mem_append_right _ (List.mem_append_right _ (List.mem_append_right _ List.mem_cons_self))
    refine L_assign rfl rfl ?_
    refine RL_then ?_
    refine W_seq ?_
    refine W_region ?_
    refine L_move rfl rfl ?_
    refine L_move rfl rfl ?_
    refine L_fieldAddr rfl (off := 4) Try.underlying75 rfl rfl Try.ti23 rfl ?_
    refine L_load rfl Try.one23 rfl (by exact hs.cellM (hm6 _) rfl) ?_
    refine L_fieldAddr rfl (off := 5) Try.underlying75 rfl rfl Try.ti44 rfl ?_
    refine L_load rfl Try.one44 rfl (by exact hs.cellM (hm6 _) rfl) ?_
    refine L_call rfl Try.fun44 rfl (hsec w1 (N ++ (M ++ ((b5, Row 75 o.cells) :: R))) o.ta o.tc hs (hbN.own.app hoR) (fun w' L' h ho _ => hts.old h ho)) ?_
    rintro v147 w2 ⟨s2, N2, hs2, hbN2, hok2⟩
    obtain ⟨aN2, cN2, rfl, _⟩ := hbN2.slice
    clear hs
    have hs := hs2
    clear hs2
    skip
    refine L_call rfl Try.fun20 rfl (alarms_ok aN aN2 told.length told.length cN cN2 told told w2 (hbN.slm hs (fun p hp => List.mem_append_left _ (List.mem_append_right _ (List.mem_append_left _ hp)))) (hbN2.slm hs (fun p hp => List.mem_append_right _ hp)) rfl rfl (by omega)) ?_
    rintro _ w3 ⟨rfl, hs3⟩
    rw [alsB_self]
    have hs4 := hs.nil hs3
    clear hs hs3
    have hs : HS w0 w3 (N ++ (bk s2 ++ (M ++ ((b5, Row 75 o.cells) :: R)))) := HS.dropR (M := N2) (HS.re hs4 (fun c => by simp only [List.map_append, List.map_cons, List.map_nil, List.sum_append, List.sum_cons, List.sum_nil]; omega)) hbN2.own
    clear hs4
    refine L_assign rfl rfl ?_
    refine RL_then ?_
    refine W_seq ?_
    refine W_seq ?_
    refine W_region ?_
    refine L_move rfl rfl ?_
    refine L_len rfl Try.underlying47 rfl ?_
    refine L_move rfl rfl ?_
    refine RL_then ?_
    refine W_block ?_
    refine W_loop5 (fun (i : Nat) (xs : List Value) (N : Bks) (aN : Option Addr) (w : World) => [(5, .pointer (some ⟨b5, 0, none⟩)), (13, .slice at' o.ts.length ct), (14, .slice aN told.length cN), (15, .bool true), (150, .int .i64 told.length), (151, .int .i64 i)]) (fun (i : Nat) (xs : List Value) (N : Bks) (aN : Option Addr) (w : World) => w) (fun (i : Nat) (xs : List Value) (N : Bks) (aN : Option Addr) (w : World) => (i ≤ told.length) ∧ (Bl w0 51 4 (.slice aN told.length cN) told.length xs N) ∧ (HS w0 w (N ++ (bk s2 ++ (M ++ ((b5, Row 75 o.cells) :: R)))))) (fun (i : Nat) (xs : List Value) (N : Bks) (aN : Option Addr) (w : World) => told.length - i) (0) (acs told) (N) (aN) (w3) (is := [5, 13, 14, 15, 150, 151]) rfl rfl ?_ ?_
    ·
     exact ⟨Nat.zero_le _, hbN, hs⟩
    ·
     clear hs
     intro i xs N aN w hI
     show W _ _ _ _ [(5, .pointer (some ⟨b5, 0, none⟩)), (13, .slice at' o.ts.length ct), (14, .slice aN told.length cN), (15, .bool true), (150, .int .i64 told.length), (151, .int .i64 i)] w
     obtain ⟨hi, hbX, hs⟩ := hI
     by_cases hl : i < told.length
     ·
      refine W_seq ?_
      refine W_region ?_
      first | refine L_lss rfl rfl rfl (dtrue (by omega)) ?_ | refine L_lss rfl rfl rfl (dfalse (by omega)) ?_ | refine L_lss rfl rfl rfl rfl ?_
      refine RL_then ?_
      refine W_seq ?_
      refine W_if_true rfl ?_
      obtain ⟨g, sp, rfl, rfl, hlx, hput⟩ := hbX.put (by omega)
      refine W_skip' ?_
      refine Nx_then ?_
      refine W_seq ?_
      refine W_block ?_
      refine W_seq ?_
      refine W_region ?_
      refine L_move rfl rfl ?_
      refine L_assign rfl rfl ?_
      refine RL_then ?_
      refine W_region ?_
      refine L_move rfl rfl ?_
      refine L_move rfl rfl ?_
      refine L_build rfl rfl (Pl.built Try.pl51 rfl) ?_
      refine L_idxN rfl Try.underlying47 Try.ti51 rfl rfl (by with_reducible first | exact natc_k _ | exact natc_a1 _ | exact natc_0 | exact natc_1 | exact natc_2 | exact natc_s1 _ (by omega) | exact natc_a2 _ | exact natc_add _ _ | exact natc_mul _ _ | exact natc (by omega)) (by omega) rfl ?_
      refine L_storeA hs (i := 0) rfl Try.ti51 rfl rfl (by first | rfl | exact add_lit0 _ _ | exact Addr.add_lit .. | (rw [add_add]; exact add_lit0 _ _)) (by simp; omega) (by first | (simp; done) | simp [Value.oneCell']) ?_
      intro w hs
      try dsimp only [List.set_cons_succ, List.set_cons_zero, List.cons_append, List.nil_append] at hs
      refine RL_nil' ?_
      refine Nx_block ?_
      refine Nx_then ?_
      refine W_region ?_
      first | refine L_add rfl rfl rfl (wrp_i64 (by omega)) ?_ | refine L_add rfl rfl rfl rfl ?_
      refine L_move rfl rfl ?_
      refine RL_nil' ?_
      have hs0 : HS w0 _ ((g, Row 51 ((xs ++ sp).take (i * 4) ++ (Al.mk 7 0 0 0).cells ++ (xs ++ sp).drop (i * 4 + (Al.mk 7 0 0 0).cells.length))) :: (bk s2 ++ (M ++ ((b5, Row 75 o.cells) :: R)))) := hs
      have hle : i * 4 + (Al.mk 7 0 0 0).cells.length ≤ xs.length := by show i * 4 + 4 ≤ _; omega
      have hpl' := put_len hle
      rw [put_app hle] at hs0
      obtain ⟨xs', hxe⟩ : ∃ xs', xs.take (i * 4) ++ (Al.mk 7 0 0 0).cells ++ xs.drop (i * 4 + (Al.mk 7 0 0 0).cells.length) = xs' := ⟨_, rfl⟩
      rw [hxe] at hs0 hpl'
      refine Nx_loopP (i + 1, xs', [(g, Row 51 (xs' ++ sp))], some ⟨g, 0, none⟩, _) (is := [5, 13, 14, 15, 150, 151]) (I' := (fun (i : Nat) (xs : List Value) (N : Bks) (aN : Option Addr) (w : World) => (i ≤ told.length) ∧ (Bl w0 51 4 (.slice aN told.length cN) told.length xs N) ∧ (HS w0 w (N ++ (bk s2 ++ (M ++ ((b5, Row 75 o.cells) :: R)))))) (i + 1) (xs') ([(g, Row 51 (xs' ++ sp))]) (some ⟨g, 0, none⟩) (_)) rfl rfl rfl ?_ ?_
      ·
       exact ⟨by omega, hput _ hpl', hs0⟩
      ·
       omega
     ·
      obtain rfl : i = told.length := by omega
      have hs0 : HS w0 w (M ++ ((b5, Row 75 o.cells) :: (bk s2 ++ R))) := HS.re (HS.dropL hs hbX.own) (fun c => by simp only [List.map_append, List.map_cons, List.map_nil, List.sum_append, List.sum_cons, List.sum_nil]; omega)
      clear hs
      have hs := hs0
      clear hs0
      refine W_seq ?_
      refine W_region ?_
      first | refine L_lss rfl rfl rfl (dtrue (by omega)) ?_ | refine L_lss rfl rfl rfl (dfalse (by omega)) ?_ | refine L_lss rfl rfl rfl rfl ?_
      refine RL_then ?_
      refine W_seq ?_
      refine W_if_false rfl ?_
      refine W_exit' ?_
      refine Ex_then_exit ?_
      refine Ex_loop_exit ?_
      refine Ex_block_hit ?_
      refine Nx_then ?_
      refine W_seq ?_
      refine W_seq ?_
      refine W_region ?_
      refine L_move rfl rfl ?_
      refine L_len rfl Try.underlying44 rfl ?_
      refine L_move rfl rfl ?_
      refine RL_then ?_
      refine W_block ?_
      refine W_loop5 (fun (i : Nat) (xs : List Value) (M : Bks) (at' : Option Addr) (w : World) => [(5, .pointer (some ⟨b5, 0, none⟩)), (13, .slice at' o.ts.length ct), (15, .bool true), (160, .int .i64 o.ts.length), (161, .int .i64 i)]) (fun (i : Nat) (xs : List Value) (M : Bks) (at' : Option Addr) (w : World) => w) (fun (i : Nat) (xs : List Value) (M : Bks) (at' : Option Addr) (w : World) => (i ≤ o.ts.length) ∧ (Bl w0 60 15 (.slice at' o.ts.length ct) o.ts.length xs M) ∧ (∀ j, i * 15 ≤ j → xs[j]? = (tcs o.ts)[j]?) ∧ (HS w0 w (M ++ ((b5, Row 75 o.cells) :: (bk s2 ++ R))))) (fun (i : Nat) (xs : List Value) (M : Bks) (at' : Option Addr) (w : World) => o.ts.length - i) (0) (tcs o.ts) (M) (at') (w) (is := [5, 13, 15, 160, 161]) rfl rfl ?_ ?_
      ·
       exact ⟨Nat.zero_le _, hb, fun _ _ => rfl, hs⟩
      ·
       clear hs
       intro i xs M at' w hI
       show W _ _ _ _ [(5, .pointer (some ⟨b5, 0, none⟩)), (13, .slice at' o.ts.length ct), (15, .bool true), (160, .int .i64 o.ts.length), (161, .int .i64 i)] w
       obtain ⟨hi, hbY, hxg, hs⟩ := hI
       by_cases hl : i < o.ts.length
       ·
        obtain ⟨g, sp, rfl, rfl, hlx, hput⟩ := hbY.put (by omega)
        have hoL : Own w0 ((g, Row 60 (xs ++ sp)) :: (b5, Row 75 o.cells) :: (bk s2 ++ R)) := fun p hp => by
         rcases List.mem_cons.1 hp with rfl | hp
         ·
          exact hbY.own.head
         rcases List.mem_cons.1 hp with rfl | hp
         ·
          exact hb5
         exact ((D.own hok2).app hR) p hp
        obtain ⟨u, hud⟩ : ∃ u, u = o.ts.getD i tk0 := ⟨_, rfl⟩
        have cx : ∀ w1, HS w0 w1 ((g, Row 60 (xs ++ sp)) :: (b5, Row 75 o.cells) :: (bk s2 ++ R)) → CellsAt w1 ((aD (some ⟨g, 0, none⟩)).add (i * 15)) u.cells := fun w1 h => cellsAt_row (T := 60) (xs := xs ++ sp) _ (h.get (i := 0) rfl) fun z v hv => by
         have h1 : (tcs o.ts)[i * 15 + z]? = some v := tcs_get hl (by rw [← hud]; exact hv)
         rw [← hxg _ (by omega)] at h1
         rw [List.getElem?_append_left (List.getElem?_eq_some_iff.1 h1).1]
         exact h1
        have cy : ∀ w1, HS w0 w1 ((g, Row 60 (xs ++ sp)) :: (b5, Row 75 o.cells) :: (bk s2 ++ R)) → CellsAt w1 ((aD o.ta).add (i * 15)) u.cells := fun w1 h => by rw [hud]; exact tk_at (hts.old h hoL) (by omega)
        refine W_seq ?_
        refine W_region ?_
        first | refine L_lss rfl rfl rfl (dtrue (by omega)) ?_ | refine L_lss rfl rfl rfl (dfalse (by omega)) ?_ | refine L_lss rfl rfl rfl rfl ?_
        refine RL_then ?_
        refine W_seq ?_
        refine W_if_true rfl ?_
        refine W_skip' ?_
        refine Nx_then ?_
        refine W_seq ?_
        refine W_block ?_
        refine W_seq ?_
        refine W_region ?_
        refine L_move rfl rfl ?_
        refine L_assign rfl rfl ?_
        refine RL_then ?_
        refine W_seq ?_
        refine W_pht [0, 1, 2, 3, 4, 5, 7, 9] [6, 8, 10, 11, 12, 13, 14, 15, 16, 17, 18, 19, 20, 21, 22, 23, 24, 25, 26, 27, 28, 29] [] (fun _ _ _ => False) Try.mixed (by kernel_rfl) (fun _ _ _ _ _ h => h) hs ?_
        refine PL_val rfl (fun w => R_move rfl) ?_
        refine PL_val rfl (fun w => R_move rfl) ?_
        first | refine PL_want rfl rfl rfl (fun w => R_move rfl) ?_ | refine PL_skip rfl rfl rfl rfl ?_ | refine PL_skipU rfl rfl rfl ?_
        first | refine PL_want rfl rfl rfl (fun w => R_move rfl) ?_ | refine PL_skip rfl rfl rfl rfl ?_ | refine PL_skipU rfl rfl rfl ?_
        first | refine PL_want rfl rfl rfl (fun w => R_idxN Try.underlying44 Try.ti60 rfl rfl (by with_reducible first | exact natc_k _ | exact natc_a1 _ | exact natc_0 | exact natc_1 | exact natc_2 | exact natc_s1 _ (by omega) | exact natc_a2 _ | exact natc_add _ _ | exact natc_mul _ _ | exact natc (by omega)) (by omega) rfl) ?_ | refine PL_skip rfl rfl rfl rfl ?_ | refine PL_skipU rfl rfl rfl ?_
        first | refine PL_want rfl rfl rfl (fun w => R_fieldAddr (off := 0) Try.underlying60 rfl rfl Try.ti3 rfl) ?_ | refine PL_skip rfl rfl rfl rfl ?_ | refine PL_skipU rfl rfl rfl ?_
        first | refine PL_want rfl rfl rfl (fun w => R_fieldAddr (off := 5) Try.underlying75 rfl rfl Try.ti44 rfl) ?_ | refine PL_skip rfl rfl rfl rfl ?_ | refine PL_skipU rfl rfl rfl ?_
        first | refine PL_want rfl rfl rfl (fun w => R_move rfl) ?_ | refine PL_skip rfl rfl rfl rfl ?_ | refine PL_skipU rfl rfl rfl ?_
        refine PL_end ?_
        first | (refine HL_want rfl rfl ?_; refine HL_val rfl (fun w hs => R_load Try.one3 rfl (by exact cx _ hs 0 _ rfl)) ?_) | refine HL_skip rfl rfl rfl rfl ?_ | refine HL_skipU rfl rfl rfl ?_
        first | (refine HL_want rfl rfl ?_; refine HL_val rfl (fun w hs => R_load Try.one44 rfl (by exact hs.cell (i := 1) rfl rfl)) ?_) | refine HL_skip rfl rfl rfl rfl ?_ | refine HL_skipU rfl rfl rfl ?_
        first | (refine HL_want rfl rfl ?_; refine HL_val rfl (fun w hs => R_idxN Try.underlying44 Try.ti60 rfl rfl (by with_reducible first | exact natc_k _ | exact natc_a1 _ | exact natc_0 | exact natc_1 | exact natc_2 | exact natc_s1 _ (by omega) | exact natc_a2 _ | exact natc_add _ _ | exact natc_mul _ _ | exact natc (by omega)) (by omega) (hts.ao (by rw [tcs_len]; omega))) ?_) | refine HL_skip rfl rfl rfl rfl ?_ | refine HL_skipU rfl rfl rfl ?_
        first | (refine HL_want rfl rfl ?_; refine HL_val rfl (fun w hs => R_fieldAddr (off := 0) Try.underlying60 rfl rfl Try.ti3 rfl) ?_) | refine HL_skip rfl rfl rfl rfl ?_ | refine HL_skipU rfl rfl rfl ?_
        first | (refine HL_want rfl rfl ?_; refine HL_val rfl (fun w hs => R_load Try.one3 rfl (by exact cy _ hs 0 _ rfl)) ?_) | refine HL_skip rfl rfl rfl rfl ?_ | refine HL_skipU rfl rfl rfl ?_
        first | (refine HL_want rfl rfl ?_; (first | refine HL_val rfl (fun w hs => R_eql rfl rfl (dtrue (by omega))) ?_ | refine HL_val rfl (fun w hs => R_eql rfl rfl (dfalse (by omega))) ?_ | refine HL_val rfl (fun w hs => R_eql rfl rfl rfl) ?_)) | refine HL_skip rfl rfl rfl rfl ?_ | refine HL_skipU rfl rfl rfl ?_
        first | refine HL_val rfl (fun w hs => R_pick_t rfl rfl) ?_ | refine HL_val rfl (fun w hs => R_pick_f rfl rfl) ?_
        refine HL_val rfl (fun w hs => R_move rfl) ?_
        first | (refine HL_want rfl rfl ?_; refine HL_val rfl (fun w hs => R_move rfl) ?_) | refine HL_skip rfl rfl rfl rfl ?_ | refine HL_skipU rfl rfl rfl ?_
        first | (refine HL_want rfl rfl ?_; refine HL_val rfl (fun w hs => R_move rfl) ?_) | refine HL_skip rfl rfl rfl rfl ?_ | refine HL_skipU rfl rfl rfl ?_
        first | (refine HL_want rfl rfl ?_; refine HL_val rfl (fun w hs => R_idxN Try.underlying44 Try.ti60 rfl rfl (by with_reducible first | exact natc_k _ | exact natc_a1 _ | exact natc_0 | exact natc_1 | exact natc_2 | exact natc_s1 _ (by omega) | exact natc_a2 _ | exact natc_add _ _ | exact natc_mul _ _ | exact natc (by omega)) (by omega) rfl) ?_) | refine HL_skip rfl rfl rfl rfl ?_ | refine HL_skipU rfl rfl rfl ?_
        first | (refine HL_want rfl rfl ?_; refine HL_val rfl (fun w hs => R_fieldAddr (off := 1) Try.underlying60 rfl rfl Try.ti49 rfl) ?_) | refine HL_skip rfl rfl rfl rfl ?_ | refine HL_skipU rfl rfl rfl ?_
        first | (refine HL_want rfl rfl ?_; refine HL_val rfl (fun w hs => R_load Try.one49 rfl (by exact cx _ hs 1 _ rfl)) ?_) | refine HL_skip rfl rfl rfl rfl ?_ | refine HL_skipU rfl rfl rfl ?_
        first | (refine HL_want rfl rfl ?_; refine HL_val rfl (fun w hs => R_fieldAddr (off := 5) Try.underlying75 rfl rfl Try.ti44 rfl) ?_) | refine HL_skip rfl rfl rfl rfl ?_ | refine HL_skipU rfl rfl rfl ?_
        first | (refine HL_want rfl rfl ?_; refine HL_val rfl (fun w hs => R_load Try.one44 rfl (by exact hs.cell (i := 1) rfl rfl)) ?_) | refine HL_skip rfl rfl rfl rfl ?_ | refine HL_skipU rfl rfl rfl ?_
        first | (refine HL_want rfl rfl ?_; refine HL_val rfl (fun w hs => R_move rfl) ?_) | refine HL_skip rfl rfl rfl rfl ?_ | refine HL_skipU rfl rfl rfl ?_
        first | (refine HL_want rfl rfl ?_; refine HL_val rfl (fun w hs => R_idxN Try.underlying44 Try.ti60 rfl rfl (by with_reducible first | exact natc_k _ | exact natc_a1 _ | exact natc_0 | exact natc_1 | exact natc_2 | exact natc_s1 _ (by omega) | exact natc_a2 _ | exact natc_add _ _ | exact natc_mul _ _ | exact natc (by omega)) (by omega) (hts.ao (by rw [tcs_len]; omega))) ?_) | refine HL_skip rfl rfl rfl rfl ?_ | refine HL_skipU rfl rfl rfl ?_
        first | (refine HL_want rfl rfl ?_; refine HL_val rfl (fun w hs => R_fieldAddr (off := 1) Try.underlying60 rfl rfl Try.ti49 rfl) ?_) | refine HL_skip rfl rfl rfl rfl ?_ | refine HL_skipU rfl rfl rfl ?_
        first | (refine HL_want rfl rfl ?_; refine HL_val rfl (fun w hs => R_load Try.one49 rfl (by exact cy _ hs 1 _ rfl)) ?_) | refine HL_skip rfl rfl rfl rfl ?_ | refine HL_skipU rfl rfl rfl ?_
        first | (refine HL_want rfl rfl ?_; (first | refine HL_val rfl (fun w hs => R_eql rfl rfl (dtrue (by omega))) ?_ | refine HL_val rfl (fun w hs => R_eql rfl rfl (dfalse (by omega))) ?_ | refine HL_val rfl (fun w hs => R_eql rfl rfl rfl) ?_)) | refine HL_skip rfl rfl rfl rfl ?_ | refine HL_skipU rfl rfl rfl ?_
        first | refine HL_val rfl (fun w hs => R_pick_t rfl rfl) ?_ | refine HL_val rfl (fun w hs => R_pick_f rfl rfl) ?_
        refine HL_val rfl (fun w hs => R_assign rfl) ?_
        refine HL_tail ?_
        intro w hs
        refine RL_then ?_
        refine W_region ?_
        refine L_move rfl rfl ?_
        refine L_move rfl rfl ?_
        refine L_build rfl rfl (Pl.built Try.pl60 rfl) ?_
        refine L_idxN rfl Try.underlying44 Try.ti60 rfl rfl (by with_reducible first | exact natc_k _ | exact natc_a1 _ | exact natc_0 | exact natc_1 | exact natc_2 | exact natc_s1 _ (by omega) | exact natc_a2 _ | exact natc_add _ _ | exact natc_mul _ _ | exact natc (by omega)) (by omega) rfl ?_
        refine L_storeA hs (i := 0) rfl Try.ti60 rfl rfl (by first | rfl | exact add_lit0 _ _ | exact Addr.add_lit .. | (rw [add_add]; exact add_lit0 _ _)) (by simp; omega) (by first | (simp; done) | simp [Value.oneCell']) ?_
        intro w hs
        try dsimp only [List.set_cons_succ, List.set_cons_zero, List.cons_append, List.nil_append] at hs
        refine RL_nil' ?_
        refine Nx_block ?_
        refine Nx_then ?_
        refine W_region ?_
        first | refine L_add rfl rfl rfl (wrp_i64 (by omega)) ?_ | refine L_add rfl rfl rfl rfl ?_
        refine L_move rfl rfl ?_
        refine RL_nil' ?_
        have hs0 : HS w0 _ ((g, Row 60 ((xs ++ sp).take (i * 15) ++ tk0.cells ++ (xs ++ sp).drop (i * 15 + tk0.cells.length))) :: (b5, Row 75 o.cells) :: (bk s2 ++ R)) := hs
        have hle : i * 15 + tk0.cells.length ≤ xs.length := by show i * 15 + 15 ≤ _; omega
        have hpl' := put_len hle
        have hpg : ∀ j, i * 15 + 15 ≤ j → _ := fun j hj => put_get (q := j) hle (by show i * 15 + 15 ≤ j; exact hj)
        rw [put_app hle] at hs0
        obtain ⟨xs', hxe⟩ : ∃ xs', xs.take (i * 15) ++ tk0.cells ++ xs.drop (i * 15 + tk0.cells.length) = xs' := ⟨_, rfl⟩
        rw [hxe] at hs0 hpl'
        refine Nx_loopP (i + 1, xs', [(g, Row 60 (xs' ++ sp))], some ⟨g, 0, none⟩, _) (is := [5, 13, 15, 160, 161]) (I' := (fun (i : Nat) (xs : List Value) (M : Bks) (at' : Option Addr) (w : World) => (i ≤ o.ts.length) ∧ (Bl w0 60 15 (.slice at' o.ts.length ct) o.ts.length xs M) ∧ (∀ j, i * 15 ≤ j → xs[j]? = (tcs o.ts)[j]?) ∧ (HS w0 w (M ++ ((b5, Row 75 o.cells) :: (bk s2 ++ R))))) (i + 1) (xs') ([(g, Row 60 (xs' ++ sp))]) (some ⟨g, 0, none⟩) (_)) rfl rfl rfl ?_ ?_
        ·
         refine ⟨by omega, hput _ hpl', fun j hj => ?_, hs0⟩
         rw [← hxe, hpg j (by omega)]
         exact hxg j (by omega)
        ·
         omega
       ·
        obtain rfl : i = o.ts.length := by omega
        refine W_seq ?_
        refine W_region ?_
        first | refine L_lss rfl rfl rfl (dtrue (by omega)) ?_ | refine L_lss rfl rfl rfl (dfalse (by omega)) ?_ | refine L_lss rfl rfl rfl rfl ?_
        refine RL_then ?_
        refine W_seq ?_
        refine W_if_false rfl ?_
        refine W_exit' ?_
        refine Ex_then_exit ?_
        refine Ex_loop_exit ?_
        refine Ex_block_hit ?_
        refine Nx_then ?_
        refine W_seq ?_
        refine W_region ?_
        refine L_move rfl rfl ?_
        refine L_assign rfl rfl ?_
        refine RL_then ?_
        refine W_ret' ?_
        refine Ex_block_ret ?_
        refine Ex_then_ret ?_
        refine Ex_done1 rfl rfl ?_
        exact ⟨_, rfl, rfl, s2, HS.pop (HS.dropL hs hbY.own) hb5, hok2⟩
   ·
    skip
    refine W_region ?_
    refine L_fieldAddr rfl (off := 0) Try.underlying75 rfl rfl Try.ti3 rfl ?_
    refine L_load rfl Try.one3 rfl (by first | exact hs.cell (i := 0) rfl rfl) ?_
    refine RL_then ?_
    refine W_block ?_
    refine W_seq ?_
    refine W_region ?_
    first | refine L_eql rfl rfl rfl (dtrue (by omega)) ?_ | refine L_eql rfl rfl rfl (dfalse (by omega)) ?_ | refine L_eql rfl rfl rfl rfl ?_
    refine L_assign rfl rfl ?_
    refine RL_then ?_
    refine W_if_false rfl ?_
    refine W_seq ?_
    refine W_region ?_
    first | refine L_eql rfl rfl rfl (dtrue (by omega)) ?_ | refine L_eql rfl rfl rfl (dfalse (by omega)) ?_ | refine L_eql rfl rfl rfl rfl ?_
    refine L_assign rfl rfl ?_
    refine RL_then ?_
    refine W_if_false rfl ?_
    refine W_seq ?_
    refine W_region ?_
    first | refine L_eql rfl rfl rfl (dtrue (by omega)) ?_ | refine L_eql rfl rfl rfl (dfalse (by omega)) ?_ | refine L_eql rfl rfl rfl rfl ?_
    refine L_assign rfl rfl ?_
    refine RL_then ?_
    refine W_if_false rfl ?_
    have hs1 : HS w0 w (bk s ++ ((b5, Row 75 o.cells) :: R)) := HS.re hs (fun c => by simp only [List.map_append, List.map_cons, List.map_nil, List.sum_append, List.sum_cons, List.sum_nil]; omega)
    clear hs
    have hs := hs1
    clear hs1
    have hoR : Own w0 ((b5, Row 75 o.cells) :: R) := Own.cons hb5 hR
    have hm5 : ∀ A, (b5, Row 75 o.cells) ∈ A ++ ((b5, Row 75 o.cells) :: R) := fun A => List.mem_append_right _ List.mem_cons_self
    refine W_skip' ?_
    refine Nx_block ?_
    refine Nx_then ?_
    refine W_seq ?_
    refine W_region ?_
    refine L_move rfl rfl ?_
    refine L_fieldAddr rfl (off := 3) Try.underlying75 rfl rfl Try.ti3 rfl ?_
    refine L_load rfl Try.one3 rfl (by exact hs.cellM (hm5 _) rfl) ?_
    refine L_call rfl Try.fun17 rfl (D.inn n s w ((b5, Row 75 o.cells) :: R) o.num hs hok hn) ?_
    rintro v202 w1 ⟨N, ids, hs1, hbN, hil, hsec⟩
    obtain ⟨aN, cN, rfl, _⟩ := hbN.slice
    clear hs
    have hs : HS w0 w1 (bk s ++ (N ++ ((b5, Row 75 o.cells) :: R))) := HS.re hs1 (fun c => by simp only [List.map_append, List.map_cons, List.map_nil, List.sum_append, List.sum_cons, List.sum_nil]; omega)
    clear hs1
    have hm6 : ∀ A, (b5, Row 75 o.cells) ∈ A ++ (N ++ ((b5, Row 75 o.cells) :: R)) := fun A => List.mem_append_right _ (List.mem_append_right _ List.mem_cons_self)
    refine L_assign rfl rfl ?_
    refine RL_then ?_
    refine W_seq ?_
    refine W_region ?_
    refine L_move rfl rfl ?_
    refine L_move rfl rfl ?_
    refine L_fieldAddr rfl (off := 3) Try.underlying75 rfl rfl Try.ti3 rfl ?_
    refine L_load rfl Try.one3 rfl (by exact hs.cellM (hm6 _) rfl) ?_
    refine L_call rfl Try.fun26 rfl (hsec w1 (N ++ ((b5, Row 75 o.cells) :: R)) hs) ?_
    rintro v207 w2 ⟨N2, hs2, hbN2⟩
    obtain ⟨aN2, cN2, rfl, _⟩ := hbN2.slice
    clear hs
    have hs := hs2
    clear hs2
    skip
    refine L_call rfl Try.fun22 rfl (ints_ok aN aN2 ids.length ids.length cN cN2 ids ids w2 (hbN.slm hs (fun p hp => List.mem_append_left _ (List.mem_append_right _ (List.mem_append_left _ hp)))) (hbN2.slm hs (fun p hp => List.mem_append_right _ hp)) rfl rfl (by omega)) ?_
    rintro _ w3 ⟨rfl, hs3⟩
    rw [decide_eq_true (rfl : ids = ids)]
    have hs4 := hs.nil hs3
    clear hs hs3
    have hs : HS w0 w3 (N ++ (bk s ++ ((b5, Row 75 o.cells) :: R))) := HS.dropR (M := N2) (HS.re hs4 (fun c => by simp only [List.map_append, List.map_cons, List.map_nil, List.sum_append, List.sum_cons, List.sum_nil]; omega)) hbN2.own
    clear hs4
    refine L_assign rfl rfl ?_
    refine RL_then ?_
    refine W_seq ?_
    refine W_seq ?_
    refine W_region ?_
    refine L_move rfl rfl ?_
    refine L_len rfl Try.underlying38 rfl ?_
    refine L_move rfl rfl ?_
    refine RL_then ?_
    refine W_block ?_
    refine W_loop5 (fun (i : Nat) (xs : List Value) (N : Bks) (aN : Option Addr) (w : World) => [(18, .slice aN ids.length cN), (19, .bool true), (210, .int .i64 ids.length), (211, .int .i64 i)]) (fun (i : Nat) (xs : List Value) (N : Bks) (aN : Option Addr) (w : World) => w) (fun (i : Nat) (xs : List Value) (N : Bks) (aN : Option Addr) (w : World) => (i ≤ ids.length) ∧ (Bl w0 3 1 (.slice aN ids.length cN) ids.length xs N) ∧ (HS w0 w (N ++ (bk s ++ ((b5, Row 75 o.cells) :: R))))) (fun (i : Nat) (xs : List Value) (N : Bks) (aN : Option Addr) (w : World) => ids.length - i) (0) (il ids) (N) (aN) (w3) (is := [18, 19, 210, 211]) rfl rfl ?_ ?_
    ·
     exact ⟨Nat.zero_le _, hbN, hs⟩
    ·
     clear hs
     intro i xs N aN w hI
     show W _ _ _ _ [(18, .slice aN ids.length cN), (19, .bool true), (210, .int .i64 ids.length), (211, .int .i64 i)] w
     obtain ⟨hi, hbX, hs⟩ := hI
     by_cases hl : i < ids.length
     ·
      refine W_seq ?_
      refine W_region ?_
      first | refine L_lss rfl rfl rfl (dtrue (by omega)) ?_ | refine L_lss rfl rfl rfl (dfalse (by omega)) ?_ | refine L_lss rfl rfl rfl rfl ?_
      refine RL_then ?_
      refine W_seq ?_
      refine W_if_true rfl ?_
      obtain ⟨g, sp, rfl, rfl, hlx, hput⟩ := hbX.put (by omega)
      refine W_skip' ?_
      refine Nx_then ?_
      refine W_seq ?_
      refine W_block ?_
      refine W_seq ?_
      refine W_region ?_
      refine L_move rfl rfl ?_
      refine L_assign rfl rfl ?_
      refine RL_then ?_
      refine W_region ?_
      refine L_move rfl rfl ?_
      refine L_move rfl rfl ?_
      refine L_idx1 rfl Try.underlying38 Try.ti3 rfl rfl (by with_reducible first | exact natc_k _ | exact natc_a1 _ | exact natc_0 | exact natc_1 | exact natc_2 | exact natc_s1 _ (by omega) | exact natc_a2 _ | exact natc_add _ _ | exact natc_mul _ _ | exact natc (by omega)) (by omega) rfl ?_
      refine L_store hs (i := 0) rfl Try.ti3 rfl rfl (by first | rfl | exact add_lit0 _ _ | exact Addr.add_lit .. | (rw [add_add]; exact add_lit0 _ _)) (by simp; omega) rfl ?_
      intro w hs
      try dsimp only [List.set_cons_succ, List.set_cons_zero, List.cons_append, List.nil_append] at hs
      refine RL_nil' ?_
      refine Nx_block ?_
      refine Nx_then ?_
      refine W_region ?_
      first | refine L_add rfl rfl rfl (wrp_i64 (by omega)) ?_ | refine L_add rfl rfl rfl rfl ?_
      refine L_move rfl rfl ?_
      refine RL_nil' ?_
      have hs0 : HS w0 _ ((g, Row 3 ((xs ++ sp).set i (.int .i64 (-7)))) :: (bk s ++ ((b5, Row 75 o.cells) :: R))) := hs
      rw [List.set_append_left _ _ (by omega)] at hs0
      refine Nx_loopP (i + 1, xs.set i (.int .i64 (-7)), [(g, Row 3 (xs.set i (.int .i64 (-7)) ++ sp))], some ⟨g, 0, none⟩, _) (is := [18, 19, 210, 211]) (I' := (fun (i : Nat) (xs : List Value) (N : Bks) (aN : Option Addr) (w : World) => (i ≤ ids.length) ∧ (Bl w0 3 1 (.slice aN ids.length cN) ids.length xs N) ∧ (HS w0 w (N ++ (bk s ++ ((b5, Row 75 o.cells) :: R))))) (i + 1) (xs.set i (.int .i64 (-7))) ([(g, Row 3 (xs.set i (.int .i64 (-7)) ++ sp))]) (some ⟨g, 0, none⟩) (_)) rfl rfl rfl ?_ ?_
      ·
       exact ⟨by omega, hput _ (by simp), hs0⟩
      ·
       omega
     ·
      obtain rfl : i = ids.length := by omega
      refine W_seq ?_
      refine W_region ?_
      first | refine L_lss rfl rfl rfl (dtrue (by omega)) ?_ | refine L_lss rfl rfl rfl (dfalse (by omega)) ?_ | refine L_lss rfl rfl rfl rfl ?_
      refine RL_then ?_
      refine W_seq ?_
      refine W_if_false rfl ?_
      refine W_exit' ?_
      refine Ex_then_exit ?_
      refine Ex_loop_exit ?_
      refine Ex_block_hit ?_
      refine Nx_then ?_
      refine W_seq ?_
      refine W_region ?_
      refine L_move rfl rfl ?_
      refine L_assign rfl rfl ?_
      refine RL_then ?_
      refine W_ret' ?_
      refine Ex_done1 rfl rfl ?_
      exact ⟨_, rfl, rfl, s, HS.pop (p := (b5, Row 75 o.cells)) (HS.re (HS.dropL hs hbX.own) (fun c => by simp only [List.map_append, List.map_cons, List.map_nil, List.sum_append, List.sum_cons, List.sum_nil]; omega)) hb5, D.mono hok (by omega)⟩
end Go.Proofs.Ytoiobncojfeoiaa
