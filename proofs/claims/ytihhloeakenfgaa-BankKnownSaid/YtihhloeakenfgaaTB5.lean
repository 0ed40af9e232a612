/-
  A part of the proof: what functions that the statement reaches do, or a plain law on what they do. Each theorem holds under its own premises alone.
-/
import Derived.Test.YtihhloeakenfgaaTB4
namespace Go.Proofs.Ytihhloeakenfgaa
open Go Go.Lk
theorem SlC.keep {w0 w : World} {L : List (Nat × Obj)} {a : Option Addr} {cs : List Value} (h : SlC w0 a cs) (hs : HS w0 w L) (hn : (aD a).block ∉ L.map (·.1)) : SlC w a cs :=
  ⟨h.1, fun j v hv => hs.oldcell (h.2 j v hv) (by rw [Lk.block_add]; exact hn)⟩
theorem cl_set1 (xs : List (Nat × Nat)) (j a b : Nat) : (cl xs).set j (.complex .f64 a b) = cl (xs.set j (a, b)) := by simp [cl, List.map_set]
theorem czset {xs : List (Nat × Nat)} {i : Nat} (h : i < xs.length) (v : Nat × Nat) (q : Nat) : (xs.set i v).getD q (0, 0) = if q = i then v else xs.getD q (0, 0) := by
  by_cases hq : q = i
  · subst hq; simp [List.getD, h]
  · simp [List.getD, Ne.symm hq, hq]
def upS {α : Type} (S : Nat → α) (j : Nat) (x : α) (q : Nat) : α := if q = j then x else S q
theorem upS_eq {α : Type} {S : Nat → α} {j q : Nat} {x : α} (h : q = j) : upS S j x q = x := if_pos h
theorem upS_ne {α : Type} {S : Nat → α} {j q : Nat} {x : α} (h : q ≠ j) : upS S j x q = S q := if_neg h
/-- what the two products answer -/
def SP (f : FuncId) (args : Array Value) (v : Value) : Prop := match f, args.toList with
  | 17, [.complex .f64 a b, .float .f64 k] => ∃ re im, v = .complex .f64 re im ∧ cn re = fop .mul a k ∧ cn im = fop .mul b k
  | 18, [.complex .f64 a b, .complex .f64 c d] => ∃ re im, v = .complex .f64 re im ∧ cn re = fop .sub (fop .mul a c) (fop .mul b d) ∧ cn im = fop .add (fop .mul a d) (fop .mul b c)
  | _, _ => False
theorem scaleH {w0 w : World} {L : List (Nat × Obj)} (hs : HS w0 w L) (a b k : Nat) : Ret Try.prog 17 [.complex .f64 a b, .float .f64 k] w fun v w' => SP 17 [.complex .f64 a b, .float .f64 k].toArray v ∧ HS w0 w' L :=
  Calls.mono (scale_ok a b k w) fun e w' => by
    rintro ⟨v, rfl, re, im, rfl, hs', h1, h2⟩
    exact ⟨_, rfl, ⟨re, im, rfl, h1, h2⟩, hs.nil hs'⟩
theorem mulH {w0 w : World} {L : List (Nat × Obj)} (hs : HS w0 w L) (a b c d : Nat) : Ret Try.prog 18 [.complex .f64 a b, .complex .f64 c d] w fun v w' => SP 18 [.complex .f64 a b, .complex .f64 c d].toArray v ∧ HS w0 w' L :=
  Calls.mono (mul_ok a b c d w) fun e w' => by
    rintro ⟨v, rfl, re, im, rfl, hs', h1, h2⟩
    exact ⟨_, rfl, ⟨re, im, rfl, h1, h2⟩, hs.nil hs'⟩
structure RStep (b a : List Nat) (x s0 s1 y t0 t1 : Nat × Nat) : Prop where
  yr : cn y.1 = fop .add (fop .mul x.1 (b.getD 0 0)) s0.1
  yi : cn y.2 = fop .add (fop .mul x.2 (b.getD 0 0)) s0.2
  ur : cn t0.1 = fop .add (fop .sub (fop .mul x.1 (b.getD 1 0)) (fop .mul y.1 (a.getD 1 0))) s1.1
  ui : cn t0.2 = fop .add (fop .sub (fop .mul x.2 (b.getD 1 0)) (fop .mul y.2 (a.getD 1 0))) s1.2
  vr : cn t1.1 = fop .sub (fop .mul x.1 (b.getD 2 0)) (fop .mul y.1 (a.getD 2 0))
  vi : cn t1.2 = fop .sub (fop .mul x.2 (b.getD 2 0)) (fop .mul y.2 (a.getD 2 0))
theorem ring_feed (B : Nat) (bs aa : List Nat) (hb : bs.length = 3) (ha : aa.length = 3) (a : Option Addr) (k c : Nat) (zs : List (Nat × Nat)) (s0 s1 : Nat × Nat) (w0 : World) (hB : w0.heap[B]? = some (Row 50 (fl (bs ++ aa) ++ [cv s0, cv s1]))) (hz : SlC w0 a (cl zs)) (hk : zs.length = k) (hn : 0 < k → (aD a).block ≠ B) (hk2 : k ≤ 1000000) :
    Ret Try.prog 8 [.pointer (some ⟨B, 0, none⟩), .slice a k c] w0 fun v w' => ∃ g os, ∃ S : Nat → (Nat × Nat) × (Nat × Nat), v = .slice (some ⟨g, 0, none⟩) k k ∧ HS w0 w' [(B, Row 50 (fl (bs ++ aa) ++ [cv (S k).1, cv (S k).2])), (g, Row 28 (cl os))] ∧ w0.heap.size ≤ g ∧ os.length = k ∧ S 0 = (s0, s1) ∧
      ∀ i, i < k → RStep bs aa (zs.getD i (0, 0)) (S i).1 (S i).2 (os.getD i (0, 0)) (S (i + 1)).1 (S (i + 1)).2 := by
  have hs : HS w0 w0 [(B, Row 50 (fl (bs ++ aa) ++ [cv s0, cv s1]))] := HS.named (by simpa using hB) (by simp)
  obtain ⟨b0, b1, b2, rfl⟩ := three hb
  obtain ⟨a0, a1, a2, rfl⟩ := three ha
  refine calls_of_W Try.func8 rfl rfl rfl ?_
  refine W_seq ?_
  refine W_region ?_
  refine L_assign rfl rfl ?_
  refine RL_then ?_
  refine W_seq ?_
  refine W_seq ?_
  refine W_region ?_
  refine L_move rfl rfl ?_
  refine L_ptrNil rfl Try.underlying30 rfl rfl ?_
  refine RL_then ?_
  refine W_if_false rfl ?_
  refine W_skip' ?_
  refine Nx_then ?_
  refine W_seq ?_
  refine W_region ?_
  refine L_move rfl rfl ?_
  refine L_len rfl Try.underlying27 rfl ?_
  refine L_make1 (c := k) rfl hs Try.underlying27 Try.ti28 rfl rfl rfl rfl (Nat.le_refl _) (by omega) (by omega) rfl ?_
  intro g w hg hng hs
  replace hs : HS w0 w [(B, Row 50 (fl [b0, b1, b2, a0, a1, a2] ++ [cv s0, cv s1])), (g, Row 28 (cl (List.replicate k (0, 0))))] := by simpa [cl] using hs
  refine L_assign rfl rfl ?_
  refine RL_then ?_
  refine W_seq ?_
  refine W_seq ?_
  refine W_region ?_
  refine L_move rfl rfl ?_
  refine L_len rfl Try.underlying27 rfl ?_
  refine L_move rfl rfl ?_
  refine RL_then ?_
  refine W_block ?_
  refine W_loop4 (fun (i : Nat) (os : List (Nat × Nat)) (S : Nat → (Nat × Nat) × (Nat × Nat)) (w : World) => [(0, .pointer (some ⟨B, 0, none⟩)), (5, .slice (some ⟨g, 0, none⟩) k k), (14, .slice a k c), (15, .int .i64 k), (16, .int .i64 i)]) (fun (i : Nat) (os : List (Nat × Nat)) (S : Nat → (Nat × Nat) × (Nat × Nat)) (w : World) => w) (fun (i : Nat) (os : List (Nat × Nat)) (S : Nat → (Nat × Nat) × (Nat × Nat)) (w : World) => (i ≤ k) ∧ (os.length = k) ∧ (S 0 = (s0, s1)) ∧ (∀ q, q < i → RStep [b0, b1, b2] [a0, a1, a2] (zs.getD q (0, 0)) (S q).1 (S q).2 (os.getD q (0, 0)) (S (q + 1)).1 (S (q + 1)).2) ∧ (HS w0 w [(B, Row 50 (fl [b0, b1, b2, a0, a1, a2] ++ [cv (S i).1, cv (S i).2])), (g, Row 28 (cl os))])) (fun (i : Nat) (os : List (Nat × Nat)) (S : Nat → (Nat × Nat) × (Nat × Nat)) (w : World) => k - i) (0) (List.replicate k (0, 0)) (fun _ => (s0, s1)) (w) (is := [0, 5, 14, 15, 16]) rfl rfl ?_ ?_
  · exact ⟨Nat.zero_le _, by simp, rfl, fun _ h => absurd h (Nat.not_lt_zero _), hs⟩
  · clear hs
    intro i os S w hI
    show W _ _ _ _ [(0, .pointer (some ⟨B, 0, none⟩)), (5, .slice (some ⟨g, 0, none⟩) k k), (14, .slice a k c), (15, .int .i64 k), (16, .int .i64 i)] w
    obtain ⟨hi, hol, hS0, hR, hs⟩ := hI
    by_cases hlt : i < k
    · have hgz : (aD a).block ≠ g := by
        have := World.block_lt_of_cell? w0 _ (hz.get (cl_get (show i < zs.length by omega)))
        rw [Lk.block_add] at this
        omega
      have hzw : SlC w a (cl zs) := SlC.keep hz hs (by simp; exact ⟨hn (by omega), hgz⟩)
      refine W_seq ?_
      refine W_region ?_
      first | refine L_lss rfl rfl rfl (dtrue (by omega)) ?_ | refine L_lss rfl rfl rfl (dfalse (by omega)) ?_ | refine L_lss rfl rfl rfl rfl ?_
      refine RL_then ?_
      refine W_seq ?_
      refine W_if_true rfl ?_
      refine W_skip' ?_
      refine Nx_then ?_
      refine W_seq ?_
      refine W_block ?_
      refine W_seq ?_
      refine W_region ?_
      refine L_move rfl rfl ?_
      refine L_idx1 rfl Try.underlying27 Try.ti28 rfl rfl (by with_reducible first | exact natc_k _ | exact natc_a1 _ | exact natc_0 | exact natc_1 | exact natc_2 | exact natc_s1 _ (by omega) | exact natc_a2 _ | exact natc_add _ _ | exact natc_mul _ _ | exact natc (by omega)) (by omega) (hz.ao (by rw [cl_length]; omega)) ?_
      refine L_load rfl Try.one28 rfl (by first | exact hzw.get (cl_get (by omega)) | (rw [Lk.add_add]; exact hs.cellA (i := 0) rfl rfl)) ?_
      refine L_assign rfl rfl ?_
      refine L_assign rfl rfl ?_
      refine RL_then ?_
      refine W_seq ?_
      refine W_pht [0, 1, 2, 3, 4, 7, 8, 9, 10] [5, 6, 11, 12] [13] SP Try.mixed (by kernel_rfl) (fun _ _ _ _ _ h => h) hs ?_
      refine PL_val rfl (fun w => R_move rfl) ?_
      refine PL_val rfl (fun w => R_move rfl) ?_
      refine PL_val rfl (fun w => R_nilCheck rfl) ?_
      refine PL_val rfl (fun w => R_fieldAddr (off := 0) Try.underlying50 rfl rfl Try.ti26 rfl) ?_
      refine PL_val rfl (fun w => R_idxA1 Try.underlying26 Try.ti25 rfl rfl (by with_reducible first | exact natc_k _ | exact natc_a1 _ | exact natc_0 | exact natc_1 | exact natc_2 | exact natc_s1 _ (by omega) | exact natc_a2 _ | exact natc_add _ _ | exact natc_mul _ _ | exact natc (by omega)) (by omega)) ?_
      refine PL_val rfl (fun w => R_move rfl) ?_
      refine PL_val rfl (fun w => R_nilCheck rfl) ?_
      refine PL_val rfl (fun w => R_fieldAddr (off := 6) Try.underlying50 rfl rfl Try.ti45 rfl) ?_
      refine PL_val rfl (fun w => R_idxA1 Try.underlying45 Try.ti28 rfl rfl (by with_reducible first | exact natc_k _ | exact natc_a1 _ | exact natc_0 | exact natc_1 | exact natc_2 | exact natc_s1 _ (by omega) | exact natc_a2 _ | exact natc_add _ _ | exact natc_mul _ _ | exact natc (by omega)) (by omega)) ?_
      refine PL_end ?_
      refine HL_val rfl (fun w hs => R_load Try.one25 rfl (by first | exact hzw.get (cl_get (by omega)) | (rw [Lk.add_add]; exact hs.cellA (i := 0) rfl rfl))) ?_
      refine HL_call rfl Try.fun17 rfl (fun w hs => scaleH hs _ _ _) ?_
      rintro _ ⟨pr, pi, rfl, hpr, hpi⟩
      refine HL_val rfl (fun w hs => R_load Try.one28 rfl (by first | exact hzw.get (cl_get (by omega)) | (rw [Lk.add_add]; exact hs.cellA (i := 0) rfl rfl))) ?_
      refine HL_csum rfl (op := .add) (by simp) rfl rfl ?_
      intro r33 s33 hr33 hi33
      refine HL_tail ?_
      intro w hs
      refine L_assign rfl rfl ?_
      refine RL_then ?_
      refine W_seq ?_
      refine W_pht [0, 1, 2, 3, 4, 5, 8, 9, 10, 11, 12, 16, 17, 18, 19, 22, 23, 24, 25, 26, 29, 30, 31, 32, 33] [6, 7, 13, 14, 15, 20, 21, 27, 28, 34, 35, 36] [37, 38, 39, 40] SP Try.mixed (by kernel_rfl) (fun _ _ _ _ _ h => h) hs ?_
      refine PL_val rfl (fun w => R_move rfl) ?_
      refine PL_val rfl (fun w => R_move rfl) ?_
      refine PL_val rfl (fun w => R_move rfl) ?_
      refine PL_val rfl (fun w => R_nilCheck rfl) ?_
      refine PL_val rfl (fun w => R_fieldAddr (off := 0) Try.underlying50 rfl rfl Try.ti26 rfl) ?_
      refine PL_val rfl (fun w => R_idxA1 Try.underlying26 Try.ti25 rfl rfl (by with_reducible first | exact natc_k _ | exact natc_a1 _ | exact natc_0 | exact natc_1 | exact natc_2 | exact natc_s1 _ (by omega) | exact natc_a2 _ | exact natc_add _ _ | exact natc_mul _ _ | exact natc (by omega)) (by omega)) ?_
      refine PL_val rfl (fun w => R_move rfl) ?_
      refine PL_val rfl (fun w => R_move rfl) ?_
      refine PL_val rfl (fun w => R_nilCheck rfl) ?_
      refine PL_val rfl (fun w => R_fieldAddr (off := 3) Try.underlying50 rfl rfl Try.ti26 rfl) ?_
      refine PL_val rfl (fun w => R_idxA1 Try.underlying26 Try.ti25 rfl rfl (by with_reducible first | exact natc_k _ | exact natc_a1 _ | exact natc_0 | exact natc_1 | exact natc_2 | exact natc_s1 _ (by omega) | exact natc_a2 _ | exact natc_add _ _ | exact natc_mul _ _ | exact natc (by omega)) (by omega)) ?_
      refine PL_val rfl (fun w => R_move rfl) ?_
      refine PL_val rfl (fun w => R_nilCheck rfl) ?_
      refine PL_val rfl (fun w => R_fieldAddr (off := 6) Try.underlying50 rfl rfl Try.ti45 rfl) ?_
      refine PL_val rfl (fun w => R_idxA1 Try.underlying45 Try.ti28 rfl rfl (by with_reducible first | exact natc_k _ | exact natc_a1 _ | exact natc_0 | exact natc_1 | exact natc_2 | exact natc_s1 _ (by omega) | exact natc_a2 _ | exact natc_add _ _ | exact natc_mul _ _ | exact natc (by omega)) (by omega)) ?_
      refine PL_val rfl (fun w => R_move rfl) ?_
      refine PL_val rfl (fun w => R_move rfl) ?_
      refine PL_val rfl (fun w => R_nilCheck rfl) ?_
      refine PL_val rfl (fun w => R_fieldAddr (off := 0) Try.underlying50 rfl rfl Try.ti26 rfl) ?_
      refine PL_val rfl (fun w => R_idxA1 Try.underlying26 Try.ti25 rfl rfl (by with_reducible first | exact natc_k _ | exact natc_a1 _ | exact natc_0 | exact natc_1 | exact natc_2 | exact natc_s1 _ (by omega) | exact natc_a2 _ | exact natc_add _ _ | exact natc_mul _ _ | exact natc (by omega)) (by omega)) ?_
      refine PL_val rfl (fun w => R_move rfl) ?_
      refine PL_val rfl (fun w => R_move rfl) ?_
      refine PL_val rfl (fun w => R_nilCheck rfl) ?_
      refine PL_val rfl (fun w => R_fieldAddr (off := 3) Try.underlying50 rfl rfl Try.ti26 rfl) ?_
      refine PL_val rfl (fun w => R_idxA1 Try.underlying26 Try.ti25 rfl rfl (by with_reducible first | exact natc_k _ | exact natc_a1 _ | exact natc_0 | exact natc_1 | exact natc_2 | exact natc_s1 _ (by omega) | exact natc_a2 _ | exact natc_add _ _ | exact natc_mul _ _ | exact natc (by omega)) (by omega)) ?_
      refine PL_end ?_
      refine HL_val rfl (fun w hs => R_load Try.one25 rfl (by first | exact hzw.get (cl_get (by omega)) | (rw [Lk.add_add]; exact hs.cellA (i := 0) rfl rfl))) ?_
      refine HL_call rfl Try.fun17 rfl (fun w hs => scaleH hs _ _ _) ?_
      rintro _ ⟨ar, ai, rfl, har, hai⟩
      refine HL_val rfl (fun w hs => R_load Try.one25 rfl (by first | exact hzw.get (cl_get (by omega)) | (rw [Lk.add_add]; exact hs.cellA (i := 0) rfl rfl))) ?_
      refine HL_call rfl Try.fun17 rfl (fun w hs => scaleH hs _ _ _) ?_
      rintro _ ⟨br, bi, rfl, hbr, hbi⟩
      refine HL_csum rfl (op := .sub) (by simp) rfl rfl ?_
      intro r49 s49 hr49 hi49
      refine HL_val rfl (fun w hs => R_load Try.one28 rfl (by first | exact hzw.get (cl_get (by omega)) | (rw [Lk.add_add]; exact hs.cellA (i := 0) rfl rfl))) ?_
      refine HL_csum rfl (op := .add) (by simp) rfl rfl ?_
      intro r55 s55 hr55 hi55
      refine HL_val rfl (fun w hs => R_load Try.one25 rfl (by first | exact hzw.get (cl_get (by omega)) | (rw [Lk.add_add]; exact hs.cellA (i := 0) rfl rfl))) ?_
      refine HL_call rfl Try.fun17 rfl (fun w hs => scaleH hs _ _ _) ?_
      rintro _ ⟨cr, ci, rfl, hcr, hci⟩
      refine HL_val rfl (fun w hs => R_load Try.one25 rfl (by first | exact hzw.get (cl_get (by omega)) | (rw [Lk.add_add]; exact hs.cellA (i := 0) rfl rfl))) ?_
      refine HL_call rfl Try.fun17 rfl (fun w hs => scaleH hs _ _ _) ?_
      rintro _ ⟨dr, di, rfl, hdr, hdi⟩
      refine HL_csum rfl (op := .sub) (by simp) rfl rfl ?_
      intro r70 s70 hr70 hi70
      refine HL_tail ?_
      intro w hs
      refine L_build (cells := #[.complex .f64 r55 s55, .complex .f64 r70 s70]) rfl rfl (by kernel_rfl) ?_
      refine L_nilCheck rfl rfl ?_
      refine L_fieldAddr rfl (off := 6) Try.underlying50 rfl rfl Try.ti45 rfl ?_
      refine L_storeA hs (i := 0) rfl Try.ti45 rfl rfl (by first | rfl | exact add_lit0 _ _ | exact Addr.add_lit ..) (by first | omega | (simp; done) | (simp; omega)) (by simp [Value.oneCell']) ?_
      intro w hs
      try dsimp only [List.set_cons_succ, List.set_cons_zero, List.cons_append, List.nil_append] at hs
      refine RL_then ?_
      refine W_region ?_
      replace hs : HS w0 w [(B, Row 50 (fl [b0, b1, b2, a0, a1, a2] ++ [cv (r55, s55), cv (r70, s70)])), (g, Row 28 (cl os))] := hs
      refine L_move rfl rfl ?_
      refine L_move rfl rfl ?_
      refine L_move rfl rfl ?_
      refine L_idx1 rfl Try.underlying27 Try.ti28 rfl rfl (by with_reducible first | exact natc_k _ | exact natc_a1 _ | exact natc_0 | exact natc_1 | exact natc_2 | exact natc_s1 _ (by omega) | exact natc_a2 _ | exact natc_add _ _ | exact natc_mul _ _ | exact natc (by omega)) (by omega) rfl ?_
      refine L_store hs (i := 1) rfl Try.ti28 rfl rfl (by first | rfl | exact add_lit0 _ _ | exact Addr.add_lit ..) (by simp; omega) rfl ?_
      intro w hs
      try dsimp only [List.set_cons_succ, List.set_cons_zero, List.cons_append, List.nil_append] at hs
      refine RL_nil' ?_
      refine Nx_block ?_
      refine Nx_then ?_
      refine W_region ?_
      first | refine L_add rfl rfl rfl (wrp_i64 (by omega)) ?_ | refine L_add rfl rfl rfl rfl ?_
      refine L_move rfl rfl ?_
      refine RL_nil' ?_
      rw [cl_set1] at hs
      have hst : RStep [b0, b1, b2] [a0, a1, a2] (zs.getD i (0, 0)) (S i).1 (S i).2 (r33, s33) (r55, s55) (r70, s70) :=
        ⟨(Fs.cn hr33).trans (fop_congr (hpr.trans (cn_fop ..).symm) rfl), (Fs.cn hi33).trans (fop_congr (hpi.trans (cn_fop ..).symm) rfl),
          (Fs.cn hr55).trans (fop_congr ((Fs.cn hr49).trans ((fop_congr (har.trans (cn_fop ..).symm) (hbr.trans (cn_fop ..).symm)).trans (cn_fop ..).symm)) rfl),
          (Fs.cn hi55).trans (fop_congr ((Fs.cn hi49).trans ((fop_congr (hai.trans (cn_fop ..).symm) (hbi.trans (cn_fop ..).symm)).trans (cn_fop ..).symm)) rfl),
          (Fs.cn hr70).trans (fop_congr (hcr.trans (cn_fop ..).symm) (hdr.trans (cn_fop ..).symm)),
          (Fs.cn hi70).trans (fop_congr (hci.trans (cn_fop ..).symm) (hdi.trans (cn_fop ..).symm))⟩
      refine Nx_loopP (i + 1, os.set i (r33, s33), upS S (i + 1) ((r55, s55), (r70, s70)), _) (is := [0, 5, 14, 15, 16]) (I' := (fun (i : Nat) (os : List (Nat × Nat)) (S : Nat → (Nat × Nat) × (Nat × Nat)) (w : World) => (i ≤ k) ∧ (os.length = k) ∧ (S 0 = (s0, s1)) ∧ (∀ q, q < i → RStep [b0, b1, b2] [a0, a1, a2] (zs.getD q (0, 0)) (S q).1 (S q).2 (os.getD q (0, 0)) (S (q + 1)).1 (S (q + 1)).2) ∧ (HS w0 w [(B, Row 50 (fl [b0, b1, b2, a0, a1, a2] ++ [cv (S i).1, cv (S i).2])), (g, Row 28 (cl os))])) (i + 1) (os.set i (r33, s33)) (upS S (i + 1) ((r55, s55), (r70, s70))) (_)) rfl rfl rfl ?_ ?_
      · refine ⟨by omega, by simp [hol], by rw [upS_ne (by omega)]; exact hS0, fun q hq => ?_, by rw [upS_eq rfl]; exact hs⟩
        by_cases hqi : q = i
        · subst hqi
          rw [upS_ne (by omega), upS_eq rfl, czset (by omega), if_pos rfl]
          exact hst
        · rw [upS_ne (by omega), upS_ne (by omega), czset (by omega), if_neg hqi]
          exact hR q (by omega)
      · omega
    · obtain rfl : k = i := by omega
      refine W_seq ?_
      refine W_region ?_
      first | refine L_lss rfl rfl rfl (dtrue (by omega)) ?_ | refine L_lss rfl rfl rfl (dfalse (by omega)) ?_ | refine L_lss rfl rfl rfl rfl ?_
      refine RL_then ?_
      refine W_seq ?_
      refine W_if_false rfl ?_
      refine W_exit' ?_
      refine Ex_then_exit ?_
      refine Ex_loop_exit ?_
      refine Ex_block_hit ?_
      refine Nx_then ?_
      refine W_seq ?_
      refine W_region ?_
      refine L_move rfl rfl ?_
      refine L_assign rfl rfl ?_
      refine RL_then ?_
      refine W_ret' ?_
      refine Ex_done1 rfl rfl ?_
      exact ⟨_, rfl, g, os, S, rfl, hs, hg, hol, hS0, hR⟩
end Go.Proofs.Ytihhloeakenfgaa
