/-
  A part of the proof: what functions that the statement reaches do, or a plain law on what they do. Each theorem holds under its own premises alone.
-/
import Derived.Test.YtihhloeakenfgaaTD10
namespace Go.Proofs.Ytihhloeakenfgaa
open Go Go.Lk
def F1 : Nat := 4607182418800017408
theorem fin_getD {α : Type} {x d : α} : ([x] : List α).getD 0 d = x := rfl
set_option maxHeartbeats 2000000 in
theorem wakes9_ok (w0 : World) : Ret Try.prog 13 [] w0 fun v w' => v = .bool true ∧ HS w0 w' [] := by
  refine Ret.start fun w hs => ?_
  refine calls_of_W Try.func13 rfl rfl rfl ?_
  refine W_seq ?_
  refine W_region ?_
  refine L_assign rfl rfl ?_
  refine RL_then ?_
  refine W_seq ?_
  refine W_region ?_
  refine L_buildSlice1 rfl hs Try.underlying27 Try.ti28 rfl (by decide) rfl rfl ?_
  intro b9 w hb9 hnb9 hs
  simp only [List.map_cons, List.map_nil] at hs
  try dsimp only [List.set_cons_succ, List.set_cons_zero, List.cons_append, List.nil_append] at hs
  refine L_buildSlice1 rfl hs Try.underlying27 Try.ti28 rfl (by decide) rfl rfl ?_
  intro b10 w hb10 hnb10 hs
  simp only [List.map_cons, List.map_nil] at hs
  try dsimp only [List.set_cons_succ, List.set_cons_zero, List.cons_append, List.nil_append] at hs
  refine L_buildSlice1 rfl hs Try.underlying39 Try.ti27 rfl (by decide) rfl rfl ?_
  intro b11 w hb11 hnb11 hs
  simp only [List.map_cons, List.map_nil] at hs
  try dsimp only [List.set_cons_succ, List.set_cons_zero, List.cons_append, List.nil_append] at hs
  refine L_assign rfl rfl ?_
  refine RL_then ?_
  refine W_seq ?_
  refine W_region ?_
  refine L_move rfl rfl ?_
  refine L_buildSlice1 rfl hs Try.underlying27 Try.ti28 rfl (by decide) rfl rfl ?_
  intro b14 w hb14 hnb14 hs
  simp only [List.map_cons, List.map_nil] at hs
  try dsimp only [List.set_cons_succ, List.set_cons_zero, List.cons_append, List.nil_append] at hs
  -- the table and the pulse
  replace hs : HS w0 w [(b9, Row 28 (cl [(4607182418800017408, 0), (4611686018427387904, 0), (4613937818241073152, 0)])), (b10, Row 28 (cl [(0, 0), (4607182418800017408, 0), (0, 0)])), (b11, Row 27 [.slice (some ⟨b9, 0, none⟩) 3 3, .slice (some ⟨b10, 0, none⟩) 3 3]), (b14, Row 28 (cl [(4607182418800017408, 0), (4607182418800017408, 0)]))] := hs
  have t0 : SlC w (some ⟨b9, 0, none⟩) (cl [(4607182418800017408, 0), (4611686018427387904, 0), (4613937818241073152, 0)]) := SlC.of_row (sp := []) (hs.get (i := 0) rfl)
  have t1 : SlC w (some ⟨b10, 0, none⟩) (cl [(0, 0), (4607182418800017408, 0), (0, 0)]) := SlC.of_row (sp := []) (hs.get (i := 1) rfl)
  have tt : SlC w (some ⟨b11, 0, none⟩) [.slice (some ⟨b9, 0, none⟩) 3 3, .slice (some ⟨b10, 0, none⟩) 3 3] := SlC.of_row (sp := []) (hs.get (i := 2) rfl)
  have pp : SlC w (some ⟨b14, 0, none⟩) (cl [(4607182418800017408, 0), (4607182418800017408, 0)]) := SlC.of_row (sp := []) (hs.get (i := 3) rfl)
  have hR : RowsC w (some ⟨b11, 0, none⟩) [[(4607182418800017408, 0), (4611686018427387904, 0), (4613937818241073152, 0)], [(0, 0), (4607182418800017408, 0), (0, 0)]] [.slice (some ⟨b9, 0, none⟩) 3 3, .slice (some ⟨b10, 0, none⟩) 3 3] := rowsC2 tt t0 t1 rfl rfl (by decide) (by decide)
  replace hs := hs.forget (Own.cons hb9 (Own.cons hb10 (Own.cons hb11 (Own.cons hb14 Own.nil))))
  clear tt t0 t1
  refine L_call rfl Try.fun11 rfl (compress_ok (some ⟨b11, 0, none⟩) (some ⟨b14, 0, none⟩) 2 2 2 2 3 [[(4607182418800017408, 0), (4611686018427387904, 0), (4613937818241073152, 0)], [(0, 0), (4607182418800017408, 0), (0, 0)]] _ [(4607182418800017408, 0), (4607182418800017408, 0)] w hR rfl rfl pp rfl (by decide) (by decide +kernel) (by decide +kernel)) ?_
  rintro _ wa ⟨Ba, va, Ma, rfl, hsa, hBa, hOa, hval, hva⟩
  obtain ⟨ga0, oa0, ea0, ma0, la0, ra0⟩ := hva 0 (by decide)
  obtain ⟨ga1, oa1, ea1, ma1, la1, ra1⟩ := hva 1 (by decide)
  have A : SlC wa (some ⟨Ba, 0, none⟩) va := SlC.of_row (sp := []) (by rw [List.append_nil]; exact hsa.get (i := 0) rfl)
  have A0 : SlC wa (some ⟨ga0, 0, none⟩) (cl oa0) := SlC.of_row (sp := []) (by rw [List.append_nil]; exact hsa.has _ (List.mem_cons_of_mem _ ma0))
  have A1 : SlC wa (some ⟨ga1, 0, none⟩) (cl oa1) := SlC.of_row (sp := []) (by rw [List.append_nil]; exact hsa.has _ (List.mem_cons_of_mem _ ma1))
  have va0 : oa0.getD 1 (0, 0) = (4617315517961601024, 0) := pair_eq ((ra0 1 (by decide)).1.trans (by decide +kernel)) ((ra0 1 (by decide)).2.trans (by decide +kernel)) (by decide +kernel) (by decide +kernel)
  have va1 : oa1.getD 1 (0, 0) = (4607182418800017408, 0) := pair_eq ((ra1 1 (by decide)).1.trans (by decide +kernel)) ((ra1 1 (by decide)).2.trans (by decide +kernel)) (by decide +kernel) (by decide +kernel)
  have hRa := hR.old hsa (Own.cons hBa hOa)
  have h1 := hs.nil (hsa.forget (Own.cons hBa hOa))
  clear hR pp hsa hva hOa hBa ma0 ma1 ra0 ra1 hs
  have hs := HS.refl wa
  -- parted by speed
  refine L_move rfl rfl ?_
  refine L_extract rfl rfl rfl ?_
  refine L_extract rfl rfl rfl ?_
  refine L_assign rfl rfl ?_
  refine L_assign rfl rfl ?_
  refine RL_then ?_
  refine W_seq ?_
  refine W_region ?_
  refine L_buildSlice1 rfl hs Try.underlying27 Try.ti28 rfl (by decide) rfl rfl ?_
  intro b19 w hb19 hnb19 hs
  simp only [List.map_cons, List.map_nil] at hs
  try dsimp only [List.set_cons_succ, List.set_cons_zero, List.cons_append, List.nil_append] at hs
  refine L_buildSlice1 rfl hs Try.underlying27 Try.ti28 rfl (by decide) rfl rfl ?_
  intro b20 w hb20 hnb20 hs
  simp only [List.map_cons, List.map_nil] at hs
  try dsimp only [List.set_cons_succ, List.set_cons_zero, List.cons_append, List.nil_append] at hs
  refine L_buildSlice1 rfl hs Try.underlying39 Try.ti27 rfl (by decide) rfl rfl ?_
  intro b21 w hb21 hnb21 hs
  simp only [List.map_cons, List.map_nil] at hs
  try dsimp only [List.set_cons_succ, List.set_cons_zero, List.cons_append, List.nil_append] at hs
  refine L_buildSlice1 rfl hs Try.underlying44 Try.ti25 rfl (by decide) rfl rfl ?_
  intro b22 w hb22 hnb22 hs
  simp only [List.map_cons, List.map_nil] at hs
  try dsimp only [List.set_cons_succ, List.set_cons_zero, List.cons_append, List.nil_append] at hs
  replace hs : HS wa w [(b19, Row 28 (cl [(4607182418800017408, 0), (4611686018427387904, 0)])), (b20, Row 28 (cl [(4613937818241073152, 0), (4617315517961601024, 0)])), (b21, Row 27 [.slice (some ⟨b19, 0, none⟩) 2 2, .slice (some ⟨b20, 0, none⟩) 2 2]), (b22, Row 25 (fl [4607182418800017408, 4607182418800017408]))] := hs
  have hOb : Own wa [(b19, Row 28 (cl [(4607182418800017408, 0), (4611686018427387904, 0)])), (b20, Row 28 (cl [(4613937818241073152, 0), (4617315517961601024, 0)])), (b21, Row 27 [.slice (some ⟨b19, 0, none⟩) 2 2, .slice (some ⟨b20, 0, none⟩) 2 2]), (b22, Row 25 (fl [4607182418800017408, 4607182418800017408]))] := Own.cons hb19 (Own.cons hb20 (Own.cons hb21 (Own.cons hb22 Own.nil)))
  have hRb : RowsC w (some ⟨b21, 0, none⟩) [[(4607182418800017408, 0), (4611686018427387904, 0)], [(4613937818241073152, 0), (4617315517961601024, 0)]] [.slice (some ⟨b19, 0, none⟩) 2 2, .slice (some ⟨b20, 0, none⟩) 2 2] := rowsC2 (SlC.of_row (sp := []) (hs.get (i := 2) rfl)) (SlC.of_row (sp := []) (hs.get (i := 0) rfl)) (SlC.of_row (sp := []) (hs.get (i := 1) rfl)) rfl rfl (by decide) (by decide)
  refine L_call rfl Try.fun10 rfl (doppler_ok (some ⟨b21, 0, none⟩) (some ⟨b22, 0, none⟩) 2 2 2 2 [[(4607182418800017408, 0), (4611686018427387904, 0)], [(4613937818241073152, 0), (4617315517961601024, 0)]] _ [4607182418800017408, 4607182418800017408] w hRb rfl rfl (by decide +kernel) (SlC.of_row (sp := []) (hs.get (i := 3) rfl)) rfl) ?_
  rintro _ wb ⟨Ab, Bb, vb, zb, rfl, hsb, hAb, hBb, hvbl, hvb, hzbl, hD⟩
  have B : SlC wb (some ⟨Bb, 0, none⟩) vb := SlC.of_row (sp := []) (by rw [List.append_nil]; exact hsb.get (i := 1) rfl)
  have BZ : SlC wb (some ⟨Ab, 0, none⟩) (cl zb) := SlC.of_row (sp := []) (by rw [List.append_nil]; exact hsb.get (i := 0) rfl)
  obtain ⟨_, d0⟩ := dop2 (hD 0 (by decide)) (a0 := 4607182418800017408) (b0 := 0) (a1 := 4613937818241073152) (b1 := 0) (y0 := 4616189618054758400) (z0 := 0) (y1 := 13835058055282163712) (z1 := 0) (by decide +kernel) (by decide +kernel) (by decide +kernel) (by decide +kernel) (by decide +kernel) (by decide +kernel)
  obtain ⟨d1, _⟩ := dop2 (hD 1 (by decide)) (a0 := 4611686018427387904) (b0 := 0) (a1 := 4617315517961601024) (b1 := 0) (y0 := 4619567317775286272) (z0 := 0) (y1 := 13837309855095848960) (z1 := 0) (by decide +kernel) (by decide +kernel) (by decide +kernel) (by decide +kernel) (by decide +kernel) (by decide +kernel)
  have hNb : Own w [(Ab, Row 28 (cl zb)), (Bb, Row 27 vb)] := Own.cons hAb (Own.cons hBb Own.nil)
  replace A := (A.old hs hOb).old hsb hNb
  replace A0 := (A0.old hs hOb).old hsb hNb
  replace A1 := (A1.old hs hOb).old hsb hNb
  replace hRa := (hRa.old hs hOb).old hsb hNb
  have h2 := (hs.forget hOb).nil (hsb.forget hNb)
  clear hs hsb hNb hOb hRb hD hAb hBb
  have hs := HS.refl wb
  -- across
  refine L_move rfl rfl ?_
  refine L_extract rfl rfl rfl ?_
  refine L_extract rfl rfl rfl ?_
  refine L_assign rfl rfl ?_
  refine L_assign rfl rfl ?_
  refine RL_then ?_
  refine W_seq ?_
  refine W_region ?_
  refine L_move rfl rfl ?_
  refine L_call rfl Try.fun12 rfl (across_ok (some ⟨b11, 0, none⟩) 2 2 3 [[(4607182418800017408, 0), (4611686018427387904, 0), (4613937818241073152, 0)], [(0, 0), (4607182418800017408, 0), (0, 0)]] _ wb hRa rfl rfl (by decide +kernel)) ?_
  rintro _ wc ⟨Ac, Bc, vc, zc, rfl, hsc, hAc, hBc, hvcl, hvc, hzcl, hC⟩
  have hNc : Own wb [(Ac, Row 28 (cl zc)), (Bc, Row 27 vc)] := Own.cons hAc (Own.cons hBc Own.nil)
  have C : SlC wc (some ⟨Bc, 0, none⟩) vc := SlC.of_row (sp := []) (by rw [List.append_nil]; exact hsc.get (i := 1) rfl)
  have CZ : SlC wc (some ⟨Ac, 0, none⟩) (cl zc) := SlC.of_row (sp := []) (by rw [List.append_nil]; exact hsc.get (i := 0) rfl)
  have c0 : zc.getD 2 (0, 0) = (4611686018427387904, 0) := hC 1 0 (by decide) (by decide)
  have c1 : zc.getD 3 (0, 0) = (4607182418800017408, 0) := hC 1 1 (by decide) (by decide)
  replace A := A.old hsc hNc
  replace A0 := A0.old hsc hNc
  replace A1 := A1.old hsc hNc
  replace B := B.old hsc hNc
  replace BZ := BZ.old hsc hNc
  have h3 := hsc.forget hNc
  clear hs hsc hNc hC hAc hBc hRa
  have hs := HS.refl wc
  -- powers
  refine L_move rfl rfl ?_
  refine L_extract rfl rfl rfl ?_
  refine L_extract rfl rfl rfl ?_
  refine L_assign rfl rfl ?_
  refine L_assign rfl rfl ?_
  refine RL_then ?_
  refine W_seq ?_
  refine W_region ?_
  refine L_buildSlice1 rfl hs Try.underlying27 Try.ti28 rfl (by decide) rfl rfl ?_
  intro b31 w hb31 hnb31 hs
  simp only [List.map_cons, List.map_nil] at hs
  try dsimp only [List.set_cons_succ, List.set_cons_zero, List.cons_append, List.nil_append] at hs
  refine L_buildSlice1 rfl hs Try.underlying27 Try.ti28 rfl (by decide) rfl rfl ?_
  intro b32 w hb32 hnb32 hs
  simp only [List.map_cons, List.map_nil] at hs
  try dsimp only [List.set_cons_succ, List.set_cons_zero, List.cons_append, List.nil_append] at hs
  refine L_buildSlice1 rfl hs Try.underlying39 Try.ti27 rfl (by decide) rfl rfl ?_
  intro b33 w hb33 hnb33 hs
  simp only [List.map_cons, List.map_nil] at hs
  try dsimp only [List.set_cons_succ, List.set_cons_zero, List.cons_append, List.nil_append] at hs
  replace hs : HS wc w [(b31, Row 28 (cl [(4613937818241073152, 4616189618054758400)])), (b32, Row 28 (cl [(4607182418800017408, 0), (0, 4607182418800017408)])), (b33, Row 27 [.slice (some ⟨b31, 0, none⟩) 1 1, .slice (some ⟨b32, 0, none⟩) 2 2])] := hs
  have hOp : Own wc [(b31, Row 28 (cl [(4613937818241073152, 4616189618054758400)])), (b32, Row 28 (cl [(4607182418800017408, 0), (0, 4607182418800017408)])), (b33, Row 27 [.slice (some ⟨b31, 0, none⟩) 1 1, .slice (some ⟨b32, 0, none⟩) 2 2])] := Own.cons hb31 (Own.cons hb32 (Own.cons hb33 Own.nil))
  have hRp : RowsC w (some ⟨b33, 0, none⟩) [[(4613937818241073152, 4616189618054758400)], [(4607182418800017408, 0), (0, 4607182418800017408)]] [.slice (some ⟨b31, 0, none⟩) 1 1, .slice (some ⟨b32, 0, none⟩) 2 2] := rowsC2 (SlC.of_row (sp := []) (hs.get (i := 2) rfl)) (SlC.of_row (sp := []) (hs.get (i := 0) rfl)) (SlC.of_row (sp := []) (hs.get (i := 1) rfl)) rfl rfl (by decide) (by decide)
  refine L_call rfl Try.fun25 rfl (powers_of (some ⟨b33, 0, none⟩) 2 2 [[(4613937818241073152, 4616189618054758400)], [(4607182418800017408, 0), (0, 4607182418800017408)]] _ w hRp rfl (by decide) (fun i hi => by match i, hi with | 0, _ => decide | 1, _ => decide)) ?_
  rintro _ wp ⟨Bp, vp, Mp, rfl, hsp, hBp, hOp2, hvpl, hvp⟩
  obtain ⟨gp, pp, ep, mp, lp, rp⟩ := hvp 0 (by decide)
  have P : SlC wp (some ⟨Bp, 0, none⟩) vp := SlC.of_row (sp := []) (by rw [List.append_nil]; exact hsp.get (i := 0) rfl)
  have P0 : SlC wp (some ⟨gp, 0, none⟩) (fl pp) := SlC.of_row (sp := []) (by rw [List.append_nil]; exact hsp.has _ (List.mem_cons_of_mem _ mp))
  have p0 : pp.getD 0 0 = 4627730092099895296 := cn_same ((rp 0 (by decide)).trans (by decide +kernel)) (by decide +kernel)
  have hNp := Own.cons hBp hOp2 (o := Row 44 vp)
  replace A := (A.old hs hOp).old hsp hNp
  replace A0 := (A0.old hs hOp).old hsp hNp
  replace A1 := (A1.old hs hOp).old hsp hNp
  replace B := (B.old hs hOp).old hsp hNp
  replace BZ := (BZ.old hs hOp).old hsp hNp
  replace C := (C.old hs hOp).old hsp hNp
  replace CZ := (CZ.old hs hOp).old hsp hNp
  have h4 := (hs.forget hOp).nil (hsp.forget hNp)
  clear hs hsp hOp hRp hvp hBp
  have hs := HS.refl wp
  have hb0 : vb[0]? = some (.slice (some ⟨Ab, 0, none⟩) 2 2) := by rw [hvb 0 (by decide)]; unfold bval; rw [slA_at (by decide)]
  have hb1 : vb[1]? = some (.slice (some ⟨Ab, 2, none⟩) 2 2) := by rw [hvb 1 (by decide)]; unfold bval; rw [slA_at (by decide)]
  have hc1 : vc[1]? = some (.slice (some ⟨Ac, 2, none⟩) 2 2) := by rw [hvc 1 (by decide)]; unfold bval; rw [slA_at (by decide)]
  have fA0 : wp.cell? ((Addr.mk ga0 0 none).add 1) = some (.complex .f64 4617315517961601024 0) := cell_at (o := 0) A0 (by rw [cl_get (by rw [la0]; decide), va0])
  have fA1 : wp.cell? ((Addr.mk ga1 0 none).add 1) = some (.complex .f64 4607182418800017408 0) := cell_at (o := 0) A1 (by rw [cl_get (by rw [la1]; decide), va1])
  have fB0 : wp.cell? ((Addr.mk Ab 0 none).add 1) = some (.complex .f64 4619567317775286272 0) := cell_at (o := 0) BZ (by rw [cl_get (by rw [hzbl]; decide)]; exact congrArg (fun z : Nat × Nat => some (Value.complex .f64 z.1 z.2)) d1)
  have fB1 : wp.cell? ((Addr.mk Ab 2 none).add 0) = some (.complex .f64 13835058055282163712 0) := cell_at (o := 2) BZ (by rw [cl_get (by rw [hzbl]; decide)]; exact congrArg (fun z : Nat × Nat => some (Value.complex .f64 z.1 z.2)) d0)
  have fC0 : wp.cell? ((Addr.mk Ac 2 none).add 0) = some (.complex .f64 4611686018427387904 0) := cell_at (o := 2) CZ (by rw [cl_get (by rw [hzcl]; decide)]; exact congrArg (fun z : Nat × Nat => some (Value.complex .f64 z.1 z.2)) c0)
  have fC1 : wp.cell? ((Addr.mk Ac 2 none).add 1) = some (.complex .f64 4607182418800017408 0) := cell_at (o := 2) CZ (by rw [cl_get (by rw [hzcl]; decide)]; exact congrArg (fun z : Nat × Nat => some (Value.complex .f64 z.1 z.2)) c1)
  have fP0 : wp.cell? ((Addr.mk gp 0 none).add 0) = some (.float .f64 4627730092099895296) := cell_at (o := 0) P0 (by rw [fl_get (by rw [lp]; decide), p0])
  have gA0 := A.get ea0
  have gA1 := A.get ea1
  have gB0 := B.get hb0
  have gB1 := B.get hb1
  have gC1 := C.get hc1
  have ep' : vp[0]? = some (.slice (some ⟨gp, 0, none⟩) 1 1) := ep
  have gP0 := P.get ep'
  have hf25 : FloatKind.f64.format.order 4627730092099895296 4627730092099895296 = some .eq := by decide +kernel
  refine L_assign rfl rfl ?_
  refine RL_then ?_
  refine W_seq ?_
  refine W_seq ?_
  refine W_region ?_
  refine L_move rfl rfl ?_
  first | refine L_neq rfl rfl rfl (dtrue (by omega)) ?_ | refine L_neq rfl rfl rfl (dfalse (by omega)) ?_ | refine L_neq rfl rfl rfl rfl ?_
  refine L_move rfl rfl ?_
  first | (refine RL_want rfl rfl ?_; refine L_move rfl rfl ?_) | refine RL_skip rfl rfl rfl rfl ?_ | refine RL_skipU rfl rfl rfl ?_
  first | (refine RL_want rfl rfl ?_; (first | refine L_neq rfl rfl rfl (dtrue (by omega)) ?_ | refine L_neq rfl rfl rfl (dfalse (by omega)) ?_ | refine L_neq rfl rfl rfl rfl ?_)) | refine RL_skip rfl rfl rfl rfl ?_ | refine RL_skipU rfl rfl rfl ?_
  first | refine L_pick_t rfl rfl rfl ?_ | refine L_pick_f rfl rfl rfl ?_
  refine L_move rfl rfl ?_
  first | (refine RL_want rfl rfl ?_; refine L_move rfl rfl ?_) | refine RL_skip rfl rfl rfl rfl ?_ | refine RL_skipU rfl rfl rfl ?_
  first | (refine RL_want rfl rfl ?_; (first | refine L_neq rfl rfl rfl (dtrue (by omega)) ?_ | refine L_neq rfl rfl rfl (dfalse (by omega)) ?_ | refine L_neq rfl rfl rfl rfl ?_)) | refine RL_skip rfl rfl rfl rfl ?_ | refine RL_skipU rfl rfl rfl ?_
  first | refine L_pick_t rfl rfl rfl ?_ | refine L_pick_f rfl rfl rfl ?_
  refine L_move rfl rfl ?_
  first | (refine RL_want rfl rfl ?_; refine L_move rfl rfl ?_) | refine RL_skip rfl rfl rfl rfl ?_ | refine RL_skipU rfl rfl rfl ?_
  first | (refine RL_want rfl rfl ?_; refine L_len rfl Try.underlying39 rfl ?_) | refine RL_skip rfl rfl rfl rfl ?_ | refine RL_skipU rfl rfl rfl ?_
  first | (refine RL_want rfl rfl ?_; (first | refine L_neq rfl rfl rfl (dtrue (by omega)) ?_ | refine L_neq rfl rfl rfl (dfalse (by omega)) ?_ | refine L_neq rfl rfl rfl rfl ?_)) | refine RL_skip rfl rfl rfl rfl ?_ | refine RL_skipU rfl rfl rfl ?_
  first | refine L_pick_t rfl rfl rfl ?_ | refine L_pick_f rfl rfl rfl ?_
  refine L_move rfl rfl ?_
  first | (refine RL_want rfl rfl ?_; refine L_move rfl rfl ?_) | refine RL_skip rfl rfl rfl rfl ?_ | refine RL_skipU rfl rfl rfl ?_
  first | (refine RL_want rfl rfl ?_; refine L_len rfl Try.underlying39 rfl ?_) | refine RL_skip rfl rfl rfl rfl ?_ | refine RL_skipU rfl rfl rfl ?_
  first | (refine RL_want rfl rfl ?_; (first | refine L_neq rfl rfl rfl (dtrue (by omega)) ?_ | refine L_neq rfl rfl rfl (dfalse (by omega)) ?_ | refine L_neq rfl rfl rfl rfl ?_)) | refine RL_skip rfl rfl rfl rfl ?_ | refine RL_skipU rfl rfl rfl ?_
  first | refine L_pick_t rfl rfl rfl ?_ | refine L_pick_f rfl rfl rfl ?_
  refine L_move rfl rfl ?_
  first | (refine RL_want rfl rfl ?_; refine L_move rfl rfl ?_) | refine RL_skip rfl rfl rfl rfl ?_ | refine RL_skipU rfl rfl rfl ?_
  first | (refine RL_want rfl rfl ?_; refine L_len rfl Try.underlying39 rfl ?_) | refine RL_skip rfl rfl rfl rfl ?_ | refine RL_skipU rfl rfl rfl ?_
  first | (refine RL_want rfl rfl ?_; (first | refine L_neq rfl rfl rfl (dtrue (by omega)) ?_ | refine L_neq rfl rfl rfl (dfalse (by omega)) ?_ | refine L_neq rfl rfl rfl rfl ?_)) | refine RL_skip rfl rfl rfl rfl ?_ | refine RL_skipU rfl rfl rfl ?_
  first | refine L_pick_t rfl rfl rfl ?_ | refine L_pick_f rfl rfl rfl ?_
  refine L_move rfl rfl ?_
  first | (refine RL_want rfl rfl ?_; refine L_move rfl rfl ?_) | refine RL_skip rfl rfl rfl rfl ?_ | refine RL_skipU rfl rfl rfl ?_
  first | (refine RL_want rfl rfl ?_; refine L_len rfl Try.underlying64 rfl ?_) | refine RL_skip rfl rfl rfl rfl ?_ | refine RL_skipU rfl rfl rfl ?_
  first | (refine RL_want rfl rfl ?_; (first | refine L_neq rfl rfl rfl (dtrue (by omega)) ?_ | refine L_neq rfl rfl rfl (dfalse (by omega)) ?_ | refine L_neq rfl rfl rfl rfl ?_)) | refine RL_skip rfl rfl rfl rfl ?_ | refine RL_skipU rfl rfl rfl ?_
  first | refine L_pick_t rfl rfl rfl ?_ | refine L_pick_f rfl rfl rfl ?_
  refine L_move rfl rfl ?_
  first | (refine RL_want rfl rfl ?_; refine L_move rfl rfl ?_) | refine RL_skip rfl rfl rfl rfl ?_ | refine RL_skipU rfl rfl rfl ?_
  first | (refine RL_want rfl rfl ?_; refine L_idx1 rfl Try.underlying39 Try.ti27 rfl rfl (by with_reducible first | exact natc_k _ | exact natc_a1 _ | exact natc_0 | exact natc_1 | exact natc_2 | exact natc_s1 _ (by omega) | exact natc_a2 _ | exact natc_add _ _ | exact natc_mul _ _ | exact natc (by omega)) (by omega) rfl ?_) | refine RL_skip rfl rfl rfl rfl ?_ | refine RL_skipU rfl rfl rfl ?_
  first | (refine RL_want rfl rfl ?_; refine L_load rfl Try.one27 rfl (by first | exact gA0 | exact gA1 | exact gB0 | exact gB1 | exact gC1 | exact gP0 | exact fA0 | exact fA1 | exact fB0 | exact fB1 | exact fC0 | exact fC1 | exact fP0) ?_) | refine RL_skip rfl rfl rfl rfl ?_ | refine RL_skipU rfl rfl rfl ?_
  first | (refine RL_want rfl rfl ?_; refine L_len rfl Try.underlying27 rfl ?_) | refine RL_skip rfl rfl rfl rfl ?_ | refine RL_skipU rfl rfl rfl ?_
  first | (refine RL_want rfl rfl ?_; (first | refine L_neq rfl rfl rfl (dtrue (by omega)) ?_ | refine L_neq rfl rfl rfl (dfalse (by omega)) ?_ | refine L_neq rfl rfl rfl rfl ?_)) | refine RL_skip rfl rfl rfl rfl ?_ | refine RL_skipU rfl rfl rfl ?_
  first | refine L_pick_t rfl rfl rfl ?_ | refine L_pick_f rfl rfl rfl ?_
  refine L_move rfl rfl ?_
  first | (refine RL_want rfl rfl ?_; refine L_move rfl rfl ?_) | refine RL_skip rfl rfl rfl rfl ?_ | refine RL_skipU rfl rfl rfl ?_
  first | (refine RL_want rfl rfl ?_; refine L_idx1 rfl Try.underlying39 Try.ti27 rfl rfl (by with_reducible first | exact natc_k _ | exact natc_a1 _ | exact natc_0 | exact natc_1 | exact natc_2 | exact natc_s1 _ (by omega) | exact natc_a2 _ | exact natc_add _ _ | exact natc_mul _ _ | exact natc (by omega)) (by omega) rfl ?_) | refine RL_skip rfl rfl rfl rfl ?_ | refine RL_skipU rfl rfl rfl ?_
  first | (refine RL_want rfl rfl ?_; refine L_load rfl Try.one27 rfl (by first | exact gA0 | exact gA1 | exact gB0 | exact gB1 | exact gC1 | exact gP0 | exact fA0 | exact fA1 | exact fB0 | exact fB1 | exact fC0 | exact fC1 | exact fP0) ?_) | refine RL_skip rfl rfl rfl rfl ?_ | refine RL_skipU rfl rfl rfl ?_
  first | (refine RL_want rfl rfl ?_; refine L_len rfl Try.underlying27 rfl ?_) | refine RL_skip rfl rfl rfl rfl ?_ | refine RL_skipU rfl rfl rfl ?_
  first | (refine RL_want rfl rfl ?_; (first | refine L_neq rfl rfl rfl (dtrue (by omega)) ?_ | refine L_neq rfl rfl rfl (dfalse (by omega)) ?_ | refine L_neq rfl rfl rfl rfl ?_)) | refine RL_skip rfl rfl rfl rfl ?_ | refine RL_skipU rfl rfl rfl ?_
  first | refine L_pick_t rfl rfl rfl ?_ | refine L_pick_f rfl rfl rfl ?_
  refine L_move rfl rfl ?_
  first | (refine RL_want rfl rfl ?_; refine L_move rfl rfl ?_) | refine RL_skip rfl rfl rfl rfl ?_ | refine RL_skipU rfl rfl rfl ?_
  first | (refine RL_want rfl rfl ?_; refine L_idx1 rfl Try.underlying39 Try.ti27 rfl rfl (by with_reducible first | exact natc_k _ | exact natc_a1 _ | exact natc_0 | exact natc_1 | exact natc_2 | exact natc_s1 _ (by omega) | exact natc_a2 _ | exact natc_add _ _ | exact natc_mul _ _ | exact natc (by omega)) (by omega) rfl ?_) | refine RL_skip rfl rfl rfl rfl ?_ | refine RL_skipU rfl rfl rfl ?_
  first | (refine RL_want rfl rfl ?_; refine L_load rfl Try.one27 rfl (by first | exact gA0 | exact gA1 | exact gB0 | exact gB1 | exact gC1 | exact gP0 | exact fA0 | exact fA1 | exact fB0 | exact fB1 | exact fC0 | exact fC1 | exact fP0) ?_) | refine RL_skip rfl rfl rfl rfl ?_ | refine RL_skipU rfl rfl rfl ?_
  first | (refine RL_want rfl rfl ?_; refine L_len rfl Try.underlying27 rfl ?_) | refine RL_skip rfl rfl rfl rfl ?_ | refine RL_skipU rfl rfl rfl ?_
  first | (refine RL_want rfl rfl ?_; (first | refine L_neq rfl rfl rfl (dtrue (by omega)) ?_ | refine L_neq rfl rfl rfl (dfalse (by omega)) ?_ | refine L_neq rfl rfl rfl rfl ?_)) | refine RL_skip rfl rfl rfl rfl ?_ | refine RL_skipU rfl rfl rfl ?_
  first | refine L_pick_t rfl rfl rfl ?_ | refine L_pick_f rfl rfl rfl ?_
  refine L_move rfl rfl ?_
  first | (refine RL_want rfl rfl ?_; refine L_move rfl rfl ?_) | refine RL_skip rfl rfl rfl rfl ?_ | refine RL_skipU rfl rfl rfl ?_
  first | (refine RL_want rfl rfl ?_; refine L_idx1 rfl Try.underlying64 Try.ti44 rfl rfl (by with_reducible first | exact natc_k _ | exact natc_a1 _ | exact natc_0 | exact natc_1 | exact natc_2 | exact natc_s1 _ (by omega) | exact natc_a2 _ | exact natc_add _ _ | exact natc_mul _ _ | exact natc (by omega)) (by omega) rfl ?_) | refine RL_skip rfl rfl rfl rfl ?_ | refine RL_skipU rfl rfl rfl ?_
  first | (refine RL_want rfl rfl ?_; refine L_load rfl Try.one44 rfl (by first | exact gA0 | exact gA1 | exact gB0 | exact gB1 | exact gC1 | exact gP0 | exact fA0 | exact fA1 | exact fB0 | exact fB1 | exact fC0 | exact fC1 | exact fP0) ?_) | refine RL_skip rfl rfl rfl rfl ?_ | refine RL_skipU rfl rfl rfl ?_
  first | (refine RL_want rfl rfl ?_; refine L_len rfl Try.underlying44 rfl ?_) | refine RL_skip rfl rfl rfl rfl ?_ | refine RL_skipU rfl rfl rfl ?_
  first | (refine RL_want rfl rfl ?_; (first | refine L_neq rfl rfl rfl (dtrue (by omega)) ?_ | refine L_neq rfl rfl rfl (dfalse (by omega)) ?_ | refine L_neq rfl rfl rfl rfl ?_)) | refine RL_skip rfl rfl rfl rfl ?_ | refine RL_skipU rfl rfl rfl ?_
  first | refine L_pick_t rfl rfl rfl ?_ | refine L_pick_f rfl rfl rfl ?_
  refine RL_then ?_
  refine W_if_false rfl ?_
  refine W_skip' ?_
  refine Nx_then ?_
  refine W_seq ?_
  refine W_region ?_
  refine L_move rfl rfl ?_
  refine L_idx1 rfl Try.underlying39 Try.ti27 rfl rfl (by with_reducible first | exact natc_k _ | exact natc_a1 _ | exact natc_0 | exact natc_1 | exact natc_2 | exact natc_s1 _ (by omega) | exact natc_a2 _ | exact natc_add _ _ | exact natc_mul _ _ | exact natc (by omega)) (by omega) rfl ?_
  refine L_load rfl Try.one27 rfl (by first | exact gA0 | exact gA1 | exact gB0 | exact gB1 | exact gC1 | exact gP0 | exact fA0 | exact fA1 | exact fB0 | exact fB1 | exact fC0 | exact fC1 | exact fP0) ?_
  refine L_idx1 rfl Try.underlying27 Try.ti28 rfl rfl (by with_reducible first | exact natc_k _ | exact natc_a1 _ | exact natc_0 | exact natc_1 | exact natc_2 | exact natc_s1 _ (by omega) | exact natc_a2 _ | exact natc_add _ _ | exact natc_mul _ _ | exact natc (by omega)) (by omega) rfl ?_
  refine L_load rfl Try.one28 rfl (by first | exact gA0 | exact gA1 | exact gB0 | exact gB1 | exact gC1 | exact gP0 | exact fA0 | exact fA1 | exact fB0 | exact fB1 | exact fC0 | exact fC1 | exact fP0) ?_
  refine RL_val rfl (R_ceqlT rfl rfl (by decide +kernel) (by decide +kernel)) ?_
  refine L_move rfl rfl ?_
  first | (refine RL_want rfl rfl ?_; refine L_move rfl rfl ?_) | refine RL_skip rfl rfl rfl rfl ?_ | refine RL_skipU rfl rfl rfl ?_
  first | (refine RL_want rfl rfl ?_; refine L_idx1 rfl Try.underlying39 Try.ti27 rfl rfl (by with_reducible first | exact natc_k _ | exact natc_a1 _ | exact natc_0 | exact natc_1 | exact natc_2 | exact natc_s1 _ (by omega) | exact natc_a2 _ | exact natc_add _ _ | exact natc_mul _ _ | exact natc (by omega)) (by omega) rfl ?_) | refine RL_skip rfl rfl rfl rfl ?_ | refine RL_skipU rfl rfl rfl ?_
  first | (refine RL_want rfl rfl ?_; refine L_load rfl Try.one27 rfl (by first | exact gA0 | exact gA1 | exact gB0 | exact gB1 | exact gC1 | exact gP0 | exact fA0 | exact fA1 | exact fB0 | exact fB1 | exact fC0 | exact fC1 | exact fP0) ?_) | refine RL_skip rfl rfl rfl rfl ?_ | refine RL_skipU rfl rfl rfl ?_
  first | (refine RL_want rfl rfl ?_; refine L_idx1 rfl Try.underlying27 Try.ti28 rfl rfl (by with_reducible first | exact natc_k _ | exact natc_a1 _ | exact natc_0 | exact natc_1 | exact natc_2 | exact natc_s1 _ (by omega) | exact natc_a2 _ | exact natc_add _ _ | exact natc_mul _ _ | exact natc (by omega)) (by omega) rfl ?_) | refine RL_skip rfl rfl rfl rfl ?_ | refine RL_skipU rfl rfl rfl ?_
  first | (refine RL_want rfl rfl ?_; refine L_load rfl Try.one28 rfl (by first | exact gA0 | exact gA1 | exact gB0 | exact gB1 | exact gC1 | exact gP0 | exact fA0 | exact fA1 | exact fB0 | exact fB1 | exact fC0 | exact fC1 | exact fP0) ?_) | refine RL_skip rfl rfl rfl rfl ?_ | refine RL_skipU rfl rfl rfl ?_
  first | (refine RL_want rfl rfl ?_; refine RL_val rfl (R_ceqlT rfl rfl (by decide +kernel) (by decide +kernel)) ?_) | refine RL_skip rfl rfl rfl rfl ?_ | refine RL_skipU rfl rfl rfl ?_
  first | refine L_pick_t rfl rfl rfl ?_ | refine L_pick_f rfl rfl rfl ?_
  refine L_move rfl rfl ?_
  first | (refine RL_want rfl rfl ?_; refine L_move rfl rfl ?_) | refine RL_skip rfl rfl rfl rfl ?_ | refine RL_skipU rfl rfl rfl ?_
  first | (refine RL_want rfl rfl ?_; refine L_idx1 rfl Try.underlying39 Try.ti27 rfl rfl (by with_reducible first | exact natc_k _ | exact natc_a1 _ | exact natc_0 | exact natc_1 | exact natc_2 | exact natc_s1 _ (by omega) | exact natc_a2 _ | exact natc_add _ _ | exact natc_mul _ _ | exact natc (by omega)) (by omega) rfl ?_) | refine RL_skip rfl rfl rfl rfl ?_ | refine RL_skipU rfl rfl rfl ?_
  first | (refine RL_want rfl rfl ?_; refine L_load rfl Try.one27 rfl (by first | exact gA0 | exact gA1 | exact gB0 | exact gB1 | exact gC1 | exact gP0 | exact fA0 | exact fA1 | exact fB0 | exact fB1 | exact fC0 | exact fC1 | exact fP0) ?_) | refine RL_skip rfl rfl rfl rfl ?_ | refine RL_skipU rfl rfl rfl ?_
  first | (refine RL_want rfl rfl ?_; refine L_idx1 rfl Try.underlying27 Try.ti28 rfl rfl (by with_reducible first | exact natc_k _ | exact natc_a1 _ | exact natc_0 | exact natc_1 | exact natc_2 | exact natc_s1 _ (by omega) | exact natc_a2 _ | exact natc_add _ _ | exact natc_mul _ _ | exact natc (by omega)) (by omega) rfl ?_) | refine RL_skip rfl rfl rfl rfl ?_ | refine RL_skipU rfl rfl rfl ?_
  first | (refine RL_want rfl rfl ?_; refine L_load rfl Try.one28 rfl (by first | exact gA0 | exact gA1 | exact gB0 | exact gB1 | exact gC1 | exact gP0 | exact fA0 | exact fA1 | exact fB0 | exact fB1 | exact fC0 | exact fC1 | exact fP0) ?_) | refine RL_skip rfl rfl rfl rfl ?_ | refine RL_skipU rfl rfl rfl ?_
  first | (refine RL_want rfl rfl ?_; refine RL_val rfl (R_ceqlT rfl rfl (by decide +kernel) (by decide +kernel)) ?_) | refine RL_skip rfl rfl rfl rfl ?_ | refine RL_skipU rfl rfl rfl ?_
  first | refine L_pick_t rfl rfl rfl ?_ | refine L_pick_f rfl rfl rfl ?_
  refine L_move rfl rfl ?_
  first | (refine RL_want rfl rfl ?_; refine L_move rfl rfl ?_) | refine RL_skip rfl rfl rfl rfl ?_ | refine RL_skipU rfl rfl rfl ?_
  first | (refine RL_want rfl rfl ?_; refine L_idx1 rfl Try.underlying39 Try.ti27 rfl rfl (by with_reducible first | exact natc_k _ | exact natc_a1 _ | exact natc_0 | exact natc_1 | exact natc_2 | exact natc_s1 _ (by omega) | exact natc_a2 _ | exact natc_add _ _ | exact natc_mul _ _ | exact natc (by omega)) (by omega) rfl ?_) | refine RL_skip rfl rfl rfl rfl ?_ | refine RL_skipU rfl rfl rfl ?_
  first | (refine RL_want rfl rfl ?_; refine L_load rfl Try.one27 rfl (by first | exact gA0 | exact gA1 | exact gB0 | exact gB1 | exact gC1 | exact gP0 | exact fA0 | exact fA1 | exact fB0 | exact fB1 | exact fC0 | exact fC1 | exact fP0) ?_) | refine RL_skip rfl rfl rfl rfl ?_ | refine RL_skipU rfl rfl rfl ?_
  first | (refine RL_want rfl rfl ?_; refine L_idx1 rfl Try.underlying27 Try.ti28 rfl rfl (by with_reducible first | exact natc_k _ | exact natc_a1 _ | exact natc_0 | exact natc_1 | exact natc_2 | exact natc_s1 _ (by omega) | exact natc_a2 _ | exact natc_add _ _ | exact natc_mul _ _ | exact natc (by omega)) (by omega) rfl ?_) | refine RL_skip rfl rfl rfl rfl ?_ | refine RL_skipU rfl rfl rfl ?_
  first | (refine RL_want rfl rfl ?_; refine L_load rfl Try.one28 rfl (by first | exact gA0 | exact gA1 | exact gB0 | exact gB1 | exact gC1 | exact gP0 | exact fA0 | exact fA1 | exact fB0 | exact fB1 | exact fC0 | exact fC1 | exact fP0) ?_) | refine RL_skip rfl rfl rfl rfl ?_ | refine RL_skipU rfl rfl rfl ?_
  first | (refine RL_want rfl rfl ?_; refine RL_val rfl (R_ceqlT rfl rfl (by decide +kernel) (by decide +kernel)) ?_) | refine RL_skip rfl rfl rfl rfl ?_ | refine RL_skipU rfl rfl rfl ?_
  first | refine L_pick_t rfl rfl rfl ?_ | refine L_pick_f rfl rfl rfl ?_
  refine L_move rfl rfl ?_
  first | (refine RL_want rfl rfl ?_; refine L_move rfl rfl ?_) | refine RL_skip rfl rfl rfl rfl ?_ | refine RL_skipU rfl rfl rfl ?_
  first | (refine RL_want rfl rfl ?_; refine L_idx1 rfl Try.underlying39 Try.ti27 rfl rfl (by with_reducible first | exact natc_k _ | exact natc_a1 _ | exact natc_0 | exact natc_1 | exact natc_2 | exact natc_s1 _ (by omega) | exact natc_a2 _ | exact natc_add _ _ | exact natc_mul _ _ | exact natc (by omega)) (by omega) rfl ?_) | refine RL_skip rfl rfl rfl rfl ?_ | refine RL_skipU rfl rfl rfl ?_
  first | (refine RL_want rfl rfl ?_; refine L_load rfl Try.one27 rfl (by first | exact gA0 | exact gA1 | exact gB0 | exact gB1 | exact gC1 | exact gP0 | exact fA0 | exact fA1 | exact fB0 | exact fB1 | exact fC0 | exact fC1 | exact fP0) ?_) | refine RL_skip rfl rfl rfl rfl ?_ | refine RL_skipU rfl rfl rfl ?_
  first | (refine RL_want rfl rfl ?_; refine L_idx1 rfl Try.underlying27 Try.ti28 rfl rfl (by with_reducible first | exact natc_k _ | exact natc_a1 _ | exact natc_0 | exact natc_1 | exact natc_2 | exact natc_s1 _ (by omega) | exact natc_a2 _ | exact natc_add _ _ | exact natc_mul _ _ | exact natc (by omega)) (by omega) rfl ?_) | refine RL_skip rfl rfl rfl rfl ?_ | refine RL_skipU rfl rfl rfl ?_
  first | (refine RL_want rfl rfl ?_; refine L_load rfl Try.one28 rfl (by first | exact gA0 | exact gA1 | exact gB0 | exact gB1 | exact gC1 | exact gP0 | exact fA0 | exact fA1 | exact fB0 | exact fB1 | exact fC0 | exact fC1 | exact fP0) ?_) | refine RL_skip rfl rfl rfl rfl ?_ | refine RL_skipU rfl rfl rfl ?_
  first | (refine RL_want rfl rfl ?_; refine RL_val rfl (R_ceqlT rfl rfl (by decide +kernel) (by decide +kernel)) ?_) | refine RL_skip rfl rfl rfl rfl ?_ | refine RL_skipU rfl rfl rfl ?_
  first | refine L_pick_t rfl rfl rfl ?_ | refine L_pick_f rfl rfl rfl ?_
  refine L_move rfl rfl ?_
  first | (refine RL_want rfl rfl ?_; refine L_move rfl rfl ?_) | refine RL_skip rfl rfl rfl rfl ?_ | refine RL_skipU rfl rfl rfl ?_
  first | (refine RL_want rfl rfl ?_; refine L_idx1 rfl Try.underlying39 Try.ti27 rfl rfl (by with_reducible first | exact natc_k _ | exact natc_a1 _ | exact natc_0 | exact natc_1 | exact natc_2 | exact natc_s1 _ (by omega) | exact natc_a2 _ | exact natc_add _ _ | exact natc_mul _ _ | exact natc (by omega)) (by omega) rfl ?_) | refine RL_skip rfl rfl rfl rfl ?_ | refine RL_skipU rfl rfl rfl ?_
  first | (refine RL_want rfl rfl ?_; refine L_load rfl Try.one27 rfl (by first | exact gA0 | exact gA1 | exact gB0 | exact gB1 | exact gC1 | exact gP0 | exact fA0 | exact fA1 | exact fB0 | exact fB1 | exact fC0 | exact fC1 | exact fP0) ?_) | refine RL_skip rfl rfl rfl rfl ?_ | refine RL_skipU rfl rfl rfl ?_
  first | (refine RL_want rfl rfl ?_; refine L_idx1 rfl Try.underlying27 Try.ti28 rfl rfl (by with_reducible first | exact natc_k _ | exact natc_a1 _ | exact natc_0 | exact natc_1 | exact natc_2 | exact natc_s1 _ (by omega) | exact natc_a2 _ | exact natc_add _ _ | exact natc_mul _ _ | exact natc (by omega)) (by omega) rfl ?_) | refine RL_skip rfl rfl rfl rfl ?_ | refine RL_skipU rfl rfl rfl ?_
  first | (refine RL_want rfl rfl ?_; refine L_load rfl Try.one28 rfl (by first | exact gA0 | exact gA1 | exact gB0 | exact gB1 | exact gC1 | exact gP0 | exact fA0 | exact fA1 | exact fB0 | exact fB1 | exact fC0 | exact fC1 | exact fP0) ?_) | refine RL_skip rfl rfl rfl rfl ?_ | refine RL_skipU rfl rfl rfl ?_
  first | (refine RL_want rfl rfl ?_; refine RL_val rfl (R_ceqlT rfl rfl (by decide +kernel) (by decide +kernel)) ?_) | refine RL_skip rfl rfl rfl rfl ?_ | refine RL_skipU rfl rfl rfl ?_
  first | refine L_pick_t rfl rfl rfl ?_ | refine L_pick_f rfl rfl rfl ?_
  refine L_move rfl rfl ?_
  first | (refine RL_want rfl rfl ?_; refine L_move rfl rfl ?_) | refine RL_skip rfl rfl rfl rfl ?_ | refine RL_skipU rfl rfl rfl ?_
  first | (refine RL_want rfl rfl ?_; refine L_idx1 rfl Try.underlying64 Try.ti44 rfl rfl (by with_reducible first | exact natc_k _ | exact natc_a1 _ | exact natc_0 | exact natc_1 | exact natc_2 | exact natc_s1 _ (by omega) | exact natc_a2 _ | exact natc_add _ _ | exact natc_mul _ _ | exact natc (by omega)) (by omega) rfl ?_) | refine RL_skip rfl rfl rfl rfl ?_ | refine RL_skipU rfl rfl rfl ?_
  first | (refine RL_want rfl rfl ?_; refine L_load rfl Try.one44 rfl (by first | exact gA0 | exact gA1 | exact gB0 | exact gB1 | exact gC1 | exact gP0 | exact fA0 | exact fA1 | exact fB0 | exact fB1 | exact fC0 | exact fC1 | exact fP0) ?_) | refine RL_skip rfl rfl rfl rfl ?_ | refine RL_skipU rfl rfl rfl ?_
  first | (refine RL_want rfl rfl ?_; refine L_idx1 rfl Try.underlying44 Try.ti25 rfl rfl (by with_reducible first | exact natc_k _ | exact natc_a1 _ | exact natc_0 | exact natc_1 | exact natc_2 | exact natc_s1 _ (by omega) | exact natc_a2 _ | exact natc_add _ _ | exact natc_mul _ _ | exact natc (by omega)) (by omega) rfl ?_) | refine RL_skip rfl rfl rfl rfl ?_ | refine RL_skipU rfl rfl rfl ?_
  first | (refine RL_want rfl rfl ?_; refine L_load rfl Try.one25 rfl (by first | exact gA0 | exact gA1 | exact gB0 | exact gB1 | exact gC1 | exact gP0 | exact fA0 | exact fA1 | exact fB0 | exact fB1 | exact fC0 | exact fC1 | exact fP0) ?_) | refine RL_skip rfl rfl rfl rfl ?_ | refine RL_skipU rfl rfl rfl ?_
  first | (refine RL_want rfl rfl ?_; refine L_fcmp rfl rfl rfl (fun _ => by rw [binOp_float_cmp_eql, hf25]; rfl) ?_) | refine RL_skip rfl rfl rfl rfl ?_ | refine RL_skipU rfl rfl rfl ?_
  first | refine L_pick_t rfl rfl rfl ?_ | refine L_pick_f rfl rfl rfl ?_
  refine L_assign rfl rfl ?_
  refine RL_then ?_
  refine W_ret' ?_
  refine Ex_done1 rfl rfl ?_
  exact ⟨_, rfl, rfl, h1.nil (h2.nil (h3.nil (h4.nil hs)))⟩
end Go.Proofs.Ytihhloeakenfgaa
