/-
  A part of the proof: what functions that the statement reaches do, or a plain law on what they do. Each theorem holds under its own premises alone.
-/
import Derived.Test.YtdllakfojligjaaTKC
import Derived.Test.YtdllakfojligjaaTKZ
namespace Go.Proofs.Ytdllakfojligjaa
open Go Go.Lk
/-! ### Tracks; the cost of one and a point -/
structure Trk where
 id : Int
 kind : Int
 x : Stt
 y : Stt
 seen : Nat
 steps : Int
 last : Nat
def stt0 : Stt := ⟨0, 0, 0, 0, 0⟩
def trk0 : Trk := ⟨0, 0, stt0, stt0, 0, 0, 0⟩
def Trk.cells (t : Trk) : List Value := [.int .i64 t.id, .int .i8 t.kind, .float .f64 t.x.x, .float .f64 t.x.v, .float .f64 t.x.p, .float .f64 t.x.q, .float .f64 t.x.r, .float .f64 t.y.x, .float .f64 t.y.v, .float .f64 t.y.p, .float .f64 t.y.q, .float .f64 t.y.r, .int .u16 t.seen, .int .i64 t.steps, .float .f64 t.last]
theorem Trk.one (t : Trk) : ∀ v ∈ t.cells, v.oneCell' = true := by simp [Trk.cells, Value.oneCell']
def SPC (f : FuncId) (args : Array Value) (v : Value) : Prop := match f, args.toList with
 | 25, [.agg a, .float .f64 x, .float .f64 n] => ∀ s : Stt, a = s.cells.toArray → ∃ d, v = .float .f64 d ∧ cn d = cn (farF s x n)
 | 23, [.agg a, .float .f64 t, .float .f64 q] => ∀ s : Stt, a = s.cells.toArray → ∃ u : Stt, v = .agg u.cells.toArray ∧ u.c = (aheadF s t q).c
 | 43, [.agg a, .float .f64 x, .float .f64 n] => ∀ s : Stt, a = s.cells.toArray → ∃ u : Stt, v = .agg u.cells.toArray ∧ u.c = (seenF s x n).c
 | 45, [.float .f64 x, .float .f64 n, .float .f64 q] => v = .agg (startF x n q).cells.toArray
 | _, _ => False
theorem Stt.inj {s u : Stt} (h : s.cells.toArray = u.cells.toArray) : s = u := by
 have h1 := congrArg Array.toList h
 simp only [Stt.cells, List.cons.injEq, Value.float.injEq, true_and, and_true] at h1
 obtain ⟨x, v, p, q, r⟩ := s
 obtain ⟨x', v', p', q', r'⟩ := u
 obtain ⟨rfl, rfl, rfl, rfl, rfl⟩ := h1
 rfl
theorem farH {w0 w : World} {L : Bks} (hs : HS w0 w L) (s : Stt) (x n : Nat) : Ret Try.prog 25 [.agg s.cells.toArray, .float .f64 x, .float .f64 n] w fun v w' => SPC 25 [.agg s.cells.toArray, .float .f64 x, .float .f64 n].toArray v ∧ HS w0 w' L :=
 Calls.mono (far_ok s x n w) fun e w' => by
  rintro ⟨v, rfl, ⟨d, rfl, hd⟩, hs'⟩
  exact ⟨_, rfl, fun u hu => ⟨d, rfl, Stt.inj hu ▸ hd⟩, hs.nil hs'⟩
theorem aheadH {w0 w : World} {L : Bks} (hs : HS w0 w L) (s : Stt) (x n : Nat) : Ret Try.prog 23 [.agg s.cells.toArray, .float .f64 x, .float .f64 n] w fun v w' => SPC 23 [.agg s.cells.toArray, .float .f64 x, .float .f64 n].toArray v ∧ HS w0 w' L :=
 Calls.mono (ahead_ok s x n w) fun e w' => by
  rintro ⟨v, rfl, ⟨d, rfl, hd⟩, hs'⟩
  exact ⟨_, rfl, fun u hu => ⟨d, rfl, Stt.inj hu ▸ hd⟩, hs.nil hs'⟩
theorem seenH' {w0 w : World} {L : Bks} (hs : HS w0 w L) (s : Stt) (x n : Nat) : Ret Try.prog 43 [.agg s.cells.toArray, .float .f64 x, .float .f64 n] w fun v w' => SPC 43 [.agg s.cells.toArray, .float .f64 x, .float .f64 n].toArray v ∧ HS w0 w' L :=
 Calls.mono (seen_ok s x n w) fun e w' => by
  rintro ⟨v, rfl, ⟨d, rfl, hd⟩, hs'⟩
  exact ⟨_, rfl, fun u hu => ⟨d, rfl, Stt.inj hu ▸ hd⟩, hs.nil hs'⟩
theorem startH {w0 w : World} {L : Bks} (hs : HS w0 w L) (x n q : Nat) : Ret Try.prog 45 [.float .f64 x, .float .f64 n, .float .f64 q] w fun v w' => SPC 45 [.float .f64 x, .float .f64 n, .float .f64 q].toArray v ∧ HS w0 w' L :=
 Calls.mono (start_ok x n q w) fun e w' => by
  rintro ⟨v, rfl, rfl, hs'⟩
  exact ⟨_, rfl, rfl, hs.nil hs'⟩
theorem cost_ok (B n g : Nat) (t : Trk) (px py : Nat) (w0 : World) (hg : GateOk g) (hn : w0.cell? ⟨B, 0, none⟩ = some (.float .f64 n)) (hgc : w0.cell? ⟨B, 2, none⟩ = some (.float .f64 g)) :
  Ret Try.prog 42 [.pointer (some ⟨B, 0, none⟩), .agg t.cells.toArray, .agg #[.float .f64 px, .float .f64 py]] w0 fun v w' => v = .int .i64 (costT n g t.x t.y px py) ∧ HS w0 w' [] := by
 refine Ret.start fun w hs => ?_
 have hB := World.block_lt_of_cell? w0 _ hn
 refine calls_of_W Try.func42 rfl rfl rfl ?_
 refine W_seq ?_
 refine W_region ?_
 refine L_box rfl hs rfl ?_
 intro b4 w hb4 hnb4 hs
 try dsimp only [List.set_cons_succ, List.set_cons_zero, List.cons_append, List.nil_append] at hs
 refine L_box rfl hs rfl ?_
 intro b5 w hb5 hnb5 hs
 try dsimp only [List.set_cons_succ, List.set_cons_zero, List.cons_append, List.nil_append] at hs
 refine L_assign rfl rfl ?_
 refine RL_then ?_
 refine W_seq ?_
 replace hs : HS w0 w [(b4, Row 49 t.cells), (b5, Row 97 [.float .f64 px, .float .f64 py])] := hs
 have ho : Own w0 [(b4, Row 49 t.cells), (b5, Row 97 [.float .f64 px, .float .f64 py])] := Own.cons hb4 (Own.cons hb5 Own.nil)
 refine W_sg Try.mixed ?_
 replace hs := hs.drewN 1
 refine SG_stageB [0, 2, 4, 5, 6, 7, 10, 12, 14, 15, 16, 17] [1, 3, 8, 9, 11, 13, 18, 19, 20, 21] [] (noBk SPC) (g' := 0) (by kernel_rfl) (by kernel_rfl) (fun _ _ _ _ _ h => h) hs ?_
 refine PL_val rfl (fun w => R_fieldAddr (off := 2) Try.underlying49 rfl rfl Try.ti46 rfl) ?_
 refine PL_val rfl (fun w => R_fieldAddr (off := 0) Try.underlying97 rfl rfl Try.ti23 rfl) ?_
 refine PL_val rfl (fun w => R_move rfl) ?_
 refine PL_val rfl (fun w => R_nilCheck rfl) ?_
 refine PL_val rfl (fun w => R_fieldAddr (off := 0) Try.underlying88 rfl rfl Try.ti25 rfl) ?_
 refine PL_val rfl (fun w => R_fieldAddr (off := 0) Try.underlying25 rfl rfl Try.ti23 rfl) ?_
 refine PL_val rfl (fun w => R_fieldAddr (off := 7) Try.underlying49 rfl rfl Try.ti46 rfl) ?_
 refine PL_val rfl (fun w => R_fieldAddr (off := 1) Try.underlying97 rfl rfl Try.ti23 rfl) ?_
 refine PL_val rfl (fun w => R_move rfl) ?_
 refine PL_val rfl (fun w => R_nilCheck rfl) ?_
 refine PL_val rfl (fun w => R_fieldAddr (off := 0) Try.underlying88 rfl rfl Try.ti25 rfl) ?_
 refine PL_val rfl (fun w => R_fieldAddr (off := 0) Try.underlying25 rfl rfl Try.ti23 rfl) ?_
 refine PL_endB ?_
 refine HB_val rfl (fun w R hR hs => R_loadA Try.agg46 Try.ti46 rfl (by exact cellsAt_lit (n := 5) (cs := t.x.cells) (hs.get (i := 0) rfl) rfl)) ?_
 refine HB_val rfl (fun w R hR hs => R_load Try.one23 rfl (by first | exact hs.cell (i := 1) rfl rfl | exact HS.oldcell hs hn ((ho.app hR).notin hB))) ?_
 refine HB_val rfl (fun w R hR hs => R_load Try.one23 rfl (by first | exact hs.cell (i := 1) rfl rfl | exact HS.oldcell hs hn ((ho.app hR).notin hB))) ?_
 refine HB_callH rfl Try.fun25 rfl (fun w R hR hs => farH hs t.x px n) ?_
 rintro _ hd
 obtain ⟨d1, rfl, hd1⟩ := hd _ rfl
 refine HB_val rfl (fun w R hR hs => R_loadA Try.agg46 Try.ti46 rfl (by exact cellsAt_lit (n := 5) (cs := t.y.cells) (hs.get (i := 0) rfl) rfl)) ?_
 refine HB_val rfl (fun w R hR hs => R_load Try.one23 rfl (by first | exact hs.cell (i := 1) rfl rfl | exact HS.oldcell hs hn ((ho.app hR).notin hB))) ?_
 refine HB_val rfl (fun w R hR hs => R_load Try.one23 rfl (by first | exact hs.cell (i := 1) rfl rfl | exact HS.oldcell hs hn ((ho.app hR).notin hB))) ?_
 refine HB_callH rfl Try.fun25 rfl (fun w R hR hs => farH hs t.y py n) ?_
 rintro _ hd
 obtain ⟨d2, rfl, hd2⟩ := hd _ rfl
 refine HB_farith rfl (op := .add) rfl rfl rfl ?_
 intro r28 hr28
 refine HB_val rfl (fun w R hR hs => R_assign rfl) ?_
 refine HB_tail ?_
 intro w hs
 refine RL_sg ?_
 refine SG_end (by kernel_rfl) ?_
 refine Nx_then ?_
 refine W_seq ?_
 refine W_seq ?_
 have e28 : cn r28 = cn (dstF n t.x t.y px py) := (Fs.cn hr28).trans ((fop_congr hd1 hd2).trans (cn_fop ..).symm)
 have hlr : leB r28 g = leB (dstF n t.x t.y px py) g := by unfold leB; rw [order_congr e28 rfl]
 cases hle : leB (dstF n t.x t.y px py) g
 ·
  rw [hle] at hlr
  have e : costT n g t.x t.y px py = -1 := by unfold costT costD; rw [hle, if_neg (by decide)]
  rw [e]
  refine W_region ?_
  refine L_move rfl rfl ?_
  refine L_move rfl rfl ?_
  refine L_nilCheck rfl rfl ?_
  refine L_fieldAddr rfl (off := 0) Try.underlying88 rfl rfl Try.ti25 rfl ?_
  refine L_fieldAddr rfl (off := 2) Try.underlying25 rfl rfl Try.ti23 rfl ?_
  refine L_load rfl Try.one23 rfl (by exact hs.oldcell hgc ((ho.app Own.nil).notin hB)) ?_
  refine L_fcmp rfl rfl rfl (fun _ => by rw [binOp_float_cmp_leq]; rfl) ?_
  refine RL_then ?_
  refine W_set 35 (v' := .bool false) rfl ((congrArg Value.bool hlr)) ?_
  refine W_if_false rfl ?_
  refine W_skip' ?_
  refine Nx_then ?_
  refine W_seq ?_
  refine W_region ?_
  refine L_assign rfl rfl ?_
  refine RL_then ?_
  refine W_ret' ?_
  refine Ex_done1 rfl rfl ?_
  exact ⟨_, rfl, rfl, hs.forget (ho.app Own.nil)⟩
 ·
  rw [hle] at hlr
  obtain ⟨h1, h3, m, h4, h5⟩ := cost_some hg dstF_pos hle
  have e : costT n g t.x t.y px py = (m : Int) := by unfold costT costD; rw [hle, if_pos rfl, h5]; rfl
  rw [e]
  refine W_region ?_
  refine L_move rfl rfl ?_
  refine L_move rfl rfl ?_
  refine L_nilCheck rfl rfl ?_
  refine L_fieldAddr rfl (off := 0) Try.underlying88 rfl rfl Try.ti25 rfl ?_
  refine L_fieldAddr rfl (off := 2) Try.underlying25 rfl rfl Try.ti23 rfl ?_
  refine L_load rfl Try.one23 rfl (by exact hs.oldcell hgc ((ho.app Own.nil).notin hB)) ?_
  refine L_fcmp rfl rfl rfl (fun _ => by rw [binOp_float_cmp_leq]; rfl) ?_
  refine RL_then ?_
  refine W_set 35 (v' := .bool true) rfl ((congrArg Value.bool hlr)) ?_
  refine W_if_true rfl ?_
  refine W_seq ?_
  refine W_region ?_
  refine L_move rfl rfl ?_
  refine L_farith rfl (op := .mul) rfl rfl rfl ?_
  intro r37 k37 hr37
  try replace hs := hs.drewN k37
  have eQ : cn r37 = cn (fop .mul (dstF n t.x t.y px py) 4697254411347427328) := (Fs.cn hr37).trans ((fop_congr e28 rfl).trans (cn_fop ..).symm)
  obtain rfl : r37 = fop .mul (dstF n t.x t.y px py) 4697254411347427328 := cn_same eQ h3
  refine L_call rfl Try.fun26 rfl (floor_ok _ _ h3 rfl _) ?_
  rintro _ _ ⟨rfl, rfl⟩
  refine RL_val rfl (R_ftoi Try.underlying23 Try.underlying2 rfl h5) ?_
  refine L_assign rfl rfl ?_
  refine RL_then ?_
  refine W_ret' ?_
  refine Ex_then_ret ?_
  refine Ex_done1 rfl rfl ?_
  exact ⟨_, rfl, rfl, hs.forget (ho.app Own.nil)⟩
end Go.Proofs.Ytdllakfojligjaa
