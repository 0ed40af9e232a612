/-
  A part of the proof: what functions that the statement reaches do, or a plain law on what they do. Each theorem holds under its own premises alone.
-/
import Derived.Test.YtoiobncojfeoiaaTUR
import Derived.Test.YtoiobncojfeoiaaTUP
namespace Go.Proofs.Ytoiobncojfeoiaa
open Go Go.Lk
/-! ### GuardKnown -/
theorem nan_ok (w0 : World) : Ret Try.prog 28 [] w0 fun v w' => v = .float .f64 9221120237041090561 ∧ HS w0 w' [] := by
  refine Ret.start fun w hs => ?_
  refine calls_of_W Try.func28 rfl rfl rfl ?_
  refine W_seq ?_
  refine W_region ?_
  refine L_assign rfl rfl ?_
  refine RL_then ?_
  refine W_seq ?_
  refine W_region ?_
  refine RL_val rfl (R_f64from Try.ext45 rfl) ?_
  refine L_assign rfl rfl ?_
  refine RL_then ?_
  refine W_ret' ?_
  refine Ex_done1 rfl rfl ?_
  exact ⟨_, rfl, rfl, hs⟩
theorem add_nil (nm : ByteArray) (a : Option Addr) (n c : Nat) (w0 : World) : Ret Try.prog 14 [.pointer none, .agg #[.string nm, .slice a n c]] w0 fun v w' => v = .tuple #[.int .i64 0, .int .i64 1] ∧ HS w0 w' [] := by
  refine Ret.start fun w hs => ?_
  refine calls_of_W Try.func14 rfl rfl rfl ?_
  refine W_seq ?_
  refine W_region ?_
  refine L_box rfl hs rfl ?_
  intro b3 w hb3 hnb3 hs
  try dsimp only [List.set_cons_succ, List.set_cons_zero, List.cons_append, List.nil_append] at hs
  refine L_assign rfl rfl ?_
  refine L_assign rfl rfl ?_
  refine RL_then ?_
  refine W_seq ?_
  refine W_seq ?_
  refine W_region ?_
  refine L_move rfl rfl ?_
  refine L_ptrNil rfl Try.underlying34 rfl rfl ?_
  refine RL_then ?_
  replace hs : HS w0 w [(b3, Row 40 [.string nm, .slice a n c])] := hs
  refine W_if_true rfl ?_
  refine W_seq ?_
  refine W_region ?_
  refine L_assign rfl rfl ?_
  refine L_assign rfl rfl ?_
  refine RL_then ?_
  refine W_ret' ?_
  refine Ex_then_ret ?_
  refine Ex_done2 rfl rfl rfl ?_
  exact ⟨_, rfl, rfl, hs.forget (Own.cons hb3 Own.nil)⟩
theorem drop_nil (q : Int) (w0 : World) : Ret Try.prog 30 [.pointer none, .int .i64 q] w0 fun v w' => v = .int .i64 1 ∧ HS w0 w' [] := by
  refine Ret.start fun w hs => ?_
  refine calls_of_W Try.func30 rfl rfl rfl ?_
  refine W_seq ?_
  refine W_region ?_
  refine L_box rfl hs rfl ?_
  intro b3 w hb3 hnb3 hs
  try dsimp only [List.set_cons_succ, List.set_cons_zero, List.cons_append, List.nil_append] at hs
  refine L_assign rfl rfl ?_
  refine RL_then ?_
  refine W_seq ?_
  refine W_seq ?_
  refine W_region ?_
  replace hs : HS w0 w [(b3, Row 3 [.int .i64 q])] := hs
  refine L_move rfl rfl ?_
  refine L_ptrNil rfl Try.underlying34 rfl rfl ?_
  refine RL_then ?_
  refine W_if_true rfl ?_
  refine W_seq ?_
  refine W_region ?_
  refine L_assign rfl rfl ?_
  refine RL_then ?_
  refine W_ret' ?_
  refine Ex_then_ret ?_
  refine Ex_done1 rfl rfl ?_
  exact ⟨_, rfl, rfl, hs.forget (Own.cons hb3 Own.nil)⟩
theorem watch_nil (t : Nat) (a : Option Addr) (n c : Nat) (w0 : World) : Ret Try.prog 15 [.pointer none, .float .f64 t, .slice a n c] w0 fun v w' => v = .slice none 0 0 ∧ HS w0 w' [] := by
  refine Ret.start fun w hs => ?_
  refine calls_of_W Try.func15 rfl rfl rfl ?_
  refine W_seq ?_
  refine W_region ?_
  refine L_box rfl hs rfl ?_
  intro b4 w hb4 hnb4 hs
  try dsimp only [List.set_cons_succ, List.set_cons_zero, List.cons_append, List.nil_append] at hs
  refine L_assign rfl rfl ?_
  refine RL_then ?_
  refine W_seq ?_
  refine W_seq ?_
  refine W_region ?_
  replace hs : HS w0 w [(b4, Row 23 [.float .f64 t])] := hs
  refine L_move rfl rfl ?_
  refine L_ptrNil rfl Try.underlying34 rfl rfl ?_
  refine RL_then ?_
  refine W_if_true rfl ?_
  refine W_seq ?_
  refine W_region ?_
  refine L_assign rfl rfl ?_
  refine RL_then ?_
  refine W_ret' ?_
  refine Ex_then_ret ?_
  refine Ex_done1 rfl rfl ?_
  exact ⟨_, rfl, rfl, hs.forget (Own.cons hb4 Own.nil)⟩
theorem in_nil (q : Int) (w0 : World) : Ret Try.prog 17 [.pointer none, .int .i64 q] w0 fun v w' => v = .slice none 0 0 ∧ HS w0 w' [] := by
  refine Ret.start fun w hs => ?_
  refine calls_of_W Try.func17 rfl rfl rfl ?_
  refine W_seq ?_
  refine W_region ?_
  refine L_assign rfl rfl ?_
  refine RL_then ?_
  refine W_seq ?_
  refine W_seq ?_
  refine W_region ?_
  refine L_move rfl rfl ?_
  refine L_ptrNil rfl Try.underlying34 rfl rfl ?_
  refine RL_then ?_
  refine W_if_true rfl ?_
  refine W_seq ?_
  refine W_region ?_
  refine L_assign rfl rfl ?_
  refine RL_then ?_
  refine W_ret' ?_
  refine Ex_then_ret ?_
  refine Ex_done1 rfl rfl ?_
  exact ⟨_, rfl, rfl, hs⟩
theorem k1 : whenF sqP (13835058055282163712, 4611686018427387904) (4607182418800017408, 0) 4607182418800017408 = (0, false) := by kernel_rfl
theorem k2 : whenF sqP (13835058055282163712, 4611686018427387904) (13830554455654793216, 0) 4621819117588971520 = (0, false) := by kernel_rfl
theorem k3 : whenF sqP (4607182418800017408, 4607182418800017408) (13830554455654793216, 0) 4621819117588971520 = (0, true) := by kernel_rfl
theorem S4_v (zv : Value) (zM : Bks) : watchF far10 4607182418800017408 [zA zv zM] esA 1 [tkA] = ⟨[], esA, 1⟩ := by rw [watch_C]; kernel_rfl
set_option maxHeartbeats 2000000 in
theorem known_law (w0 : World) : Ret Try.prog 7 [] w0 fun v w' => v = .bool true ∧ HS w0 w' [] := by
  refine Ret.start fun w hs => ?_
  refine calls_of_W Try.func7 rfl rfl rfl ?_
  refine W_seq ?_
  refine W_region ?_
  refine L_assign rfl rfl ?_
  refine RL_then ?_
  refine W_seq ?_
  refine W_region ?_
  refine L_call rfl Try.fun27 rfl (square_ok w) ?_
  rintro _ wa0 ⟨q, rfl, hs', hq⟩
  have hq := Nat.le_trans hs.size hq
  have hs2 := hs.call hs' (Own.cons (Nat.le_trans (Nat.le_refl _) ‹_›) Own.nil)
  clear hs hs'
  have hs := hs2
  clear hs2
  refine L_build rfl rfl (Pl.built Try.pl25 rfl) ?_
  refine L_build rfl rfl (Pl.built Try.pl25 rfl) ?_
  refine L_call rfl Try.fun9 rfl (when_ok (some ⟨q, 0, none⟩) 4 4 sqP (13835058055282163712, 4611686018427387904) (4607182418800017408, 0) 4607182418800017408 wa0 (SlC.of_row (sp := []) (hs.has _ (List.mem_append_right _ (List.mem_cons_self ..)))) rfl) ?_
  rintro _ wb0 ⟨rfl, hs'⟩
  rw [k1]
  have hs2 := (hs.nil hs').forget (Own.cons hq Own.nil)
  clear hs hs'
  have hs := hs2
  clear hs2
  refine L_move rfl rfl ?_
  refine L_extract rfl rfl rfl ?_
  refine L_extract rfl rfl rfl ?_
  refine L_assign rfl rfl ?_
  refine L_assign rfl rfl ?_
  refine RL_then ?_
  refine W_seq ?_
  refine W_region ?_
  refine L_call rfl Try.fun27 rfl (square_ok wb0) ?_
  rintro _ wa1 ⟨q, rfl, hs', hq⟩
  have hq := Nat.le_trans hs.size hq
  have hs2 := hs.call hs' (Own.cons (Nat.le_trans (Nat.le_refl _) ‹_›) Own.nil)
  clear hs hs'
  have hs := hs2
  clear hs2
  refine L_build rfl rfl (Pl.built Try.pl25 rfl) ?_
  refine L_build rfl rfl (Pl.built Try.pl25 rfl) ?_
  refine L_call rfl Try.fun9 rfl (when_ok (some ⟨q, 0, none⟩) 4 4 sqP (13835058055282163712, 4611686018427387904) (13830554455654793216, 0) 4621819117588971520 wa1 (SlC.of_row (sp := []) (hs.has _ (List.mem_append_right _ (List.mem_cons_self ..)))) rfl) ?_
  rintro _ wb1 ⟨rfl, hs'⟩
  rw [k2]
  have hs2 := (hs.nil hs').forget (Own.cons hq Own.nil)
  clear hs hs'
  have hs := hs2
  clear hs2
  refine L_move rfl rfl ?_
  refine L_extract rfl rfl rfl ?_
  refine L_extract rfl rfl rfl ?_
  refine L_assign rfl rfl ?_
  refine L_assign rfl rfl ?_
  refine RL_then ?_
  refine W_seq ?_
  refine W_region ?_
  refine L_call rfl Try.fun27 rfl (square_ok wb1) ?_
  rintro _ wa2 ⟨q, rfl, hs', hq⟩
  have hq := Nat.le_trans hs.size hq
  have hs2 := hs.call hs' (Own.cons (Nat.le_trans (Nat.le_refl _) ‹_›) Own.nil)
  clear hs hs'
  have hs := hs2
  clear hs2
  refine L_build rfl rfl (Pl.built Try.pl25 rfl) ?_
  refine L_build rfl rfl (Pl.built Try.pl25 rfl) ?_
  refine L_call rfl Try.fun9 rfl (when_ok (some ⟨q, 0, none⟩) 4 4 sqP (4607182418800017408, 4607182418800017408) (13830554455654793216, 0) 4621819117588971520 wa2 (SlC.of_row (sp := []) (hs.has _ (List.mem_append_right _ (List.mem_cons_self ..)))) rfl) ?_
  rintro _ wb2 ⟨rfl, hs'⟩
  rw [k3]
  have hs2 := (hs.nil hs').forget (Own.cons hq Own.nil)
  clear hs hs'
  have hs := hs2
  clear hs2
  refine L_move rfl rfl ?_
  refine L_extract rfl rfl rfl ?_
  refine L_extract rfl rfl rfl ?_
  refine L_assign rfl rfl ?_
  refine L_assign rfl rfl ?_
  refine RL_then ?_
  refine W_seq ?_
  refine W_region ?_
  refine L_call rfl Try.fun28 rfl (nan_ok wb2) ?_
  rintro _ wc ⟨rfl, hs'⟩
  have hs2 := hs.nil hs'
  clear hs hs'
  have hs := hs2
  clear hs2
  skip
  refine L_call rfl Try.fun13 rfl (newG 9221120237041090561 wc) ?_
  rintro _ wd h
  obtain ⟨_, rfl, hs'⟩ := h.resolve_right (fun h => absurd h.1 (by rw [show badNew 9221120237041090561 = true by kernel_rfl]; decide))
  clear h
  have hs2 := hs.nil hs'
  clear hs hs'
  have hs := hs2
  clear hs2
  refine L_move rfl rfl ?_
  refine L_extract rfl rfl rfl ?_
  refine L_extract rfl rfl rfl ?_
  refine L_assign rfl rfl ?_
  refine L_assign rfl rfl ?_
  refine RL_then ?_
  refine W_seq ?_
  refine W_region ?_
  refine L_call rfl Try.fun13 rfl (newG 13830554455654793216 wd) ?_
  rintro _ we h
  obtain ⟨_, rfl, hs'⟩ := h.resolve_right (fun h => absurd h.1 (by rw [show badNew 13830554455654793216 = true by kernel_rfl]; decide))
  clear h
  have hs2 := hs.nil hs'
  clear hs hs'
  have hs := hs2
  clear hs2
  refine L_move rfl rfl ?_
  refine L_extract rfl rfl rfl ?_
  refine L_extract rfl rfl rfl ?_
  refine L_assign rfl rfl ?_
  refine L_assign rfl rfl ?_
  refine RL_then ?_
  refine W_seq ?_
  refine W_region ?_
  refine L_call rfl Try.fun13 rfl (newG far10 we) ?_
  rintro _ wf h
  obtain ⟨_, B, m, rfl, hs', hN'⟩ := h.resolve_left (fun h => absurd h.1 (by rw [show badNew far10 = false by kernel_rfl]; decide))
  clear h
  have hNo := hN'.owns (far := far10) (ever := 0)
  have hN := hN'.mono hs.size
  have hs2 := hs.call hs' hNo
  clear hs hs'
  have hs := hs2
  clear hs2
  clear hN' hNo
  replace hs : HS w0 wf (gbs B far10 (.slice none 0 0) [] 0 m [] 0 []) := hs
  refine L_move rfl rfl ?_
  refine L_extract rfl rfl rfl ?_
  refine L_extract rfl rfl rfl ?_
  refine L_assign rfl rfl ?_
  refine L_assign rfl rfl ?_
  refine RL_then ?_
  refine W_seq ?_
  refine W_region ?_
  refine L_move rfl rfl ?_
  refine L_call rfl Try.fun27 rfl (square_ok wf) ?_
  rintro _ w1 ⟨q, rfl, hs', hq'⟩
  have hq := Nat.le_trans hs.size hq'
  have hs2 := hs.call hs' (Own.cons hq' Own.nil)
  clear hs hs'
  have hs := hs2
  clear hs2
  clear hq'
  refine L_build rfl rfl (Pl.built Try.pl40 rfl) ?_
  refine L_call rfl Try.fun14 rfl (addG w0 w1 B far10 (.slice none 0 0) [] 0 m [] 0 [] [(q, Row 25 (pcs sqP))] ⟨#[97]⟩ (some ⟨q, 0, none⟩) 4 4 sqP hs hN (Own.cons hq Own.nil) (fun w' L' hs' ho hL => SlC.of_row (sp := []) (hs'.has _ (hL _ (List.mem_cons_self ..)))) rfl (by decide) (by decide) (by decide)) ?_
  rintro _ w2 h
  obtain ⟨_, v1, M1, zv1, zM1, rfl, hs', hN'⟩ := h.resolve_right (fun h => absurd (show addE [] ⟨#[97]⟩ sqP = 0 by kernel_rfl) h.1)
  clear h hN
  have hs2 : HS w0 w2 (gbs B far10 v1 M1 1 m [] 0 [zA zv1 zM1]) := HS.dropR (M := [(q, Row 25 (pcs sqP))]) hs' (Own.cons hq Own.nil)
  have hN : GOk w0 B v1 M1 m [] 0 [zA zv1 zM1] := hN'
  clear hs hs' hN' hq
  have hs := hs2
  clear hs2
  refine RL_then ?_
  refine W_seq ?_
  refine W_region ?_
  refine L_move rfl rfl ?_
  refine L_call rfl Try.fun27 rfl (square_ok w2) ?_
  rintro _ w3 ⟨q, rfl, hs', hq'⟩
  have hq := Nat.le_trans hs.size hq'
  have hs2 := hs.call hs' (Own.cons hq' Own.nil)
  clear hs hs'
  have hs := hs2
  clear hs2
  clear hq'
  refine L_build rfl rfl (Pl.built Try.pl40 rfl) ?_
  refine L_call rfl Try.fun14 rfl (addG w0 w3 B far10 v1 M1 1 m [] 0 [zA zv1 zM1] [(q, Row 25 (pcs sqP))] ⟨#[97]⟩ (some ⟨q, 0, none⟩) 4 4 sqP hs hN (Own.cons hq Own.nil) (fun w' L' hs' ho hL => SlC.of_row (sp := []) (hs'.has _ (hL _ (List.mem_cons_self ..)))) rfl (by decide) (by decide) (by decide)) ?_
  rintro _ w4 h
  obtain ⟨_, rfl, hs'⟩ := h.resolve_left (fun h => absurd h.1 (by rw [show addE [zA zv1 zM1] ⟨#[97]⟩ sqP = 290 by kernel_rfl]; decide))
  rw [show addE [zA zv1 zM1] ⟨#[97]⟩ sqP = 290 by kernel_rfl]
  clear h
  have hs2 : HS w0 w4 (gbs B far10 v1 M1 1 m [] 0 [zA zv1 zM1]) := HS.dropR (M := [(q, Row 25 (pcs sqP))]) hs' (Own.cons hq Own.nil)
  clear hs hs' hq
  have hs := hs2
  clear hs2
  refine L_move rfl rfl ?_
  refine L_extract rfl rfl rfl ?_
  refine L_extract rfl rfl rfl ?_
  refine L_assign rfl rfl ?_
  refine L_assign rfl rfl ?_
  refine RL_then ?_
  refine W_seq ?_
  refine W_region ?_
  refine L_move rfl rfl ?_
  refine L_call rfl Try.fun27 rfl (square_ok w4) ?_
  rintro _ w5 ⟨q, rfl, hs', hq'⟩
  have hq := Nat.le_trans hs.size hq'
  have hs2 := hs.call hs' (Own.cons hq' Own.nil)
  clear hs hs'
  have hs := hs2
  clear hs2
  clear hq'
  refine RL_val rfl (R_slice010 Try.underlying22 Try.ti25 rfl rfl (by with_reducible first | exact natc_k _ | exact natc_a1 _ | exact natc_0 | exact natc_1 | exact natc_2 | exact natc_s1 _ (by omega) | exact natc_a2 _ | exact natc_add _ _ | exact natc_mul _ _ | exact natc (by omega)) (by omega)) ?_
  refine L_build rfl rfl (Pl.built Try.pl40 rfl) ?_
  refine L_call rfl Try.fun14 rfl (addG w0 w5 B far10 v1 M1 1 m [] 0 [zA zv1 zM1] [(q, Row 25 (pcs sqP))] ⟨#[98]⟩ (some ⟨q, 0, none⟩) 2 4 (sqP.take 2) hs hN (Own.cons hq Own.nil) (fun w' L' hs' ho hL => SlC.of_row (sp := pcs (sqP.drop 2)) (hs'.has _ (hL _ (List.mem_cons_self ..)))) rfl (by decide) (by decide) (by decide)) ?_
  rintro _ w6 h
  obtain ⟨_, rfl, hs'⟩ := h.resolve_left (fun h => absurd h.1 (by rw [show addE [zA zv1 zM1] ⟨#[98]⟩ (sqP.take 2) = 290 by kernel_rfl]; decide))
  rw [show addE [zA zv1 zM1] ⟨#[98]⟩ (sqP.take 2) = 290 by kernel_rfl]
  clear h
  have hs2 : HS w0 w6 (gbs B far10 v1 M1 1 m [] 0 [zA zv1 zM1]) := HS.dropR (M := [(q, Row 25 (pcs sqP))]) hs' (Own.cons hq Own.nil)
  clear hs hs' hq
  have hs := hs2
  clear hs2
  refine L_move rfl rfl ?_
  refine L_extract rfl rfl rfl ?_
  refine L_extract rfl rfl rfl ?_
  refine L_assign rfl rfl ?_
  refine L_assign rfl rfl ?_
  refine RL_then ?_
  refine W_seq ?_
  refine W_region ?_
  refine L_move rfl rfl ?_
  refine L_call rfl Try.fun29 rfl (firm_ok 7 13835058055282163712 4611686018427387904 4607182418800017408 0 w6) ?_
  rintro _ w7 ⟨rfl, hs'⟩
  have hs2 := hs.nil hs'
  clear hs hs'
  have hs := hs2
  clear hs2
  refine L_buildSlice rfl hs Try.underlying44 Try.ti60 rfl (by decide) rfl (by simp [Value.cells, Tk.cells]) ?_
  intro b80 w hb80 hnb80 hs
  skip
  replace hs : HS w0 w (gbs B far10 v1 M1 1 m [] 0 [zA zv1 zM1] ++ [(b80, Row 60 (tcs [tkA]))]) := hs
  have ho : Own w0 [(b80, Row 60 (tcs [tkA]))] := Own.cons hb80 Own.nil
  refine L_call rfl Try.fun15 rfl (watchG w0 w B far10 v1 M1 [(b80, Row 60 (tcs [tkA]))] 1 m [] 0 [zA zv1 zM1] 4607182418800017408 (some ⟨b80, 0, none⟩) 1 1 [tkA] hs hN ho (fun w' L' hs' _ hL => SlC.of_row (sp := []) (hs'.has _ (hL _ (List.mem_cons_self ..)))) (by decide) rfl (by decide)) ?_
  rintro _ w8 ⟨N, hs', hn, hN', _⟩
  rw [S1_v] at hs' hn hN'
  obtain ⟨a', c', rfl, _⟩ := hn.slice
  clear hN
  have hs2 : HS w0 w8 (gbs B far10 v1 M1 1 m esA 1 [zA zv1 zM1]) := HS.dropR (HS.dropR hs' hn.own) ho
  have hN : GOk w0 B v1 M1 m esA 1 [zA zv1 zM1] := hN'
  clear hs hs' hn hN' ho
  have hs := hs2
  clear hs2
  refine RL_then ?_
  refine W_seq ?_
  refine W_region ?_
  refine L_move rfl rfl ?_
  refine L_call rfl Try.fun29 rfl (firm_ok 7 13835058055282163712 4611686018427387904 4607182418800017408 0 w8) ?_
  rintro _ w9 ⟨rfl, hs'⟩
  have hs2 := hs.nil hs'
  clear hs hs'
  have hs := hs2
  clear hs2
  refine L_buildSlice rfl hs Try.underlying44 Try.ti60 rfl (by decide) rfl (by simp [Value.cells, Tk.cells]) ?_
  intro b84 w hb84 hnb84 hs
  skip
  replace hs : HS w0 w (gbs B far10 v1 M1 1 m esA 1 [zA zv1 zM1] ++ [(b84, Row 60 (tcs [tkA]))]) := hs
  have ho : Own w0 [(b84, Row 60 (tcs [tkA]))] := Own.cons hb84 Own.nil
  refine L_call rfl Try.fun15 rfl (watchG w0 w B far10 v1 M1 [(b84, Row 60 (tcs [tkA]))] 1 m esA 1 [zA zv1 zM1] 4607182418800017408 (some ⟨b84, 0, none⟩) 1 1 [tkA] hs hN ho (fun w' L' hs' _ hL => SlC.of_row (sp := []) (hs'.has _ (hL _ (List.mem_cons_self ..)))) (by decide) rfl (by decide)) ?_
  rintro _ w10 ⟨N, hs', hn, hN', _⟩
  rw [S4_v] at hs' hn hN'
  obtain ⟨a', c', rfl, _⟩ := hn.slice
  clear hN
  have hs2 : HS w0 w10 (gbs B far10 v1 M1 1 m esA 1 [zA zv1 zM1]) := HS.dropR (HS.dropR hs' hn.own) ho
  have hN : GOk w0 B v1 M1 m esA 1 [zA zv1 zM1] := hN'
  clear hs hs' hn hN' ho
  have hs := hs2
  clear hs2
  refine L_assign rfl rfl ?_
  refine RL_then ?_
  refine W_seq ?_
  refine W_region ?_
  refine L_move rfl rfl ?_
  refine L_call rfl Try.fun30 rfl (dropG w0 w10 B far10 v1 M1 [] 1 m esA 1 [zA zv1 zM1] 9 (by rw [List.append_nil]; exact hs) hN Own.nil) ?_
  rintro _ w11 h
  obtain ⟨_, rfl, hs'⟩ := h.resolve_right (fun h => by obtain ⟨i, hi, h, _⟩ := h; have hi1 : i < 1 := hi; obtain rfl : i = 0 := (by omega); exact absurd h (show (1 : Int) ≠ 9 by decide))
  clear h
  rw [List.append_nil] at hs'
  clear hs
  have hs := hs'
  clear hs'
  refine L_assign rfl rfl ?_
  refine RL_then ?_
  refine W_seq ?_
  refine W_region ?_
  refine L_move rfl rfl ?_
  refine L_call rfl Try.fun30 rfl (dropG w0 w11 B far10 v1 M1 [] 1 m esA 1 [zA zv1 zM1] 1 (by rw [List.append_nil]; exact hs) hN Own.nil) ?_
  rintro _ w12 h
  obtain ⟨i, hi, _, _, v2, M2, rfl, hs', hN'⟩ := h.resolve_left (fun h => h.1 0 (Nat.zero_lt_one) rfl)
  clear h
  obtain rfl : i = 0 := by (have : i < 1 := hi); omega
  rw [List.append_nil] at hs'
  clear hs hN
  have hs : HS w0 w12 (gbs B far10 v2 M2 1 m [] 1 []) := hs'
  have hN : GOk w0 B v2 M2 m [] 1 [] := hN'
  clear hs' hN'
  refine L_assign rfl rfl ?_
  refine RL_then ?_
  refine W_seq ?_
  refine W_region ?_
  refine L_move rfl rfl ?_
  refine L_call rfl Try.fun27 rfl (square_ok w12) ?_
  rintro _ w13 ⟨q, rfl, hs', hq'⟩
  have hq := Nat.le_trans hs.size hq'
  have hs2 := hs.call hs' (Own.cons hq' Own.nil)
  clear hs hs'
  have hs := hs2
  clear hs2
  clear hq'
  refine L_build rfl rfl (Pl.built Try.pl40 rfl) ?_
  refine L_call rfl Try.fun14 rfl (addG w0 w13 B far10 v2 M2 1 m [] 1 [] [(q, Row 25 (pcs sqP))] ⟨#[97]⟩ (some ⟨q, 0, none⟩) 4 4 sqP hs hN (Own.cons hq Own.nil) (fun w' L' hs' ho hL => SlC.of_row (sp := []) (hs'.has _ (hL _ (List.mem_cons_self ..)))) rfl (by decide) (by decide) (by decide)) ?_
  rintro _ w14 h
  obtain ⟨_, v3, M3, zv3, zM3, rfl, hs', hN'⟩ := h.resolve_right (fun h => absurd (show addE [] ⟨#[97]⟩ sqP = 0 by kernel_rfl) h.1)
  clear h hN
  have hs2 : HS w0 w14 (gbs B far10 v3 M3 2 m [] 1 [⟨2, ⟨#[97]⟩, sqP, zv3, zM3⟩]) := HS.dropR (M := [(q, Row 25 (pcs sqP))]) hs' (Own.cons hq Own.nil)
  have hN : GOk w0 B v3 M3 m [] 1 [⟨2, ⟨#[97]⟩, sqP, zv3, zM3⟩] := hN'
  clear hs hs' hN' hq
  have hs := hs2
  clear hs2
  refine L_move rfl rfl ?_
  refine L_extract rfl rfl rfl ?_
  refine L_extract rfl rfl rfl ?_
  refine L_assign rfl rfl ?_
  refine L_assign rfl rfl ?_
  refine RL_then ?_
  refine W_seq ?_
  refine W_region ?_
  refine L_assign rfl rfl ?_
  refine RL_then ?_
  refine W_seq ?_
  refine W_region ?_
  refine L_move rfl rfl ?_
  refine L_call rfl Try.fun27 rfl (square_ok w14) ?_
  rintro _ w15 ⟨q, rfl, hs', hq'⟩
  have hq := Nat.le_trans hs.size hq'
  have hs2 := hs.call hs' (Own.cons hq' Own.nil)
  clear hs hs'
  have hs := hs2
  clear hs2
  clear hq'
  refine L_build rfl rfl (Pl.built Try.pl40 rfl) ?_
  refine L_call rfl Try.fun14 rfl (add_nil ⟨#[97]⟩ (some ⟨q, 0, none⟩) 4 4 w15) ?_
  rintro _ w16 ⟨rfl, hs'⟩
  have hs2 : HS w0 w16 (gbs B far10 v3 M3 2 m [] 1 [⟨2, ⟨#[97]⟩, sqP, zv3, zM3⟩]) := HS.dropR (M := [(q, Row 25 (pcs sqP))]) (hs.nil hs') (Own.cons hq Own.nil)
  clear hs hs' hq
  have hs := hs2
  clear hs2
  refine L_move rfl rfl ?_
  refine L_extract rfl rfl rfl ?_
  refine L_extract rfl rfl rfl ?_
  refine L_assign rfl rfl ?_
  refine L_assign rfl rfl ?_
  refine RL_then ?_
  refine W_seq ?_
  refine W_region ?_
  refine L_move rfl rfl ?_
  refine L_not rfl rfl ?_
  refine L_move rfl rfl ?_
  first | (refine RL_want rfl rfl ?_; refine L_move rfl rfl ?_) | refine RL_skip rfl rfl rfl rfl ?_ | refine RL_skipU rfl rfl rfl ?_
  first | (refine RL_want rfl rfl ?_; refine L_not rfl rfl ?_) | refine RL_skip rfl rfl rfl rfl ?_ | refine RL_skipU rfl rfl rfl ?_
  first | refine L_pick_t rfl rfl rfl ?_ | refine L_pick_f rfl rfl rfl ?_
  refine L_move rfl rfl ?_
  first | (refine RL_want rfl rfl ?_; refine L_move rfl rfl ?_) | refine RL_skip rfl rfl rfl rfl ?_ | refine RL_skipU rfl rfl rfl ?_
  first | (refine RL_want rfl rfl ?_; refine L_fcmp rfl rfl rfl (fun _ => by rw [binOp_float_cmp_eql]; rfl) ?_) | refine RL_skip rfl rfl rfl rfl ?_ | refine RL_skipU rfl rfl rfl ?_
  refine RL_set 112 (v' := .bool true) rfl ((congrArg Value.bool (by kernel_rfl))) ?_
  first | refine L_pick_t rfl rfl rfl ?_ | refine L_pick_f rfl rfl rfl ?_
  refine L_move rfl rfl ?_
  first | (refine RL_want rfl rfl ?_; refine L_move rfl rfl ?_) | refine RL_skip rfl rfl rfl rfl ?_ | refine RL_skipU rfl rfl rfl ?_
  first | refine L_pick_t rfl rfl rfl ?_ | refine L_pick_f rfl rfl rfl ?_
  refine L_move rfl rfl ?_
  first | (refine RL_want rfl rfl ?_; refine L_move rfl rfl ?_) | refine RL_skip rfl rfl rfl rfl ?_ | refine RL_skipU rfl rfl rfl ?_
  first | (refine RL_want rfl rfl ?_; (first | refine L_eql rfl rfl rfl (dtrue (by omega)) ?_ | refine L_eql rfl rfl rfl (dfalse (by omega)) ?_ | refine L_eql rfl rfl rfl rfl ?_)) | refine RL_skip rfl rfl rfl rfl ?_ | refine RL_skipU rfl rfl rfl ?_
  first | refine L_pick_t rfl rfl rfl ?_ | refine L_pick_f rfl rfl rfl ?_
  refine L_move rfl rfl ?_
  first | (refine RL_want rfl rfl ?_; refine L_move rfl rfl ?_) | refine RL_skip rfl rfl rfl rfl ?_ | refine RL_skipU rfl rfl rfl ?_
  first | (refine RL_want rfl rfl ?_; (first | refine L_eql rfl rfl rfl (dtrue (by omega)) ?_ | refine L_eql rfl rfl rfl (dfalse (by omega)) ?_ | refine L_eql rfl rfl rfl rfl ?_)) | refine RL_skip rfl rfl rfl rfl ?_ | refine RL_skipU rfl rfl rfl ?_
  first | refine L_pick_t rfl rfl rfl ?_ | refine L_pick_f rfl rfl rfl ?_
  refine L_move rfl rfl ?_
  first | (refine RL_want rfl rfl ?_; refine L_move rfl rfl ?_) | refine RL_skip rfl rfl rfl rfl ?_ | refine RL_skipU rfl rfl rfl ?_
  first | (refine RL_want rfl rfl ?_; (first | refine L_eql rfl rfl rfl (dtrue (by omega)) ?_ | refine L_eql rfl rfl rfl (dfalse (by omega)) ?_ | refine L_eql rfl rfl rfl rfl ?_)) | refine RL_skip rfl rfl rfl rfl ?_ | refine RL_skipU rfl rfl rfl ?_
  first | refine L_pick_t rfl rfl rfl ?_ | refine L_pick_f rfl rfl rfl ?_
  refine L_move rfl rfl ?_
  first | (refine RL_want rfl rfl ?_; refine L_move rfl rfl ?_) | refine RL_skip rfl rfl rfl rfl ?_ | refine RL_skipU rfl rfl rfl ?_
  first | (refine RL_want rfl rfl ?_; (first | refine L_eql rfl rfl rfl (dtrue (by omega)) ?_ | refine L_eql rfl rfl rfl (dfalse (by omega)) ?_ | refine L_eql rfl rfl rfl rfl ?_)) | refine RL_skip rfl rfl rfl rfl ?_ | refine RL_skipU rfl rfl rfl ?_
  first | refine L_pick_t rfl rfl rfl ?_ | refine L_pick_f rfl rfl rfl ?_
  refine L_move rfl rfl ?_
  first | (refine RL_want rfl rfl ?_; refine L_move rfl rfl ?_) | refine RL_skip rfl rfl rfl rfl ?_ | refine RL_skipU rfl rfl rfl ?_
  first | (refine RL_want rfl rfl ?_; refine L_len rfl Try.underlying47 rfl ?_) | refine RL_skip rfl rfl rfl rfl ?_ | refine RL_skipU rfl rfl rfl ?_
  first | (refine RL_want rfl rfl ?_; (first | refine L_eql rfl rfl rfl (dtrue (by omega)) ?_ | refine L_eql rfl rfl rfl (dfalse (by omega)) ?_ | refine L_eql rfl rfl rfl rfl ?_)) | refine RL_skip rfl rfl rfl rfl ?_ | refine RL_skipU rfl rfl rfl ?_
  first | refine L_pick_t rfl rfl rfl ?_ | refine L_pick_f rfl rfl rfl ?_
  refine L_move rfl rfl ?_
  first | (refine RL_want rfl rfl ?_; refine L_move rfl rfl ?_) | refine RL_skip rfl rfl rfl rfl ?_ | refine RL_skipU rfl rfl rfl ?_
  first | (refine RL_want rfl rfl ?_; (first | refine L_eql rfl rfl rfl (dtrue (by omega)) ?_ | refine L_eql rfl rfl rfl (dfalse (by omega)) ?_ | refine L_eql rfl rfl rfl rfl ?_)) | refine RL_skip rfl rfl rfl rfl ?_ | refine RL_skipU rfl rfl rfl ?_
  first | refine L_pick_t rfl rfl rfl ?_ | refine L_pick_f rfl rfl rfl ?_
  refine L_move rfl rfl ?_
  first | (refine RL_want rfl rfl ?_; refine L_move rfl rfl ?_) | refine RL_skip rfl rfl rfl rfl ?_ | refine RL_skipU rfl rfl rfl ?_
  first | (refine RL_want rfl rfl ?_; (first | refine L_eql rfl rfl rfl (dtrue (by omega)) ?_ | refine L_eql rfl rfl rfl (dfalse (by omega)) ?_ | refine L_eql rfl rfl rfl rfl ?_)) | refine RL_skip rfl rfl rfl rfl ?_ | refine RL_skipU rfl rfl rfl ?_
  first | refine L_pick_t rfl rfl rfl ?_ | refine L_pick_f rfl rfl rfl ?_
  refine L_move rfl rfl ?_
  first | (refine RL_want rfl rfl ?_; refine L_move rfl rfl ?_) | refine RL_skip rfl rfl rfl rfl ?_ | refine RL_skipU rfl rfl rfl ?_
  first | (refine RL_want rfl rfl ?_; (first | refine L_eql rfl rfl rfl (dtrue (by omega)) ?_ | refine L_eql rfl rfl rfl (dfalse (by omega)) ?_ | refine L_eql rfl rfl rfl rfl ?_)) | refine RL_skip rfl rfl rfl rfl ?_ | refine RL_skipU rfl rfl rfl ?_
  first | refine L_pick_t rfl rfl rfl ?_ | refine L_pick_f rfl rfl rfl ?_
  refine L_move rfl rfl ?_
  first | (refine RL_want rfl rfl ?_; refine L_move rfl rfl ?_) | refine RL_skip rfl rfl rfl rfl ?_ | refine RL_skipU rfl rfl rfl ?_
  refine RL_want rfl rfl ?_
  refine L_call rfl Try.fun17 rfl (inG w0 w16 B far10 v3 M3 [] 2 m [] 1 [⟨2, ⟨#[97]⟩, sqP, zv3, zM3⟩] 9 (by rw [List.append_nil]; exact hs) hN (by decide)) ?_
  rintro _ w17 ⟨N, hs', hn⟩
  obtain ⟨a', c', rfl, _⟩ := hn.slice
  rw [show (inL [] 9).length = 0 from rfl]
  have hs2 := HS.dropR hs' hn.own
  rw [List.append_nil] at hs2
  clear hs hs' hn
  have hs := hs2
  clear hs2
  first | (refine RL_want rfl rfl ?_; refine L_len rfl Try.underlying38 rfl ?_) | refine RL_skip rfl rfl rfl rfl ?_ | refine RL_skipU rfl rfl rfl ?_
  first | (refine RL_want rfl rfl ?_; (first | refine L_eql rfl rfl rfl (dtrue (by omega)) ?_ | refine L_eql rfl rfl rfl (dfalse (by omega)) ?_ | refine L_eql rfl rfl rfl rfl ?_)) | refine RL_skip rfl rfl rfl rfl ?_ | refine RL_skipU rfl rfl rfl ?_
  first | refine L_pick_t rfl rfl rfl ?_ | refine L_pick_f rfl rfl rfl ?_
  refine L_move rfl rfl ?_
  first | (refine RL_want rfl rfl ?_; refine L_move rfl rfl ?_) | refine RL_skip rfl rfl rfl rfl ?_ | refine RL_skipU rfl rfl rfl ?_
  first | (refine RL_want rfl rfl ?_; (first | refine L_eql rfl rfl rfl (dtrue (by omega)) ?_ | refine L_eql rfl rfl rfl (dfalse (by omega)) ?_ | refine L_eql rfl rfl rfl rfl ?_)) | refine RL_skip rfl rfl rfl rfl ?_ | refine RL_skipU rfl rfl rfl ?_
  first | refine L_pick_t rfl rfl rfl ?_ | refine L_pick_f rfl rfl rfl ?_
  refine L_move rfl rfl ?_
  first | (refine RL_want rfl rfl ?_; refine L_move rfl rfl ?_) | refine RL_skip rfl rfl rfl rfl ?_ | refine RL_skipU rfl rfl rfl ?_
  refine RL_want rfl rfl ?_
  refine L_call rfl Try.fun30 rfl (drop_nil 1 w17) ?_
  rintro _ w18 ⟨rfl, hs'⟩
  have hs2 := hs.nil hs'
  clear hs hs'
  have hs := hs2
  clear hs2
  first | (refine RL_want rfl rfl ?_; (first | refine L_eql rfl rfl rfl (dtrue (by omega)) ?_ | refine L_eql rfl rfl rfl (dfalse (by omega)) ?_ | refine L_eql rfl rfl rfl rfl ?_)) | refine RL_skip rfl rfl rfl rfl ?_ | refine RL_skipU rfl rfl rfl ?_
  first | refine L_pick_t rfl rfl rfl ?_ | refine L_pick_f rfl rfl rfl ?_
  refine L_move rfl rfl ?_
  first | (refine RL_want rfl rfl ?_; refine L_move rfl rfl ?_) | refine RL_skip rfl rfl rfl rfl ?_ | refine RL_skipU rfl rfl rfl ?_
  refine RL_want rfl rfl ?_
  refine L_call rfl Try.fun15 rfl (watch_nil 4607182418800017408 none 0 0 w18) ?_
  rintro _ w19 ⟨rfl, hs'⟩
  have hs2 := hs.nil hs'
  clear hs hs'
  have hs := hs2
  clear hs2
  first | (refine RL_want rfl rfl ?_; refine L_len rfl Try.underlying47 rfl ?_) | refine RL_skip rfl rfl rfl rfl ?_ | refine RL_skipU rfl rfl rfl ?_
  first | (refine RL_want rfl rfl ?_; (first | refine L_eql rfl rfl rfl (dtrue (by omega)) ?_ | refine L_eql rfl rfl rfl (dfalse (by omega)) ?_ | refine L_eql rfl rfl rfl rfl ?_)) | refine RL_skip rfl rfl rfl rfl ?_ | refine RL_skipU rfl rfl rfl ?_
  first | refine L_pick_t rfl rfl rfl ?_ | refine L_pick_f rfl rfl rfl ?_
  refine L_move rfl rfl ?_
  first | (refine RL_want rfl rfl ?_; refine L_move rfl rfl ?_) | refine RL_skip rfl rfl rfl rfl ?_ | refine RL_skipU rfl rfl rfl ?_
  refine RL_want rfl rfl ?_
  refine L_call rfl Try.fun17 rfl (in_nil 1 w19) ?_
  rintro _ w20 ⟨rfl, hs'⟩
  have hs2 := hs.nil hs'
  clear hs hs'
  have hs := hs2
  clear hs2
  first | (refine RL_want rfl rfl ?_; refine L_len rfl Try.underlying38 rfl ?_) | refine RL_skip rfl rfl rfl rfl ?_ | refine RL_skipU rfl rfl rfl ?_
  first | (refine RL_want rfl rfl ?_; (first | refine L_eql rfl rfl rfl (dtrue (by omega)) ?_ | refine L_eql rfl rfl rfl (dfalse (by omega)) ?_ | refine L_eql rfl rfl rfl rfl ?_)) | refine RL_skip rfl rfl rfl rfl ?_ | refine RL_skipU rfl rfl rfl ?_
  first | refine L_pick_t rfl rfl rfl ?_ | refine L_pick_f rfl rfl rfl ?_
  refine L_move rfl rfl ?_
  refine RL_want rfl rfl ?_
  refine L_call rfl Try.fun8 rfl (works_ok w20) ?_
  rintro _ w21 ⟨rfl, hs'⟩
  have hs2 := hs.nil hs'
  clear hs hs'
  have hs := hs2
  clear hs2
  first | refine L_pick_t rfl rfl rfl ?_ | refine L_pick_f rfl rfl rfl ?_
  refine L_assign rfl rfl ?_
  refine RL_then ?_
  refine W_ret' ?_
  refine Ex_done1 rfl rfl ?_
  exact ⟨_, rfl, rfl, hs.forget hN.owns⟩
end Go.Proofs.Ytoiobncojfeoiaa
