/-
  A part of the proof: what functions that the statement reaches do, or a plain law on what they do. Each theorem holds under its own premises alone.
-/
import Derived.Test.YtcfdmenmlemahaaTG12
import Derived.Test.YtcfdmenmlemahaaTYS
namespace Go.Proofs.Ytcfdmenmlemahaa
open Go Go.Lk Go.Pr
set_option maxHeartbeats 1000000 in
theorem known_ok (w0 : World) : Ret Try.prog 7 [] w0 fun v w' => v = .bool true ∧ HS w0 w' [] := by
  refine Ret.start fun w hs => ?_
  refine calls_of_W Try.func7 rfl rfl rfl ?_
  refine W_seq ?_
  refine W_region ?_
  refine L_assign rfl rfl ?_
  refine RL_then ?_
  refine W_seq ?_
  refine W_region ?_
  refine L_buildSlice1 rfl hs Try.underlying38 Try.ti2 rfl (by decide) rfl rfl ?_
  intro b38 w hb38 hnb38 hs
  simp only [List.map_cons, List.map_nil] at hs
  try dsimp only [List.set_cons_succ, List.set_cons_zero, List.cons_append, List.nil_append] at hs
  refine L_buildSlice1 rfl hs Try.underlying38 Try.ti2 rfl (by decide) rfl rfl ?_
  intro b39 w hb39 hnb39 hs
  simp only [List.map_cons, List.map_nil] at hs
  try dsimp only [List.set_cons_succ, List.set_cons_zero, List.cons_append, List.nil_append] at hs
  refine L_buildSlice1 rfl hs Try.underlying22 Try.ti38 rfl (by decide) rfl rfl ?_
  intro b40 w hb40 hnb40 hs
  simp only [List.map_cons, List.map_nil] at hs
  try dsimp only [List.set_cons_succ, List.set_cons_zero, List.cons_append, List.nil_append] at hs
  have hr : RowsI w (some ⟨b40, 0, none⟩) [[1, 1], [1, 1]] _ := rowsI_two (hs.get (i := 0) rfl) (hs.get (i := 1) rfl) (hs.get (i := 2) rfl) (by decide) (by decide)
  refine L_call rfl Try.fun10 rfl (least_ok (some ⟨b40, 0, none⟩) 2 2 _ _ w hr rfl (by omega)) ?_
  rintro _ w1 ⟨v1, N1, ms, t, e, rfl, hs1, hbl1, hans⟩
  obtain ⟨rfl, rfl, rfl⟩ := l_known1 hans
  obtain ⟨qA, cA, rfl, _⟩ := hbl1.slice
  have hx : HS w0 w1 [] := (hs.forget (Own.cons hb38 (Own.cons hb39 (Own.cons hb40 Own.nil)))).nil (hs1.forget hbl1.own)
  have hslA : SlC w1 qA (il [0, 1]) := hbl1.slc (L := []) hs1
  have h1 : HS w0 w1 [] := hx
  clear hs hr hans hs1 hx hbl1
  have hs := HS.refl w1
  refine L_move rfl rfl ?_
  refine L_extract rfl rfl rfl ?_
  refine L_extract rfl rfl rfl ?_
  refine L_extract rfl rfl rfl ?_
  refine L_assign rfl rfl ?_
  refine L_assign rfl rfl ?_
  refine L_assign rfl rfl ?_
  refine RL_then ?_
  refine W_seq ?_
  refine W_region ?_
  refine L_buildSlice1 rfl hs Try.underlying38 Try.ti2 rfl (by decide) rfl rfl ?_
  intro b46 w hb46 hnb46 hs
  simp only [List.map_cons, List.map_nil] at hs
  try dsimp only [List.set_cons_succ, List.set_cons_zero, List.cons_append, List.nil_append] at hs
  refine L_buildSlice1 rfl hs Try.underlying38 Try.ti2 rfl (by decide) rfl rfl ?_
  intro b47 w hb47 hnb47 hs
  simp only [List.map_cons, List.map_nil] at hs
  try dsimp only [List.set_cons_succ, List.set_cons_zero, List.cons_append, List.nil_append] at hs
  refine L_buildSlice1 rfl hs Try.underlying22 Try.ti38 rfl (by decide) rfl rfl ?_
  intro b48 w hb48 hnb48 hs
  simp only [List.map_cons, List.map_nil] at hs
  try dsimp only [List.set_cons_succ, List.set_cons_zero, List.cons_append, List.nil_append] at hs
  have hr : RowsI w (some ⟨b48, 0, none⟩) [[5, -1], [3, -1]] _ := rowsI_two (hs.get (i := 0) rfl) (hs.get (i := 1) rfl) (hs.get (i := 2) rfl) (by decide) (by decide)
  refine L_call rfl Try.fun10 rfl (least_ok (some ⟨b48, 0, none⟩) 2 2 _ _ w hr rfl (by omega)) ?_
  rintro _ w2 ⟨v1, N1, ms, t, e, rfl, hs1, hbl1, hans⟩
  obtain rfl := l_known2 hans
  have hx : HS w1 w2 [] := (hs.forget (Own.cons hb46 (Own.cons hb47 (Own.cons hb48 Own.nil)))).nil (hs1.forget hbl1.own)
  have h2 : HS w0 w2 [] := h1.nil hx
  replace hslA := hslA.old hx Own.nil
  clear hs hr hans hs1 hx hbl1
  have hs := HS.refl w2
  refine L_move rfl rfl ?_
  refine L_extract rfl rfl rfl ?_
  refine L_extract rfl rfl rfl ?_
  refine L_extract rfl rfl rfl ?_
  refine L_assign rfl rfl ?_
  refine L_assign rfl rfl ?_
  refine L_assign rfl rfl ?_
  refine RL_then ?_
  refine W_seq ?_
  refine W_region ?_
  refine L_buildSlice1 rfl hs Try.underlying38 Try.ti2 rfl (by decide) rfl rfl ?_
  intro b54 w hb54 hnb54 hs
  simp only [List.map_cons, List.map_nil] at hs
  try dsimp only [List.set_cons_succ, List.set_cons_zero, List.cons_append, List.nil_append] at hs
  refine L_buildSlice1 rfl hs Try.underlying38 Try.ti2 rfl (by decide) rfl rfl ?_
  intro b55 w hb55 hnb55 hs
  simp only [List.map_cons, List.map_nil] at hs
  try dsimp only [List.set_cons_succ, List.set_cons_zero, List.cons_append, List.nil_append] at hs
  refine L_buildSlice1 rfl hs Try.underlying22 Try.ti38 rfl (by decide) rfl rfl ?_
  intro b56 w hb56 hnb56 hs
  simp only [List.map_cons, List.map_nil] at hs
  try dsimp only [List.set_cons_succ, List.set_cons_zero, List.cons_append, List.nil_append] at hs
  have hr : RowsI w (some ⟨b56, 0, none⟩) [[5, -1], [5, -1]] _ := rowsI_two (hs.get (i := 0) rfl) (hs.get (i := 1) rfl) (hs.get (i := 2) rfl) (by decide) (by decide)
  refine L_call rfl Try.fun13 rfl (most_ok (some ⟨b56, 0, none⟩) 2 2 _ _ w hr rfl (by omega)) ?_
  rintro _ w3 ⟨v1, N1, ms, cnt, t, e, rfl, hs1, hbl1, hans⟩
  obtain ⟨rfl, rfl, rfl, rfl⟩ := m_known hans
  obtain ⟨qB, cB, rfl, _⟩ := hbl1.slice
  have hx : HS w2 w3 [] := (hs.forget (Own.cons hb54 (Own.cons hb55 (Own.cons hb56 Own.nil)))).nil (hs1.forget hbl1.own)
  have hslB : SlC w3 qB (il [0, -1]) := hbl1.slc (L := []) hs1
  have h3 : HS w0 w3 [] := h2.nil hx
  replace hslA := hslA.old hx Own.nil
  clear hs hr hans hs1 hx hbl1
  have hs := HS.refl w3
  refine L_move rfl rfl ?_
  refine L_extract rfl rfl rfl ?_
  refine L_extract rfl rfl rfl ?_
  refine L_extract rfl rfl rfl ?_
  refine L_extract rfl rfl rfl ?_
  refine L_assign rfl rfl ?_
  refine L_assign rfl rfl ?_
  refine L_assign rfl rfl ?_
  refine L_assign rfl rfl ?_
  refine RL_then ?_
  refine W_seq ?_
  refine W_region ?_
  refine L_buildSlice1 rfl hs Try.underlying38 Try.ti2 rfl (by decide) rfl rfl ?_
  intro b63 w hb63 hnb63 hs
  simp only [List.map_cons, List.map_nil] at hs
  try dsimp only [List.set_cons_succ, List.set_cons_zero, List.cons_append, List.nil_append] at hs
  refine L_buildSlice1 rfl hs Try.underlying38 Try.ti2 rfl (by decide) rfl rfl ?_
  intro b64 w hb64 hnb64 hs
  simp only [List.map_cons, List.map_nil] at hs
  try dsimp only [List.set_cons_succ, List.set_cons_zero, List.cons_append, List.nil_append] at hs
  refine L_buildSlice1 rfl hs Try.underlying38 Try.ti2 rfl (by decide) rfl rfl ?_
  intro b65 w hb65 hnb65 hs
  simp only [List.map_cons, List.map_nil] at hs
  try dsimp only [List.set_cons_succ, List.set_cons_zero, List.cons_append, List.nil_append] at hs
  refine L_buildSlice1 rfl hs Try.underlying22 Try.ti38 rfl (by decide) rfl rfl ?_
  intro b66 w hb66 hnb66 hs
  simp only [List.map_cons, List.map_nil] at hs
  try dsimp only [List.set_cons_succ, List.set_cons_zero, List.cons_append, List.nil_append] at hs
  have hr : RowsI w (some ⟨b66, 0, none⟩) [[1, 2], [3, 4], [5, 6]] _ := rowsI_three (hs.get (i := 0) rfl) (hs.get (i := 1) rfl) (hs.get (i := 2) rfl) (hs.get (i := 3) rfl) (by decide) (by decide) (by decide)
  refine L_call rfl Try.fun10 rfl (least_ok (some ⟨b66, 0, none⟩) 3 3 _ _ w hr rfl (by omega)) ?_
  rintro _ w4 ⟨v1, N1, ms, t, e, rfl, hs1, hbl1, hans⟩
  obtain rfl := l_known3 hans
  have hx : HS w3 w4 [] := (hs.forget (Own.cons hb63 (Own.cons hb64 (Own.cons hb65 (Own.cons hb66 Own.nil))))).nil (hs1.forget hbl1.own)
  have h4 : HS w0 w4 [] := h3.nil hx
  replace hslA := hslA.old hx Own.nil
  replace hslB := hslB.old hx Own.nil
  clear hs hr hans hs1 hx hbl1
  have hs := HS.refl w4
  refine L_move rfl rfl ?_
  refine L_extract rfl rfl rfl ?_
  refine L_extract rfl rfl rfl ?_
  refine L_extract rfl rfl rfl ?_
  refine L_assign rfl rfl ?_
  refine L_assign rfl rfl ?_
  refine L_assign rfl rfl ?_
  refine RL_then ?_
  refine W_seq ?_
  refine W_region ?_
  have hr : RowsI w4 none ([] : List (List Int)) [] := ⟨⟨fun h => by simp at h, fun j v hv => by simp at hv⟩, rfl, fun i hi => absurd hi (Nat.not_lt_zero _)⟩
  refine L_call rfl Try.fun10 rfl (least_ok none 0 0 _ _ w4 hr rfl (by omega)) ?_
  rintro _ w5 ⟨v1, N1, ms, t, e, rfl, hs1, hbl1, hans⟩
  obtain ⟨rfl, rfl, rfl⟩ := l_known4 hans
  obtain ⟨qC, cC, rfl, _⟩ := hbl1.slice
  have hx : HS w4 w5 [] := (hs.forget Own.nil).nil (hs1.forget hbl1.own)
  have hslC : SlC w5 qC (il []) := hbl1.slc (L := []) hs1
  have h5 : HS w0 w5 [] := h4.nil hx
  replace hslA := hslA.old hx Own.nil
  replace hslB := hslB.old hx Own.nil
  clear hs hr hans hs1 hx hbl1
  have hs := HS.refl w5
  refine L_move rfl rfl ?_
  refine L_extract rfl rfl rfl ?_
  refine L_extract rfl rfl rfl ?_
  refine L_extract rfl rfl rfl ?_
  refine L_assign rfl rfl ?_
  refine L_assign rfl rfl ?_
  refine L_assign rfl rfl ?_
  refine RL_then ?_
  refine W_seq ?_
  refine W_region ?_
  refine L_buildSlice1 rfl hs Try.underlying38 Try.ti2 rfl (by decide) rfl rfl ?_
  intro b77 w hb77 hnb77 hs
  simp only [List.map_nil] at hs
  try dsimp only [List.set_cons_succ, List.set_cons_zero, List.cons_append, List.nil_append] at hs
  refine L_buildSlice1 rfl hs Try.underlying38 Try.ti2 rfl (by decide) rfl rfl ?_
  intro b78 w hb78 hnb78 hs
  simp only [List.map_nil] at hs
  try dsimp only [List.set_cons_succ, List.set_cons_zero, List.cons_append, List.nil_append] at hs
  refine L_buildSlice1 rfl hs Try.underlying22 Try.ti38 rfl (by decide) rfl rfl ?_
  intro b79 w hb79 hnb79 hs
  simp only [List.map_cons, List.map_nil] at hs
  try dsimp only [List.set_cons_succ, List.set_cons_zero, List.cons_append, List.nil_append] at hs
  have hr : RowsI w (some ⟨b79, 0, none⟩) [[], []] _ := rowsI_two (hs.get (i := 0) rfl) (hs.get (i := 1) rfl) (hs.get (i := 2) rfl) (by decide) (by decide)
  refine L_call rfl Try.fun13 rfl (most_ok (some ⟨b79, 0, none⟩) 2 2 _ _ w hr rfl (by omega)) ?_
  rintro _ w6 ⟨v1, N1, ms, cnt, t, e, rfl, hs1, hbl1, hans⟩
  obtain ⟨rfl, rfl, rfl⟩ := m_known2 hans
  obtain ⟨qD, cD, rfl, _⟩ := hbl1.slice
  have hx : HS w5 w6 [] := (hs.forget (Own.cons hb77 (Own.cons hb78 (Own.cons hb79 Own.nil)))).nil (hs1.forget hbl1.own)
  have hslD : SlC w6 qD (il [-1, -1]) := hbl1.slc (L := []) hs1
  have h6 : HS w0 w6 [] := h5.nil hx
  replace hslA := hslA.old hx Own.nil
  replace hslB := hslB.old hx Own.nil
  replace hslC := hslC.old hx Own.nil
  clear hs hr hans hs1 hx hbl1
  have hs := HS.refl w6
  refine L_move rfl rfl ?_
  refine L_extract rfl rfl rfl ?_
  refine L_extract rfl rfl rfl ?_
  refine L_extract rfl rfl rfl ?_
  refine L_extract rfl rfl rfl ?_
  refine L_assign rfl rfl ?_
  refine L_assign rfl rfl ?_
  refine L_assign rfl rfl ?_
  refine L_assign rfl rfl ?_
  refine RL_then ?_
  refine W_seq ?_
  refine W_region ?_
  refine L_buildSlice1 rfl hs Try.underlying38 Try.ti2 rfl (by decide) rfl rfl ?_
  intro b86 w hb86 hnb86 hs
  simp only [List.map_cons, List.map_nil] at hs
  try dsimp only [List.set_cons_succ, List.set_cons_zero, List.cons_append, List.nil_append] at hs
  refine L_buildSlice1 rfl hs Try.underlying38 Try.ti2 rfl (by decide) rfl rfl ?_
  intro b87 w hb87 hnb87 hs
  simp only [List.map_cons, List.map_nil] at hs
  try dsimp only [List.set_cons_succ, List.set_cons_zero, List.cons_append, List.nil_append] at hs
  refine L_buildSlice1 rfl hs Try.underlying22 Try.ti38 rfl (by decide) rfl rfl ?_
  intro b88 w hb88 hnb88 hs
  simp only [List.map_cons, List.map_nil] at hs
  try dsimp only [List.set_cons_succ, List.set_cons_zero, List.cons_append, List.nil_append] at hs
  refine L_buildSlice1 rfl hs Try.underlying25 Try.ti3 rfl (by decide) rfl rfl ?_
  intro b89 w hb89 hnb89 hs
  simp only [List.map_cons, List.map_nil] at hs
  try dsimp only [List.set_cons_succ, List.set_cons_zero, List.cons_append, List.nil_append] at hs
  have hr : RowsI w (some ⟨b88, 0, none⟩) [[4, 1], [2, 0]] _ := rowsI_two (hs.get (i := 0) rfl) (hs.get (i := 1) rfl) (hs.get (i := 2) rfl) (by decide) (by decide)
  refine L_call rfl Try.fun19 rfl (total_ok (some ⟨b88, 0, none⟩) 2 2 _ _ (some ⟨b89, 0, none⟩) 2 2 [1, 0] w hr rfl (by omega) (SlC.of_row (sp := []) (hs.get (i := 3) rfl)) rfl) ?_
  rintro _ w7 ⟨t, e, rfl, hs1, hans⟩
  obtain ⟨rfl, rfl⟩ := t_known1 hans
  have hx : HS w6 w7 [] := (hs.forget (Own.cons hb86 (Own.cons hb87 (Own.cons hb88 (Own.cons hb89 Own.nil))))).nil hs1
  have h7 : HS w0 w7 [] := h6.nil hx
  replace hslA := hslA.old hx Own.nil
  replace hslB := hslB.old hx Own.nil
  replace hslC := hslC.old hx Own.nil
  replace hslD := hslD.old hx Own.nil
  clear hs hr hans hs1 hx
  have hs := HS.refl w7
  refine L_move rfl rfl ?_
  refine L_extract rfl rfl rfl ?_
  refine L_extract rfl rfl rfl ?_
  refine L_assign rfl rfl ?_
  refine L_assign rfl rfl ?_
  refine RL_then ?_
  refine W_seq ?_
  refine W_region ?_
  refine L_buildSlice1 rfl hs Try.underlying38 Try.ti2 rfl (by decide) rfl rfl ?_
  intro b94 w hb94 hnb94 hs
  simp only [List.map_cons, List.map_nil] at hs
  try dsimp only [List.set_cons_succ, List.set_cons_zero, List.cons_append, List.nil_append] at hs
  refine L_buildSlice1 rfl hs Try.underlying38 Try.ti2 rfl (by decide) rfl rfl ?_
  intro b95 w hb95 hnb95 hs
  simp only [List.map_cons, List.map_nil] at hs
  try dsimp only [List.set_cons_succ, List.set_cons_zero, List.cons_append, List.nil_append] at hs
  refine L_buildSlice1 rfl hs Try.underlying22 Try.ti38 rfl (by decide) rfl rfl ?_
  intro b96 w hb96 hnb96 hs
  simp only [List.map_cons, List.map_nil] at hs
  try dsimp only [List.set_cons_succ, List.set_cons_zero, List.cons_append, List.nil_append] at hs
  refine L_buildSlice1 rfl hs Try.underlying25 Try.ti3 rfl (by decide) rfl rfl ?_
  intro b97 w hb97 hnb97 hs
  simp only [List.map_cons, List.map_nil] at hs
  try dsimp only [List.set_cons_succ, List.set_cons_zero, List.cons_append, List.nil_append] at hs
  have hr : RowsI w (some ⟨b96, 0, none⟩) [[4, 1], [2, 0]] _ := rowsI_two (hs.get (i := 0) rfl) (hs.get (i := 1) rfl) (hs.get (i := 2) rfl) (by decide) (by decide)
  refine L_call rfl Try.fun19 rfl (total_ok (some ⟨b96, 0, none⟩) 2 2 _ _ (some ⟨b97, 0, none⟩) 2 2 [1, 1] w hr rfl (by omega) (SlC.of_row (sp := []) (hs.get (i := 3) rfl)) rfl) ?_
  rintro _ w8 ⟨t, e, rfl, hs1, hans⟩
  obtain rfl := t_known2 hans
  have hx : HS w7 w8 [] := (hs.forget (Own.cons hb94 (Own.cons hb95 (Own.cons hb96 (Own.cons hb97 Own.nil))))).nil hs1
  have h8 : HS w0 w8 [] := h7.nil hx
  replace hslA := hslA.old hx Own.nil
  replace hslB := hslB.old hx Own.nil
  replace hslC := hslC.old hx Own.nil
  replace hslD := hslD.old hx Own.nil
  clear hs hr hans hs1 hx
  have hs := HS.refl w8
  refine L_move rfl rfl ?_
  refine L_extract rfl rfl rfl ?_
  refine L_extract rfl rfl rfl ?_
  refine L_assign rfl rfl ?_
  refine L_assign rfl rfl ?_
  refine RL_then ?_
  refine W_seq ?_
  refine W_region ?_
  refine L_buildSlice1 rfl hs Try.underlying38 Try.ti2 rfl (by decide) rfl rfl ?_
  intro b102 w hb102 hnb102 hs
  simp only [List.map_cons, List.map_nil] at hs
  try dsimp only [List.set_cons_succ, List.set_cons_zero, List.cons_append, List.nil_append] at hs
  refine L_buildSlice1 rfl hs Try.underlying38 Try.ti2 rfl (by decide) rfl rfl ?_
  intro b103 w hb103 hnb103 hs
  simp only [List.map_cons, List.map_nil] at hs
  try dsimp only [List.set_cons_succ, List.set_cons_zero, List.cons_append, List.nil_append] at hs
  refine L_buildSlice1 rfl hs Try.underlying22 Try.ti38 rfl (by decide) rfl rfl ?_
  intro b104 w hb104 hnb104 hs
  simp only [List.map_cons, List.map_nil] at hs
  try dsimp only [List.set_cons_succ, List.set_cons_zero, List.cons_append, List.nil_append] at hs
  refine L_buildSlice1 rfl hs Try.underlying25 Try.ti3 rfl (by decide) rfl rfl ?_
  intro b105 w hb105 hnb105 hs
  simp only [List.map_cons, List.map_nil] at hs
  try dsimp only [List.set_cons_succ, List.set_cons_zero, List.cons_append, List.nil_append] at hs
  have hr : RowsI w (some ⟨b104, 0, none⟩) [[4, 1], [2, 0]] _ := rowsI_two (hs.get (i := 0) rfl) (hs.get (i := 1) rfl) (hs.get (i := 2) rfl) (by decide) (by decide)
  refine L_call rfl Try.fun19 rfl (total_ok (some ⟨b104, 0, none⟩) 2 2 _ _ (some ⟨b105, 0, none⟩) 1 1 [0] w hr rfl (by omega) (SlC.of_row (sp := []) (hs.get (i := 3) rfl)) rfl) ?_
  rintro _ w9 ⟨t, e, rfl, hs1, hans⟩
  obtain rfl := t_known3 hans
  have hx : HS w8 w9 [] := (hs.forget (Own.cons hb102 (Own.cons hb103 (Own.cons hb104 (Own.cons hb105 Own.nil))))).nil hs1
  have h9 : HS w0 w9 [] := h8.nil hx
  replace hslA := hslA.old hx Own.nil
  replace hslB := hslB.old hx Own.nil
  replace hslC := hslC.old hx Own.nil
  replace hslD := hslD.old hx Own.nil
  clear hs hr hans hs1 hx
  have hs := HS.refl w9
  refine L_move rfl rfl ?_
  refine L_extract rfl rfl rfl ?_
  refine L_extract rfl rfl rfl ?_
  refine L_assign rfl rfl ?_
  refine L_assign rfl rfl ?_
  refine RL_then ?_
  refine W_seq ?_
  refine W_region ?_
  refine L_buildSlice1 rfl hs Try.underlying38 Try.ti2 rfl (by decide) rfl rfl ?_
  intro b110 w hb110 hnb110 hs
  simp only [List.map_cons, List.map_nil] at hs
  try dsimp only [List.set_cons_succ, List.set_cons_zero, List.cons_append, List.nil_append] at hs
  refine L_buildSlice1 rfl hs Try.underlying38 Try.ti2 rfl (by decide) rfl rfl ?_
  intro b111 w hb111 hnb111 hs
  simp only [List.map_cons, List.map_nil] at hs
  try dsimp only [List.set_cons_succ, List.set_cons_zero, List.cons_append, List.nil_append] at hs
  refine L_buildSlice1 rfl hs Try.underlying22 Try.ti38 rfl (by decide) rfl rfl ?_
  intro b112 w hb112 hnb112 hs
  simp only [List.map_cons, List.map_nil] at hs
  try dsimp only [List.set_cons_succ, List.set_cons_zero, List.cons_append, List.nil_append] at hs
  refine L_buildSlice1 rfl hs Try.underlying25 Try.ti3 rfl (by decide) rfl rfl ?_
  intro b113 w hb113 hnb113 hs
  simp only [List.map_cons, List.map_nil] at hs
  try dsimp only [List.set_cons_succ, List.set_cons_zero, List.cons_append, List.nil_append] at hs
  have hr : RowsI w (some ⟨b112, 0, none⟩) [[4, 1], [2, 0]] _ := rowsI_two (hs.get (i := 0) rfl) (hs.get (i := 1) rfl) (hs.get (i := 2) rfl) (by decide) (by decide)
  refine L_call rfl Try.fun19 rfl (total_ok (some ⟨b112, 0, none⟩) 2 2 _ _ (some ⟨b113, 0, none⟩) 2 2 [-1, 0] w hr rfl (by omega) (SlC.of_row (sp := []) (hs.get (i := 3) rfl)) rfl) ?_
  rintro _ w10 ⟨t, e, rfl, hs1, hans⟩
  obtain ⟨rfl, rfl⟩ := t_known4 hans
  have hx : HS w9 w10 [] := (hs.forget (Own.cons hb110 (Own.cons hb111 (Own.cons hb112 (Own.cons hb113 Own.nil))))).nil hs1
  have h10 : HS w0 w10 [] := h9.nil hx
  replace hslA := hslA.old hx Own.nil
  replace hslB := hslB.old hx Own.nil
  replace hslC := hslC.old hx Own.nil
  replace hslD := hslD.old hx Own.nil
  clear hs hr hans hs1 hx
  have hs := HS.refl w10
  refine L_move rfl rfl ?_
  refine L_extract rfl rfl rfl ?_
  refine L_extract rfl rfl rfl ?_
  refine L_assign rfl rfl ?_
  refine L_assign rfl rfl ?_
  refine RL_then ?_
  refine W_seq ?_
  refine W_region ?_
  refine L_buildSlice1 rfl hs Try.underlying38 Try.ti2 rfl (by decide) rfl rfl ?_
  intro b118 w hb118 hnb118 hs
  simp only [List.map_cons, List.map_nil] at hs
  try dsimp only [List.set_cons_succ, List.set_cons_zero, List.cons_append, List.nil_append] at hs
  refine L_buildSlice1 rfl hs Try.underlying38 Try.ti2 rfl (by decide) rfl rfl ?_
  intro b119 w hb119 hnb119 hs
  simp only [List.map_cons, List.map_nil] at hs
  try dsimp only [List.set_cons_succ, List.set_cons_zero, List.cons_append, List.nil_append] at hs
  refine L_buildSlice1 rfl hs Try.underlying22 Try.ti38 rfl (by decide) rfl rfl ?_
  intro b120 w hb120 hnb120 hs
  simp only [List.map_cons, List.map_nil] at hs
  try dsimp only [List.set_cons_succ, List.set_cons_zero, List.cons_append, List.nil_append] at hs
  have hr : RowsI w (some ⟨b120, 0, none⟩) [[1, 2], [3]] _ := rowsI_two (hs.get (i := 0) rfl) (hs.get (i := 1) rfl) (hs.get (i := 2) rfl) (by decide) (by decide)
  refine L_call rfl Try.fun10 rfl (least_ok (some ⟨b120, 0, none⟩) 2 2 _ _ w hr rfl (by omega)) ?_
  rintro _ w11 ⟨v1, N1, ms, t, e, rfl, hs1, hbl1, hans⟩
  obtain rfl := l_known5 hans
  have hx : HS w10 w11 [] := (hs.forget (Own.cons hb118 (Own.cons hb119 (Own.cons hb120 Own.nil)))).nil (hs1.forget hbl1.own)
  have h11 : HS w0 w11 [] := h10.nil hx
  replace hslA := hslA.old hx Own.nil
  replace hslB := hslB.old hx Own.nil
  replace hslC := hslC.old hx Own.nil
  replace hslD := hslD.old hx Own.nil
  clear hs hr hans hs1 hx hbl1
  have hs := HS.refl w11
  refine L_move rfl rfl ?_
  refine L_extract rfl rfl rfl ?_
  refine L_extract rfl rfl rfl ?_
  refine L_extract rfl rfl rfl ?_
  refine L_assign rfl rfl ?_
  refine L_assign rfl rfl ?_
  refine L_assign rfl rfl ?_
  refine RL_then ?_
  refine W_seq ?_
  refine W_region ?_
  refine L_buildSlice1 rfl hs Try.underlying38 Try.ti2 rfl (by decide) rfl rfl ?_
  intro b126 w hb126 hnb126 hs
  simp only [List.map_cons, List.map_nil] at hs
  try dsimp only [List.set_cons_succ, List.set_cons_zero, List.cons_append, List.nil_append] at hs
  refine L_buildSlice1 rfl hs Try.underlying22 Try.ti38 rfl (by decide) rfl rfl ?_
  intro b127 w hb127 hnb127 hs
  simp only [List.map_cons, List.map_nil] at hs
  try dsimp only [List.set_cons_succ, List.set_cons_zero, List.cons_append, List.nil_append] at hs
  have hr : RowsI w (some ⟨b127, 0, none⟩) [[1099511627777]] _ := rowsI_one (hs.get (i := 0) rfl) (hs.get (i := 1) rfl) (by decide)
  refine L_call rfl Try.fun10 rfl (least_ok (some ⟨b127, 0, none⟩) 1 1 _ _ w hr rfl (by omega)) ?_
  rintro _ w12 ⟨v1, N1, ms, t, e, rfl, hs1, hbl1, hans⟩
  obtain rfl := l_known6 hans
  have hx : HS w11 w12 [] := (hs.forget (Own.cons hb126 (Own.cons hb127 Own.nil))).nil (hs1.forget hbl1.own)
  have h12 : HS w0 w12 [] := h11.nil hx
  replace hslA := hslA.old hx Own.nil
  replace hslB := hslB.old hx Own.nil
  replace hslC := hslC.old hx Own.nil
  replace hslD := hslD.old hx Own.nil
  clear hs hr hans hs1 hx hbl1
  have hs := HS.refl w12
  refine L_move rfl rfl ?_
  refine L_extract rfl rfl rfl ?_
  refine L_extract rfl rfl rfl ?_
  refine L_extract rfl rfl rfl ?_
  refine L_assign rfl rfl ?_
  refine L_assign rfl rfl ?_
  refine L_assign rfl rfl ?_
  refine RL_then ?_
  refine W_seq ?_
  refine W_region ?_
  refine L_move rfl rfl ?_
  refine L_buildSlice1 rfl hs Try.underlying25 Try.ti3 rfl (by decide) rfl rfl ?_
  intro b133 w hb133 hnb133 hs
  simp only [List.map_cons, List.map_nil] at hs
  try dsimp only [List.set_cons_succ, List.set_cons_zero, List.cons_append, List.nil_append] at hs
  refine L_call rfl Try.fun12 rfl (same_ok qA (some ⟨b133, 0, none⟩) 2 2 cA 2 [0, 1] [0, 1] w (hslA.old hs (Own.cons hb133 Own.nil)) (SlC.of_row (sp := []) (hs.get (i := 0) rfl)) rfl rfl (by omega)) ?_
  rintro _ w ⟨rfl, hs3⟩
  replace hs := hs.nil hs3
  clear hs3
  rw [decide_eq_true rfl]
  refine L_move rfl rfl ?_
  first | (refine RL_want rfl rfl ?_; refine L_move rfl rfl ?_) | refine RL_skip rfl rfl rfl rfl ?_ | refine RL_skipU rfl rfl rfl ?_
  first | (refine RL_want rfl rfl ?_; (first | refine L_eql rfl rfl rfl (dtrue (by omega)) ?_ | refine L_eql rfl rfl rfl (dfalse (by omega)) ?_ | refine L_eql rfl rfl rfl rfl ?_)) | refine RL_skip rfl rfl rfl rfl ?_ | refine RL_skipU rfl rfl rfl ?_
  first | refine L_pick_t rfl rfl rfl ?_ | refine L_pick_f rfl rfl rfl ?_
  refine L_move rfl rfl ?_
  first | (refine RL_want rfl rfl ?_; refine L_move rfl rfl ?_) | refine RL_skip rfl rfl rfl rfl ?_ | refine RL_skipU rfl rfl rfl ?_
  first | (refine RL_want rfl rfl ?_; (first | refine L_eql rfl rfl rfl (dtrue (by omega)) ?_ | refine L_eql rfl rfl rfl (dfalse (by omega)) ?_ | refine L_eql rfl rfl rfl rfl ?_)) | refine RL_skip rfl rfl rfl rfl ?_ | refine RL_skipU rfl rfl rfl ?_
  first | refine L_pick_t rfl rfl rfl ?_ | refine L_pick_f rfl rfl rfl ?_
  refine L_move rfl rfl ?_
  first | (refine RL_want rfl rfl ?_; refine L_move rfl rfl ?_) | refine RL_skip rfl rfl rfl rfl ?_ | refine RL_skipU rfl rfl rfl ?_
  first | (refine RL_want rfl rfl ?_; (first | refine L_eql rfl rfl rfl (dtrue (by omega)) ?_ | refine L_eql rfl rfl rfl (dfalse (by omega)) ?_ | refine L_eql rfl rfl rfl rfl ?_)) | refine RL_skip rfl rfl rfl rfl ?_ | refine RL_skipU rfl rfl rfl ?_
  first | refine L_pick_t rfl rfl rfl ?_ | refine L_pick_f rfl rfl rfl ?_
  refine L_move rfl rfl ?_
  first | (refine RL_want rfl rfl ?_; refine L_move rfl rfl ?_) | refine RL_skip rfl rfl rfl rfl ?_ | refine RL_skipU rfl rfl rfl ?_
  first | (refine RL_want rfl rfl ?_; refine L_buildSlice1 rfl hs Try.underlying25 Try.ti3 rfl (by decide) rfl rfl ?_; intro b149 w hb149 hnb149 hs; simp only [List.map_cons, List.map_nil] at hs; try dsimp only [List.set_cons_succ, List.set_cons_zero, List.cons_append, List.nil_append] at hs) | refine RL_skip rfl rfl rfl rfl ?_ | refine RL_skipU rfl rfl rfl ?_
  refine RL_want rfl rfl ?_
  refine L_call rfl Try.fun12 rfl (same_ok qB (some ⟨b149, 0, none⟩) 2 2 cB 2 [0, -1] [0, -1] w (hslB.old hs (Own.cons hb133 (Own.cons hb149 Own.nil))) (SlC.of_row (sp := []) (hs.get (i := 1) rfl)) rfl rfl (by omega)) ?_
  rintro _ w ⟨rfl, hs3⟩
  replace hs := hs.nil hs3
  clear hs3
  rw [decide_eq_true rfl]
  first | refine L_pick_t rfl rfl rfl ?_ | refine L_pick_f rfl rfl rfl ?_
  refine L_move rfl rfl ?_
  first | (refine RL_want rfl rfl ?_; refine L_move rfl rfl ?_) | refine RL_skip rfl rfl rfl rfl ?_ | refine RL_skipU rfl rfl rfl ?_
  first | (refine RL_want rfl rfl ?_; (first | refine L_eql rfl rfl rfl (dtrue (by omega)) ?_ | refine L_eql rfl rfl rfl (dfalse (by omega)) ?_ | refine L_eql rfl rfl rfl rfl ?_)) | refine RL_skip rfl rfl rfl rfl ?_ | refine RL_skipU rfl rfl rfl ?_
  first | refine L_pick_t rfl rfl rfl ?_ | refine L_pick_f rfl rfl rfl ?_
  refine L_move rfl rfl ?_
  first | (refine RL_want rfl rfl ?_; refine L_move rfl rfl ?_) | refine RL_skip rfl rfl rfl rfl ?_ | refine RL_skipU rfl rfl rfl ?_
  first | (refine RL_want rfl rfl ?_; (first | refine L_eql rfl rfl rfl (dtrue (by omega)) ?_ | refine L_eql rfl rfl rfl (dfalse (by omega)) ?_ | refine L_eql rfl rfl rfl rfl ?_)) | refine RL_skip rfl rfl rfl rfl ?_ | refine RL_skipU rfl rfl rfl ?_
  first | refine L_pick_t rfl rfl rfl ?_ | refine L_pick_f rfl rfl rfl ?_
  refine L_move rfl rfl ?_
  first | (refine RL_want rfl rfl ?_; refine L_move rfl rfl ?_) | refine RL_skip rfl rfl rfl rfl ?_ | refine RL_skipU rfl rfl rfl ?_
  first | (refine RL_want rfl rfl ?_; (first | refine L_eql rfl rfl rfl (dtrue (by omega)) ?_ | refine L_eql rfl rfl rfl (dfalse (by omega)) ?_ | refine L_eql rfl rfl rfl rfl ?_)) | refine RL_skip rfl rfl rfl rfl ?_ | refine RL_skipU rfl rfl rfl ?_
  first | refine L_pick_t rfl rfl rfl ?_ | refine L_pick_f rfl rfl rfl ?_
  refine L_move rfl rfl ?_
  first | (refine RL_want rfl rfl ?_; refine L_move rfl rfl ?_) | refine RL_skip rfl rfl rfl rfl ?_ | refine RL_skipU rfl rfl rfl ?_
  first | (refine RL_want rfl rfl ?_; (first | refine L_eql rfl rfl rfl (dtrue (by omega)) ?_ | refine L_eql rfl rfl rfl (dfalse (by omega)) ?_ | refine L_eql rfl rfl rfl rfl ?_)) | refine RL_skip rfl rfl rfl rfl ?_ | refine RL_skipU rfl rfl rfl ?_
  first | refine L_pick_t rfl rfl rfl ?_ | refine L_pick_f rfl rfl rfl ?_
  refine L_assign rfl rfl ?_
  refine RL_then ?_
  refine W_seq ?_
  refine W_region ?_
  refine L_move rfl rfl ?_
  refine L_len rfl Try.underlying25 rfl ?_
  first | refine L_eql rfl rfl rfl (dtrue (by omega)) ?_ | refine L_eql rfl rfl rfl (dfalse (by omega)) ?_ | refine L_eql rfl rfl rfl rfl ?_
  refine L_move rfl rfl ?_
  first | (refine RL_want rfl rfl ?_; refine L_move rfl rfl ?_) | refine RL_skip rfl rfl rfl rfl ?_ | refine RL_skipU rfl rfl rfl ?_
  first | (refine RL_want rfl rfl ?_; (first | refine L_eql rfl rfl rfl (dtrue (by omega)) ?_ | refine L_eql rfl rfl rfl (dfalse (by omega)) ?_ | refine L_eql rfl rfl rfl rfl ?_)) | refine RL_skip rfl rfl rfl rfl ?_ | refine RL_skipU rfl rfl rfl ?_
  first | refine L_pick_t rfl rfl rfl ?_ | refine L_pick_f rfl rfl rfl ?_
  refine L_move rfl rfl ?_
  first | (refine RL_want rfl rfl ?_; refine L_move rfl rfl ?_) | refine RL_skip rfl rfl rfl rfl ?_ | refine RL_skipU rfl rfl rfl ?_
  first | (refine RL_want rfl rfl ?_; (first | refine L_eql rfl rfl rfl (dtrue (by omega)) ?_ | refine L_eql rfl rfl rfl (dfalse (by omega)) ?_ | refine L_eql rfl rfl rfl rfl ?_)) | refine RL_skip rfl rfl rfl rfl ?_ | refine RL_skipU rfl rfl rfl ?_
  first | refine L_pick_t rfl rfl rfl ?_ | refine L_pick_f rfl rfl rfl ?_
  refine L_move rfl rfl ?_
  first | (refine RL_want rfl rfl ?_; refine L_move rfl rfl ?_) | refine RL_skip rfl rfl rfl rfl ?_ | refine RL_skipU rfl rfl rfl ?_
  first | (refine RL_want rfl rfl ?_; refine L_buildSlice1 rfl hs Try.underlying25 Try.ti3 rfl (by decide) rfl rfl ?_; intro b181 w hb181 hnb181 hs; simp only [List.map_cons, List.map_nil] at hs; try dsimp only [List.set_cons_succ, List.set_cons_zero, List.cons_append, List.nil_append] at hs) | refine RL_skip rfl rfl rfl rfl ?_ | refine RL_skipU rfl rfl rfl ?_
  refine RL_want rfl rfl ?_
  refine L_call rfl Try.fun12 rfl (same_ok qD (some ⟨b181, 0, none⟩) 2 2 cD 2 [-1, -1] [-1, -1] w (hslD.old hs (Own.cons hb133 (Own.cons hb149 (Own.cons hb181 Own.nil)))) (SlC.of_row (sp := []) (hs.get (i := 2) rfl)) rfl rfl (by omega)) ?_
  rintro _ w ⟨rfl, hs3⟩
  replace hs := hs.nil hs3
  clear hs3
  rw [decide_eq_true rfl]
  first | refine L_pick_t rfl rfl rfl ?_ | refine L_pick_f rfl rfl rfl ?_
  refine L_move rfl rfl ?_
  first | (refine RL_want rfl rfl ?_; refine L_move rfl rfl ?_) | refine RL_skip rfl rfl rfl rfl ?_ | refine RL_skipU rfl rfl rfl ?_
  first | (refine RL_want rfl rfl ?_; (first | refine L_eql rfl rfl rfl (dtrue (by omega)) ?_ | refine L_eql rfl rfl rfl (dfalse (by omega)) ?_ | refine L_eql rfl rfl rfl rfl ?_)) | refine RL_skip rfl rfl rfl rfl ?_ | refine RL_skipU rfl rfl rfl ?_
  first | refine L_pick_t rfl rfl rfl ?_ | refine L_pick_f rfl rfl rfl ?_
  refine L_move rfl rfl ?_
  first | (refine RL_want rfl rfl ?_; refine L_move rfl rfl ?_) | refine RL_skip rfl rfl rfl rfl ?_ | refine RL_skipU rfl rfl rfl ?_
  first | (refine RL_want rfl rfl ?_; (first | refine L_eql rfl rfl rfl (dtrue (by omega)) ?_ | refine L_eql rfl rfl rfl (dfalse (by omega)) ?_ | refine L_eql rfl rfl rfl rfl ?_)) | refine RL_skip rfl rfl rfl rfl ?_ | refine RL_skipU rfl rfl rfl ?_
  first | refine L_pick_t rfl rfl rfl ?_ | refine L_pick_f rfl rfl rfl ?_
  refine L_move rfl rfl ?_
  first | (refine RL_want rfl rfl ?_; refine L_move rfl rfl ?_) | refine RL_skip rfl rfl rfl rfl ?_ | refine RL_skipU rfl rfl rfl ?_
  first | (refine RL_want rfl rfl ?_; (first | refine L_eql rfl rfl rfl (dtrue (by omega)) ?_ | refine L_eql rfl rfl rfl (dfalse (by omega)) ?_ | refine L_eql rfl rfl rfl rfl ?_)) | refine RL_skip rfl rfl rfl rfl ?_ | refine RL_skipU rfl rfl rfl ?_
  first | refine L_pick_t rfl rfl rfl ?_ | refine L_pick_f rfl rfl rfl ?_
  refine L_move rfl rfl ?_
  first | (refine RL_want rfl rfl ?_; refine L_move rfl rfl ?_) | refine RL_skip rfl rfl rfl rfl ?_ | refine RL_skipU rfl rfl rfl ?_
  first | (refine RL_want rfl rfl ?_; (first | refine L_eql rfl rfl rfl (dtrue (by omega)) ?_ | refine L_eql rfl rfl rfl (dfalse (by omega)) ?_ | refine L_eql rfl rfl rfl rfl ?_)) | refine RL_skip rfl rfl rfl rfl ?_ | refine RL_skipU rfl rfl rfl ?_
  first | refine L_pick_t rfl rfl rfl ?_ | refine L_pick_f rfl rfl rfl ?_
  refine L_move rfl rfl ?_
  first | (refine RL_want rfl rfl ?_; refine L_move rfl rfl ?_) | refine RL_skip rfl rfl rfl rfl ?_ | refine RL_skipU rfl rfl rfl ?_
  first | (refine RL_want rfl rfl ?_; (first | refine L_eql rfl rfl rfl (dtrue (by omega)) ?_ | refine L_eql rfl rfl rfl (dfalse (by omega)) ?_ | refine L_eql rfl rfl rfl rfl ?_)) | refine RL_skip rfl rfl rfl rfl ?_ | refine RL_skipU rfl rfl rfl ?_
  first | refine L_pick_t rfl rfl rfl ?_ | refine L_pick_f rfl rfl rfl ?_
  refine L_move rfl rfl ?_
  first | (refine RL_want rfl rfl ?_; refine L_move rfl rfl ?_) | refine RL_skip rfl rfl rfl rfl ?_ | refine RL_skipU rfl rfl rfl ?_
  first | (refine RL_want rfl rfl ?_; (first | refine L_eql rfl rfl rfl (dtrue (by omega)) ?_ | refine L_eql rfl rfl rfl (dfalse (by omega)) ?_ | refine L_eql rfl rfl rfl rfl ?_)) | refine RL_skip rfl rfl rfl rfl ?_ | refine RL_skipU rfl rfl rfl ?_
  first | refine L_pick_t rfl rfl rfl ?_ | refine L_pick_f rfl rfl rfl ?_
  refine L_move rfl rfl ?_
  first | (refine RL_want rfl rfl ?_; refine L_move rfl rfl ?_) | refine RL_skip rfl rfl rfl rfl ?_ | refine RL_skipU rfl rfl rfl ?_
  first | (refine RL_want rfl rfl ?_; (first | refine L_eql rfl rfl rfl (dtrue (by omega)) ?_ | refine L_eql rfl rfl rfl (dfalse (by omega)) ?_ | refine L_eql rfl rfl rfl rfl ?_)) | refine RL_skip rfl rfl rfl rfl ?_ | refine RL_skipU rfl rfl rfl ?_
  first | refine L_pick_t rfl rfl rfl ?_ | refine L_pick_f rfl rfl rfl ?_
  refine L_move rfl rfl ?_
  first | (refine RL_want rfl rfl ?_; refine L_move rfl rfl ?_) | refine RL_skip rfl rfl rfl rfl ?_ | refine RL_skipU rfl rfl rfl ?_
  first | (refine RL_want rfl rfl ?_; (first | refine L_eql rfl rfl rfl (dtrue (by omega)) ?_ | refine L_eql rfl rfl rfl (dfalse (by omega)) ?_ | refine L_eql rfl rfl rfl rfl ?_)) | refine RL_skip rfl rfl rfl rfl ?_ | refine RL_skipU rfl rfl rfl ?_
  first | refine L_pick_t rfl rfl rfl ?_ | refine L_pick_f rfl rfl rfl ?_
  refine L_assign rfl rfl ?_
  refine RL_then ?_
  refine W_seq ?_
  refine W_region ?_
  refine L_move rfl rfl ?_
  refine L_move rfl rfl ?_
  first | (refine RL_want rfl rfl ?_; refine L_move rfl rfl ?_) | refine RL_skip rfl rfl rfl rfl ?_ | refine RL_skipU rfl rfl rfl ?_
  first | refine L_pick_t rfl rfl rfl ?_ | refine L_pick_f rfl rfl rfl ?_
  refine L_move rfl rfl ?_
  first | (refine RL_want rfl rfl ?_; refine L_move rfl rfl ?_) | refine RL_skip rfl rfl rfl rfl ?_ | refine RL_skipU rfl rfl rfl ?_
  first | (refine RL_want rfl rfl ?_; (first | refine L_eql rfl rfl rfl (dtrue (by omega)) ?_ | refine L_eql rfl rfl rfl (dfalse (by omega)) ?_ | refine L_eql rfl rfl rfl rfl ?_)) | refine RL_skip rfl rfl rfl rfl ?_ | refine RL_skipU rfl rfl rfl ?_
  first | refine L_pick_t rfl rfl rfl ?_ | refine L_pick_f rfl rfl rfl ?_
  refine L_move rfl rfl ?_
  first | (refine RL_want rfl rfl ?_; refine L_move rfl rfl ?_) | refine RL_skip rfl rfl rfl rfl ?_ | refine RL_skipU rfl rfl rfl ?_
  first | (refine RL_want rfl rfl ?_; (first | refine L_eql rfl rfl rfl (dtrue (by omega)) ?_ | refine L_eql rfl rfl rfl (dfalse (by omega)) ?_ | refine L_eql rfl rfl rfl rfl ?_)) | refine RL_skip rfl rfl rfl rfl ?_ | refine RL_skipU rfl rfl rfl ?_
  first | refine L_pick_t rfl rfl rfl ?_ | refine L_pick_f rfl rfl rfl ?_
  refine L_move rfl rfl ?_
  refine RL_want rfl rfl ?_
  refine L_call rfl Try.fun8 rfl (works_ok w) ?_
  rintro _ w ⟨rfl, hs3⟩
  replace hs := hs.nil hs3
  first | refine L_pick_t rfl rfl rfl ?_ | refine L_pick_f rfl rfl rfl ?_
  refine L_assign rfl rfl ?_
  refine RL_then ?_
  refine W_ret' ?_
  refine Ex_done1 rfl rfl ?_
  exact ⟨_, rfl, rfl, h12.nil (hs.forget (Own.cons hb133 (Own.cons hb149 (Own.cons hb181 Own.nil))))⟩
end Go.Proofs.Ytcfdmenmlemahaa
