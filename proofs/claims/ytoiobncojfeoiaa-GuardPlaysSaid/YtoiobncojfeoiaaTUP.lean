/-
  A part of the proof: what functions that the statement reaches do, or a plain law on what they do. Each theorem holds under its own premises alone.
-/
import Derived.Test.YtoiobncojfeoiaaTUP0
namespace Go.Proofs.Ytoiobncojfeoiaa
open Go Go.Lk
/-! ### works: a track comes, is in, and leaves -/
abbrev far10 : Nat := 4621819117588971520
def sqP : List Pt := [(0, 0), (4616189618054758400, 0), (4616189618054758400, 4616189618054758400), (0, 4616189618054758400)]
def tkA : Tk := Tk.mk 7 1 13835058055282163712 4607182418800017408 0 0 0 4611686018427387904 0 0 0 0 0 0 0
def tkB : Tk := Tk.mk 7 1 4607182418800017408 4607182418800017408 0 0 0 4611686018427387904 0 0 0 0 0 0 0
def S1 (zv : Value) (zM : Bks) : WS := watchF far10 4607182418800017408 [⟨1, ⟨#[97]⟩, sqP, zv, zM⟩] [] 0 [tkA]
def S2 (zv : Value) (zM : Bks) : WS := watchF far10 4611686018427387904 [⟨1, ⟨#[97]⟩, sqP, zv, zM⟩] (S1 zv zM).es (S1 zv zM).ck [tkB]
def S3 (zv : Value) (zM : Bks) : WS := watchF far10 4613937818241073152 [⟨1, ⟨#[97]⟩, sqP, zv, zM⟩] (S2 zv zM).es (S2 zv zM).ck []
theorem S1_val (zv : Value) (zM : Bks) : S1 zv zM = ⟨[⟨2, 1, 7, 4607182418800017408⟩], [((1, 7), 1, 0)], 1⟩ := by unfold S1; rw [watch_C]; kernel_rfl
theorem S2_val (zv : Value) (zM : Bks) : S2 zv zM = ⟨[⟨0, 1, 7, 4611686018427387904⟩], [((1, 7), 2, 0)], 1⟩ := by unfold S2; rw [S1_val, watch_C]; kernel_rfl
theorem S3_val (zv : Value) (zM : Bks) : S3 zv zM = ⟨[⟨1, 1, 7, 4613937818241073152⟩], [], 1⟩ := by unfold S3; rw [S2_val, watch_C]; kernel_rfl
theorem when10 : whenF sqP (13835058055282163712, 4611686018427387904) (4607182418800017408, 0) far10 = (4611686018427387904, true) := by kernel_rfl
theorem GOk.mono {w0 w : World} {B : Nat} {v : Value} {M : Bks} {m : Nat} {es : List KE} {ck : Nat} {zs : List Zn} (h : GOk w B v M m es ck zs) (hle : w0.heap.size ≤ w.heap.size) : GOk w0 B v M m es ck zs :=
  ⟨Nat.le_trans hle h.ownB, Nat.le_trans hle h.ownm, h.bl.mono hle, fun z hz => ⟨(h.each z hz).bl.mono hle, (h.each z hz).len⟩, h.len, h.map⟩
theorem _root_.Go.Lk.Bl.slm {w0 w1 w : World} {E : TypeId} {sz : Nat} {a : Option Addr} {n c k : Nat} {xs : List Value} {L M : Bks} (h : Bl w0 E sz (.slice a n c) k xs M) (hs : HS w1 w L) (hm : ∀ p ∈ M, p ∈ L) : SlC w a xs := by
  cases h with
  | nil => exact ⟨by simp, fun j v hv => by simp at hv⟩
  | row hg hx hc hn => exact SlC.of_row (hs.has _ (hm _ (List.mem_cons_self ..)))
theorem HS.asR {w0 w : World} {A R N : Bks} (h : HS w0 w (A ++ R ++ N)) : HS w0 w (A ++ (R ++ N)) := by rw [← List.append_assoc]; exact h
def zA (zv : Value) (zM : Bks) : Zn := ⟨1, ⟨#[97]⟩, sqP, zv, zM⟩
def esA : List KE := [((1, 7), 1, 0)]
def esB : List KE := [((1, 7), 2, 0)]
def alWA : List Al := [⟨2, 1, 7, 4607182418800017408⟩]
def alWB : List Al := [⟨0, 1, 7, 4611686018427387904⟩]
def alWC : List Al := [⟨1, 1, 7, 4613937818241073152⟩]
theorem S1_v (zv : Value) (zM : Bks) : watchF far10 4607182418800017408 [zA zv zM] [] 0 [tkA] = ⟨alWA, esA, 1⟩ := S1_val zv zM
theorem S2_v (zv : Value) (zM : Bks) : watchF far10 4611686018427387904 [zA zv zM] esA 1 [tkB] = ⟨alWB, esB, 1⟩ := by
  have h := S2_val zv zM
  unfold S2 at h
  rw [S1_val] at h
  exact h
theorem S3_v (zv : Value) (zM : Bks) : watchF far10 4613937818241073152 [zA zv zM] esB 1 [] = ⟨alWC, [], 1⟩ := by
  have h := S3_val zv zM
  unfold S3 at h
  rw [S2_val] at h
  exact h
set_option maxHeartbeats 2000000 in
theorem works_ok (w0 : World) : Ret Try.prog 8 [] w0 fun v w' => v = .bool true ∧ HS w0 w' [] := by
  refine Ret.start fun w hs => ?_
  refine calls_of_W Try.func8 rfl rfl rfl ?_
  refine W_seq ?_
  refine W_region ?_
  refine L_assign rfl rfl ?_
  refine RL_then ?_
  refine W_seq ?_
  refine W_region ?_
  refine L_call rfl Try.fun13 rfl (newG far10 w) ?_
  rintro _ w1 (⟨hbad, _, _⟩ | ⟨_, B, m, rfl, hs', hN⟩)
  · exact absurd hbad (by rw [show badNew far10 = false by kernel_rfl]; decide)
  have hNo := hN.owns (far := far10) (ever := 0)
  replace hN := hN.mono hs.size
  have hs2 : HS w0 w1 (gbs B far10 (.slice none 0 0) [] 0 m [] 0 []) := hs.call hs' hNo
  clear hs hs'
  have hs := hs2
  clear hs2
  refine L_move rfl rfl ?_
  refine L_extract rfl rfl rfl ?_
  refine L_extract rfl rfl rfl ?_
  refine L_assign rfl rfl ?_
  refine L_assign rfl rfl ?_
  refine RL_then ?_
  refine W_seq ?_
  refine W_seq ?_
  refine W_region ?_
  refine L_move rfl rfl ?_
  first | refine L_neq rfl rfl rfl (dtrue (by omega)) ?_ | refine L_neq rfl rfl rfl (dfalse (by omega)) ?_ | refine L_neq rfl rfl rfl rfl ?_
  refine L_move rfl rfl ?_
  first | (refine RL_want rfl rfl ?_; refine L_move rfl rfl ?_) | refine RL_skip rfl rfl rfl rfl ?_ | refine RL_skipU rfl rfl rfl ?_
  first | (refine RL_want rfl rfl ?_; refine L_ptrNil rfl Try.underlying34 rfl rfl ?_) | refine RL_skip rfl rfl rfl rfl ?_ | refine RL_skipU rfl rfl rfl ?_
  first | refine L_pick_t rfl rfl rfl ?_ | refine L_pick_f rfl rfl rfl ?_
  refine RL_then ?_
  refine W_if_false rfl ?_
  refine W_skip' ?_
  refine Nx_then ?_
  refine W_seq ?_
  refine W_region ?_
  refine L_move rfl rfl ?_
  refine L_call rfl Try.fun27 rfl (square_ok w1) ?_
  rintro _ w2 ⟨q1, rfl, hs', hq1⟩
  have hs2 := hs.call hs' (Own.cons hq1 Own.nil)
  have hq1 := Nat.le_trans hs.size hq1
  clear hs hs'
  have hs := hs2
  clear hs2
  refine L_build rfl rfl (Pl.built Try.pl40 rfl) ?_
  refine L_call rfl Try.fun14 rfl (addG w0 w2 B far10 (.slice none 0 0) [] 0 m [] 0 [] [(q1, Row 25 (pcs sqP))] ⟨#[97]⟩ (some ⟨q1, 0, none⟩) 4 4 sqP hs hN (Own.cons hq1 Own.nil) (fun w' L' hs' ho hL => SlC.of_row (sp := []) (hs'.has _ (hL _ (List.mem_cons_self ..)))) rfl (by decide) (by decide) (by decide)) ?_
  rintro _ w3 h
  obtain ⟨_, v1, M1, zv, zM, rfl, hs3, hN3⟩ := h.resolve_right (fun h => absurd (show addE [] ⟨#[97]⟩ sqP = 0 by kernel_rfl) h.1)
  clear hs hN h
  have hs : HS w0 w3 (gbs B far10 v1 M1 1 m [] 0 [zA zv zM] ++ [(q1, Row 25 (pcs sqP))]) := hs3
  have hN : GOk w0 B v1 M1 m [] 0 [zA zv zM] := hN3
  clear hs3 hN3
  refine L_move rfl rfl ?_
  refine L_extract rfl rfl rfl ?_
  refine L_extract rfl rfl rfl ?_
  refine L_assign rfl rfl ?_
  refine L_assign rfl rfl ?_
  refine RL_then ?_
  refine W_seq ?_
  refine W_region ?_
  refine L_move rfl rfl ?_
  skip
  refine L_call rfl Try.fun29 rfl (firm_ok 7 13835058055282163712 4611686018427387904 4607182418800017408 0 w3) ?_
  rintro _ w4 ⟨rfl, hs'⟩
  have hs2 := hs.nil hs'
  clear hs hs'
  have hs := hs2
  clear hs2
  refine L_buildSlice rfl hs Try.underlying44 Try.ti60 rfl (by decide) rfl (by simp [Value.cells, Tk.cells]) ?_
  intro b30 w hb30 hnb30 hs
  skip
  have hs2 : HS w0 w (gbs B far10 v1 M1 1 m [] 0 [zA zv zM] ++ ([(q1, Row 25 (pcs sqP))] ++ [(b30, Row 60 (tcs [tkA]))])) := HS.asR hs
  clear hs
  have hs := hs2
  clear hs2
  obtain ⟨R1, hR1⟩ : ∃ R1, [(q1, Row 25 (pcs sqP))] ++ [(b30, Row 60 (tcs [tkA]))] = R1 := ⟨_, rfl⟩
  have hA1 : (b30, Row 60 (tcs [tkA])) ∈ R1 := by rw [← hR1]; exact List.mem_append_right _ (List.mem_cons_self ..)
  have ho : Own w0 R1 := by rw [← hR1]; exact Own.cons hq1 (Own.cons hb30 Own.nil)
  rw [hR1] at hs
  clear hR1
  refine L_call rfl Try.fun15 rfl (watchG w0 w B far10 v1 M1 R1 1 m [] 0 [zA zv zM] 4607182418800017408 (some ⟨b30, 0, none⟩) 1 1 [tkA] hs hN ho (fun w' L' hs' _ hL => SlC.of_row (sp := []) (hs'.has _ (hL _ hA1))) (by decide) rfl (by decide)) ?_
  rintro _ w5 ⟨N1, hs5, hn1, hN5, _⟩
  rw [S1_v] at hs5 hn1 hN5
  obtain ⟨a1, c1, rfl, _⟩ := hn1.slice
  have ho1 : Own w0 (R1 ++ N1) := ho.app hn1.own
  have hm1 : ∀ p ∈ N1, p ∈ R1 ++ N1 := fun p hp => List.mem_append_right _ hp
  obtain ⟨R2, hR2⟩ : ∃ R2, R1 ++ N1 = R2 := ⟨_, rfl⟩
  clear hs hN ho hA1
  have hs := HS.asR hs5
  have hN := hN5
  rw [hR2] at hs ho1 hm1
  clear hs5 hN5 hR2
  refine L_assign rfl rfl ?_
  refine RL_then ?_
  refine W_seq ?_
  refine W_region ?_
  refine L_move rfl rfl ?_
  skip
  refine L_call rfl Try.fun29 rfl (firm_ok 7 4607182418800017408 4611686018427387904 4607182418800017408 0 w5) ?_
  rintro _ w6 ⟨rfl, hs'⟩
  have hs2 := hs.nil hs'
  clear hs hs'
  have hs := hs2
  clear hs2
  refine L_buildSlice rfl hs Try.underlying44 Try.ti60 rfl (by decide) rfl (by simp [Value.cells, Tk.cells]) ?_
  intro b34 w hb34 hnb34 hs
  skip
  have hs2 : HS w0 w (gbs B far10 v1 M1 1 m esA 1 [zA zv zM] ++ (R2 ++ [(b34, Row 60 (tcs [tkB]))])) := HS.asR hs
  clear hs
  have hs := hs2
  clear hs2
  obtain ⟨R3, hR3⟩ : ∃ R3, R2 ++ [(b34, Row 60 (tcs [tkB]))] = R3 := ⟨_, rfl⟩
  have hA3 : (b34, Row 60 (tcs [tkB])) ∈ R3 := by rw [← hR3]; exact List.mem_append_right _ (List.mem_cons_self ..)
  have ho3 : Own w0 R3 := by rw [← hR3]; exact ho1.app (Own.cons hb34 Own.nil)
  have hm3 : ∀ p ∈ N1, p ∈ R3 := fun p hp => by rw [← hR3]; exact List.mem_append_left _ (hm1 p hp)
  rw [hR3] at hs
  clear hR3 hm1 ho1
  refine L_call rfl Try.fun15 rfl (watchG w0 w B far10 v1 M1 R3 1 m esA 1 [zA zv zM] 4611686018427387904 (some ⟨b34, 0, none⟩) 1 1 [tkB] hs hN ho3 (fun w' L' hs' _ hL => SlC.of_row (sp := []) (hs'.has _ (hL _ hA3))) (by decide) rfl (by decide)) ?_
  rintro _ w7 ⟨N2, hs7, hn2, hN7, _⟩
  rw [S2_v] at hs7 hn2 hN7
  obtain ⟨a2, c2, rfl, _⟩ := hn2.slice
  clear hs hN hA3
  have hs := hs7
  have hN := hN7
  clear hs7 hN7
  refine L_assign rfl rfl ?_
  refine RL_then ?_
  refine W_seq ?_
  refine W_region ?_
  refine L_move rfl rfl ?_
  skip
  have hs2 := HS.asR hs
  clear hs
  have hs := hs2
  clear hs2
  refine L_call rfl Try.fun17 rfl (inG w0 w7 B far10 v1 M1 (R3 ++ N2) 1 m esB 1 [zA zv zM] 1 hs hN (by decide)) ?_
  rintro _ w8 ⟨N3, hs8, hn3⟩
  obtain ⟨a3, c3, rfl, _⟩ := hn3.slice
  have ho4 : Own w0 (R3 ++ N2 ++ N3) := (ho3.app hn2.own).app hn3.own
  have hm1 : ∀ p ∈ N1, p ∈ R3 ++ N2 ++ N3 := fun p hp => List.mem_append_left _ (List.mem_append_left _ (hm3 p hp))
  have hm2 : ∀ p ∈ N2, p ∈ R3 ++ N2 ++ N3 := fun p hp => List.mem_append_left _ (List.mem_append_right _ hp)
  have hm4 : ∀ p ∈ N3, p ∈ R3 ++ N2 ++ N3 := fun p hp => List.mem_append_right _ hp
  obtain ⟨R4, hR4⟩ : ∃ R4, R3 ++ N2 ++ N3 = R4 := ⟨_, rfl⟩
  clear hs ho3 hm3
  have hs := HS.asR hs8
  rw [hR4] at hs ho4 hm1 hm2 hm4
  clear hs8 hR4
  refine L_assign rfl rfl ?_
  refine RL_then ?_
  refine W_seq ?_
  refine W_region ?_
  refine L_move rfl rfl ?_
  skip
  refine L_call rfl Try.fun15 rfl (watchG w0 w8 B far10 v1 M1 R4 1 m esB 1 [zA zv zM] 4613937818241073152 none 0 0 [] hs hN ho4 (fun w' L' hs' _ hL => ⟨by decide, fun j v hv => by simp [tcs] at hv⟩) (by decide) rfl (by decide)) ?_
  rintro _ w9 ⟨N4, hs9, hn4, hN9, _⟩
  rw [S3_v] at hs9 hn4 hN9
  obtain ⟨a4, c4, rfl, _⟩ := hn4.slice
  have ho5 : Own w0 (R4 ++ N4) := ho4.app hn4.own
  have hm5 : ∀ p ∈ N4, p ∈ R4 ++ N4 := fun p hp => List.mem_append_right _ hp
  clear hs hN
  have hs := HS.asR hs9
  have hN := hN9
  clear hs9 hN9
  refine L_assign rfl rfl ?_
  refine RL_then ?_
  refine W_seq ?_
  refine W_region ?_
  have hg := hs.dropL hN.owns
  clear hs
  have hs := hg
  clear hg hN
  have hk1 : ∀ p ∈ N1, p ∈ R4 ++ N4 := fun p hp => List.mem_append_left _ (hm1 p hp)
  have hk2 : ∀ p ∈ N2, p ∈ R4 ++ N4 := fun p hp => List.mem_append_left _ (hm2 p hp)
  have hk4 : ∀ p ∈ N3, p ∈ R4 ++ N4 := fun p hp => List.mem_append_left _ (hm4 p hp)
  obtain ⟨R5, hR5⟩ : ∃ R5, R4 ++ N4 = R5 := ⟨_, rfl⟩
  rw [hR5] at hs hk1 hk2 hk4 hm5 ho5
  clear hR5 hm1 hm2 hm4 ho4
  skip
  refine L_call rfl Try.fun27 rfl (square_ok w9) ?_
  rintro _ w10 ⟨q2, rfl, hs', hq2⟩
  have hs2 := hs.call hs' (Own.cons hq2 Own.nil)
  have hq2 := Nat.le_trans hs.size hq2
  clear hs hs'
  have hs := hs2
  clear hs2
  refine L_build rfl rfl (Pl.built Try.pl25 rfl) ?_
  refine L_build rfl rfl (Pl.built Try.pl25 rfl) ?_
  refine L_call rfl Try.fun9 rfl (when_ok (some ⟨q2, 0, none⟩) 4 4 sqP (13835058055282163712, 4611686018427387904) (4607182418800017408, 0) far10 w10 (SlC.of_row (sp := []) (hs.has _ (List.mem_append_right _ (List.mem_cons_self ..)))) rfl) ?_
  rintro _ w11 ⟨rfl, hs'⟩
  rw [when10]
  have hs2 := hs.nil hs'
  clear hs hs'
  have hs := hs2
  clear hs2
  obtain ⟨LL, hLL⟩ : ∃ LL, R5 ++ [(q2, Row 25 (pcs sqP))] = LL := ⟨_, rfl⟩
  have hq : HS w0 w11 LL := by rw [← hLL]; exact hs
  have hoL : Own w0 LL := by rw [← hLL]; exact ho5.app (Own.cons hq2 Own.nil)
  have hj1 : ∀ p ∈ N1, p ∈ LL := fun p hp => by rw [← hLL]; exact List.mem_append_left _ (hk1 p hp)
  have hj2 : ∀ p ∈ N2, p ∈ LL := fun p hp => by rw [← hLL]; exact List.mem_append_left _ (hk2 p hp)
  have hj3 : ∀ p ∈ N3, p ∈ LL := fun p hp => by rw [← hLL]; exact List.mem_append_left _ (hk4 p hp)
  have hj4 : ∀ p ∈ N4, p ∈ LL := fun p hp => by rw [← hLL]; exact List.mem_append_left _ (hm5 p hp)
  clear hs hLL hk1 hk2 hk4 hm5
  have hs := hq
  clear hq
  refine L_move rfl rfl ?_
  refine L_extract rfl rfl rfl ?_
  refine L_extract rfl rfl rfl ?_
  refine L_assign rfl rfl ?_
  refine L_assign rfl rfl ?_
  refine RL_then ?_
  refine W_seq ?_
  refine W_region ?_
  refine L_move rfl rfl ?_
  first | refine L_eql rfl rfl rfl (dtrue (by omega)) ?_ | refine L_eql rfl rfl rfl (dfalse (by omega)) ?_ | refine L_eql rfl rfl rfl rfl ?_
  refine L_move rfl rfl ?_
  first | (refine RL_want rfl rfl ?_; refine L_move rfl rfl ?_) | refine RL_skip rfl rfl rfl rfl ?_ | refine RL_skipU rfl rfl rfl ?_
  first | (refine RL_want rfl rfl ?_; (first | refine L_eql rfl rfl rfl (dtrue (by omega)) ?_ | refine L_eql rfl rfl rfl (dfalse (by omega)) ?_ | refine L_eql rfl rfl rfl rfl ?_)) | refine RL_skip rfl rfl rfl rfl ?_ | refine RL_skipU rfl rfl rfl ?_
  first | refine L_pick_t rfl rfl rfl ?_ | refine L_pick_f rfl rfl rfl ?_
  refine L_move rfl rfl ?_
  first | (refine RL_want rfl rfl ?_; refine L_move rfl rfl ?_) | refine RL_skip rfl rfl rfl rfl ?_ | refine RL_skipU rfl rfl rfl ?_
  first | (refine RL_want rfl rfl ?_; refine L_build rfl rfl (Pl.built Try.pl51 rfl) ?_) | refine RL_skip rfl rfl rfl rfl ?_ | refine RL_skipU rfl rfl rfl ?_
  first | (refine RL_want rfl rfl ?_; refine L_buildSlice rfl hs Try.underlying47 Try.ti51 rfl (by decide) rfl (by simp [Value.cells, Tk.cells]) ?_; intro b56 w hb56 hnb56 hs; skip) | refine RL_skip rfl rfl rfl rfl ?_ | refine RL_skipU rfl rfl rfl ?_
  skip
  have hq : HS w0 w (LL ++ [(b56, Row 51 (acs alWA))]) := hs
  clear hs
  have hs := hq
  clear hq
  have ht : Own w0 [(b56, Row 51 (acs alWA))] := Own.cons hb56 Own.nil
  refine RL_want rfl rfl ?_
  refine L_call rfl Try.fun20 rfl (alarms_ok a1 (some ⟨b56, 0, none⟩) 1 1 c1 1 alWA alWA w (hn1.slm hs (fun p hp => List.mem_append_left _ (hj1 p hp))) (SlC.of_row (sp := []) (hs.has _ (List.mem_append_right _ (List.mem_cons_self ..)))) rfl rfl (by decide)) ?_
  rintro _ w56 ⟨rfl, hs'⟩
  rw [show alsB alWA alWA = true by kernel_rfl]
  have hq := (hs.nil hs').dropR ht
  clear hs hs' ht
  have hs := hq
  clear hq
  try dsimp only
  first | refine L_pick_t rfl rfl rfl ?_ | refine L_pick_f rfl rfl rfl ?_
  refine L_move rfl rfl ?_
  first | (refine RL_want rfl rfl ?_; refine L_move rfl rfl ?_) | refine RL_skip rfl rfl rfl rfl ?_ | refine RL_skipU rfl rfl rfl ?_
  first | (refine RL_want rfl rfl ?_; refine L_build rfl rfl (Pl.built Try.pl51 rfl) ?_) | refine RL_skip rfl rfl rfl rfl ?_ | refine RL_skipU rfl rfl rfl ?_
  first | (refine RL_want rfl rfl ?_; refine L_buildSlice rfl hs Try.underlying47 Try.ti51 rfl (by decide) rfl (by simp [Value.cells]) ?_; intro b62 w hb62 hnb62 hs; skip) | refine RL_skip rfl rfl rfl rfl ?_ | refine RL_skipU rfl rfl rfl ?_
  have hq : HS w0 w (LL ++ [(b62, Row 51 (acs alWB))]) := hs
  clear hs
  have hs := hq
  clear hq
  have ht : Own w0 [(b62, Row 51 (acs alWB))] := Own.cons hb62 Own.nil
  refine RL_want rfl rfl ?_
  refine L_call rfl Try.fun20 rfl (alarms_ok a2 (some ⟨b62, 0, none⟩) 1 1 c2 1 alWB alWB w (hn2.slm hs (fun p hp => List.mem_append_left _ (hj2 p hp))) (SlC.of_row (sp := []) (hs.has _ (List.mem_append_right _ (List.mem_cons_self ..)))) rfl rfl (by decide)) ?_
  rintro _ w62 ⟨rfl, hs'⟩
  rw [show alsB alWB alWB = true by kernel_rfl]
  have hq := (hs.nil hs').dropR ht
  clear hs hs' ht
  have hs := hq
  clear hq
  try dsimp only
  first | refine L_pick_t rfl rfl rfl ?_ | refine L_pick_f rfl rfl rfl ?_
  refine L_move rfl rfl ?_
  first | (refine RL_want rfl rfl ?_; refine L_move rfl rfl ?_) | refine RL_skip rfl rfl rfl rfl ?_ | refine RL_skipU rfl rfl rfl ?_
  first | (refine RL_want rfl rfl ?_; refine L_buildSlice rfl hs Try.underlying38 Try.ti3 rfl (by decide) rfl (by simp [Value.cells]) ?_; intro b67 w hb67 hnb67 hs; skip) | refine RL_skip rfl rfl rfl rfl ?_ | refine RL_skipU rfl rfl rfl ?_
  have hq : HS w0 w (LL ++ [(b67, Row 3 (il [7]))]) := hs
  clear hs
  have hs := hq
  clear hq
  have ht : Own w0 [(b67, Row 3 (il [7]))] := Own.cons hb67 Own.nil
  rw [show inL esB 1 = [7] by kernel_rfl, show isort [(7 : Int)] = [7] by kernel_rfl] at hn3
  rw [show inL esB 1 = [7] by kernel_rfl]
  refine RL_want rfl rfl ?_
  refine L_call rfl Try.fun22 rfl (ints_ok a3 (some ⟨b67, 0, none⟩) 1 1 c3 1 [7] [7] w (hn3.slm hs (fun p hp => List.mem_append_left _ (hj3 p hp))) (SlC.of_row (sp := []) (hs.has _ (List.mem_append_right _ (List.mem_cons_self ..)))) rfl rfl (by decide)) ?_
  rintro _ w67 ⟨rfl, hs'⟩
  rw [show decide (([7] : List Int) = [7]) = true by decide]
  have hq := (hs.nil hs').dropR ht
  clear hs hs' ht
  have hs := hq
  clear hq
  try dsimp only
  first | refine L_pick_t rfl rfl rfl ?_ | refine L_pick_f rfl rfl rfl ?_
  refine L_move rfl rfl ?_
  first | (refine RL_want rfl rfl ?_; refine L_move rfl rfl ?_) | refine RL_skip rfl rfl rfl rfl ?_ | refine RL_skipU rfl rfl rfl ?_
  first | (refine RL_want rfl rfl ?_; refine L_build rfl rfl (Pl.built Try.pl51 rfl) ?_) | refine RL_skip rfl rfl rfl rfl ?_ | refine RL_skipU rfl rfl rfl ?_
  first | (refine RL_want rfl rfl ?_; refine L_buildSlice rfl hs Try.underlying47 Try.ti51 rfl (by decide) rfl (by simp [Value.cells]) ?_; intro b73 w hb73 hnb73 hs; skip) | refine RL_skip rfl rfl rfl rfl ?_ | refine RL_skipU rfl rfl rfl ?_
  have hq : HS w0 w (LL ++ [(b73, Row 51 (acs alWC))]) := hs
  clear hs
  have hs := hq
  clear hq
  have ht : Own w0 [(b73, Row 51 (acs alWC))] := Own.cons hb73 Own.nil
  refine RL_want rfl rfl ?_
  refine L_call rfl Try.fun20 rfl (alarms_ok a4 (some ⟨b73, 0, none⟩) 1 1 c4 1 alWC alWC w (hn4.slm hs (fun p hp => List.mem_append_left _ (hj4 p hp))) (SlC.of_row (sp := []) (hs.has _ (List.mem_append_right _ (List.mem_cons_self ..)))) rfl rfl (by decide)) ?_
  rintro _ w73 ⟨rfl, hs'⟩
  rw [show alsB alWC alWC = true by kernel_rfl]
  have hq := (hs.nil hs').dropR ht
  clear hs hs' ht
  have hs := hq
  clear hq
  try dsimp only
  first | refine L_pick_t rfl rfl rfl ?_ | refine L_pick_f rfl rfl rfl ?_
  refine L_move rfl rfl ?_
  first | (refine RL_want rfl rfl ?_; refine L_move rfl rfl ?_) | refine RL_skip rfl rfl rfl rfl ?_ | refine RL_skipU rfl rfl rfl ?_
  first | (refine RL_want rfl rfl ?_; refine L_fcmp rfl rfl rfl (fun _ => by rw [binOp_float_cmp_eql]; rfl) ?_) | refine RL_skip rfl rfl rfl rfl ?_ | refine RL_skipU rfl rfl rfl ?_
  first | refine L_pick_t rfl rfl rfl ?_ | refine L_pick_f rfl rfl rfl ?_
  refine L_move rfl rfl ?_
  first | (refine RL_want rfl rfl ?_; refine L_move rfl rfl ?_) | refine RL_skip rfl rfl rfl rfl ?_ | refine RL_skipU rfl rfl rfl ?_
  first | refine L_pick_t rfl rfl rfl ?_ | refine L_pick_f rfl rfl rfl ?_
  refine L_assign rfl rfl ?_
  refine RL_then ?_
  refine W_ret' ?_
  refine Ex_done1 rfl rfl ?_
  exact ⟨_, rfl, rfl, hs.forget hoL⟩
end Go.Proofs.Ytoiobncojfeoiaa
