/-
  A part of the proof: what functions that the statement reaches do, or a plain law on what they do. Each theorem holds under its own premises alone.
-/
import Derived.Test.YtdllakfojligjaaTKL
import Derived.Test.YtdllakfojligjaaKitY
namespace Go.Proofs.Ytdllakfojligjaa
open Go Go.Lk
/-! ### Get, Drop, Past -/
theorem scs_one' (xs : List Stt) : ∀ v ∈ scs xs, v.oneCell' = true := fun v h => by
 obtain ⟨s, _, h⟩ := List.mem_flatMap.1 h
 simp only [Stt.cells, List.mem_cons, List.not_mem_nil, or_false] at h
 rcases h with rfl | rfl | rfl | rfl | rfl <;> simp [Value.oneCell']
theorem clone_ok (a : Option Addr) (k c : Nat) (xs : List Stt) (w0 : World) (hx : SlC w0 a (scs xs)) (hk : xs.length = k) (hk2 : k ≤ 1000000) :
  Ret Try.prog 47 [.slice a k c] w0 fun v w' => ∃ M, HS w0 w' M ∧ Bl w0 46 5 v k (scs xs) M := by
 refine Ret.start fun w hs => ?_
 refine calls_of_W Try.func47 rfl rfl rfl ?_
 refine W_seq ?_
 refine W_region ?_
 refine L_assign rfl rfl ?_
 refine RL_then ?_
 refine W_seq ?_
 refine W_seq ?_
 refine W_region ?_
 refine L_move rfl rfl ?_
 refine RL_val rfl (R_sliceNil Try.underlying52 rfl rfl) ?_
 refine RL_then ?_
 cases a with
 | none =>
  have hk0 : k = 0 := by
   apply Classical.byContradiction
   intro h
   have := hx.1 (by rw [scs_len]; omega)
   cases this
  subst hk0
  obtain rfl : xs = [] := List.eq_nil_of_length_eq_zero hk
  ·
   refine W_if_true rfl ?_
   refine W_seq ?_
   refine W_region ?_
   refine L_assign rfl rfl ?_
   refine RL_then ?_
   refine W_ret' ?_
   refine Ex_then_ret ?_
   refine Ex_done1 rfl rfl ?_
   exact ⟨_, rfl, [], hs, Bl.nil⟩
 | some ad =>
  ·
   refine W_if_false rfl ?_
   refine W_skip' ?_
   refine Nx_then ?_
   refine W_seq ?_
   refine W_region ?_
   refine L_buildSlice rfl hs Try.underlying52 Try.ti46 rfl (by decide) rfl (by simp [Value.cells]) ?_
   intro b5 w hb5 hnb5 hs
   try simp only [List.flatMap_cons, List.flatMap_nil, cells_int, cells_float, cells_complex, cells_bool, cells_string, cells_pointer, cells_slice, cells_map, cells_agg, List.append_nil, List.set_cons_succ, List.set_cons_zero, List.cons_append, List.nil_append] at hs
   refine L_move rfl rfl ?_
   replace hs : HS w0 w ([] ++ [(b5, Row 46 ([] ++ []))]) := hs
   have hb : Bl w0 46 5 (.slice (some ⟨b5, 0, none⟩) 0 0) 0 [] [(b5, Row 46 ([] ++ []))] := Bl.row hb5 rfl rfl (Nat.le_refl _)
   refine L_appendS (L := []) rfl Try.underlying52 Try.ti46 rfl (by decide) hs hb rfl rfl (by rw [scs_len, hk]) (hx.old hs hb.own) (scs_one' xs) (by omega) (by omega) ?_
   intro v' w M' hs hb'
   rw [Nat.zero_add, List.nil_append] at hb'
   refine L_assign rfl rfl ?_
   refine RL_then ?_
   refine W_ret' ?_
   refine Ex_done1 rfl rfl ?_
   exact ⟨_, rfl, M', hs, hb'⟩
def pastP (w0 : World) (B mb : Nat) (o : On) (k : Nat) (v : Value) (m : Bks) : Prop := match k with
 | 0 | 1 | 10 | 11 => v = bv B ∧ m = []
 | 2 | 12 => v = .pointer (some ((Addr.mk B 0 none).add 6)) ∧ m = []
 | 3 | 13 => v = .map (some mb) ∧ m = []
 | 4 | 14 => v = .int .i64 o.t.id ∧ m = []
 | 5 | 6 | 15 | 16 => v = pv o.p ∧ m = []
 | 7 => v = .pointer (some ((Addr.mk o.p 0 none).add 15)) ∧ m = []
 | 17 => v = .pointer (some ((Addr.mk o.p 0 none).add 16)) ∧ m = []
 | 8 => v = o.vx ∧ m = []
 | 18 => v = o.vy ∧ m = []
 | 9 | 20 => Bl w0 46 5 v o.xs.length (scs o.xs) m
 | 19 | 21 => Bl w0 46 5 v o.ys.length (scs o.ys) m
 | _ => False
theorem pair_perm {l : List Nat} (hn : l.Nodup) {a b : Nat} (ha : a ∈ l) (hb : b ∈ l) (hab : a ≠ b) : l.Perm (a :: b :: l.filter fun j => j != a && j != b) := by
 refine (List.perm_ext_iff_of_nodup hn ?_).2 fun x => ?_
 ·
  refine List.nodup_cons.2 ⟨by simp [hab], List.nodup_cons.2 ⟨by simp, hn.filter _⟩⟩
 ·
  by_cases h1 : x = a
  ·
   simp [h1, ha]
  ·
   by_cases h2 : x = b
   ·
    simp [h2, hb]
   ·
    simp [h1, h2]
set_option maxHeartbeats 1000000 in
theorem past_some (w0 w : World) (n : Nat) (k : Bok) (L : Bks) (o : On) (hs : HS w0 w (k.bks ++ L)) (hk : k.ok w0 n) (ho : o ∈ k.os) (hL : Own w0 L) (hn : n ≤ 1000000) :
  Ret Try.prog 16 [bv k.B, .int .i64 o.t.id] w fun v w' => ∃ vx Mx vy My, v = .tuple #[vx, vy] ∧ HS w0 w' (k.bks ++ L ++ (Mx ++ My)) ∧ Bl w0 46 5 vx o.xs.length (scs o.xs) Mx ∧ Bl w0 46 5 vy o.ys.length (scs o.ys) My := by
 obtain ⟨A, hA⟩ : ∃ A, A = k.bks ++ L := ⟨_, rfl⟩
 have hB : k.row ∈ A := by rw [hA]; exact List.mem_append_left _ (List.mem_cons_self ..)
 have hm : k.mrow ∈ A := by rw [hA]; exact List.mem_append_left _ (List.mem_cons_of_mem _ (List.mem_cons_self ..))
 have hoA : ∀ p ∈ o.bks, p ∈ A := fun p hp => by rw [hA]; exact List.mem_append_left _ (List.mem_cons_of_mem _ (List.mem_cons_of_mem _ (obs_mem ho p hp)))
 have hrow : (o.p, Row 93 o.cells) ∈ A := hoA _ On.row_mem
 have hAo : Own w0 A := by rw [hA]; exact hk.own.app hL
 have hg := Bok.get hk ho
 have hh := hk.hist o ho
 have hko := hk.each o ho
 rw [← hA] at hs ⊢
 clear hA
 have hcx : ∀ {w' : World} {L' : Bks}, HS w0 w' L' → Own w0 L' → (∀ p ∈ A, p ∈ L') → Ret Try.prog 47 [o.vx] w' fun v w'' => ∃ M, HS w0 w'' (L' ++ M) ∧ Bl w0 46 5 v o.xs.length (scs o.xs) M := by
  intro w' L' h1 h2 h3
  have hbx := hko.bx
  obtain ⟨ax, cx, hvx, hcc⟩ := hbx.slice
  rw [hvx] at hbx ⊢
  have hslc : SlC w' ax (scs o.xs) := Bl.slcM hbx h1 (fun p hp => h3 p (hoA p (List.mem_cons_of_mem _ (List.mem_append_left _ hp))))
  refine Calls.mono (clone_ok ax _ cx o.xs w' hslc rfl (by omega)) fun e w'' => ?_
  rintro ⟨v, rfl, M, h4, h5⟩
  exact ⟨_, rfl, M, h1.call h4 h5.own, h5.mono h1.size⟩
 have hcy : ∀ {w' : World} {L' : Bks}, HS w0 w' L' → Own w0 L' → (∀ p ∈ A, p ∈ L') → Ret Try.prog 47 [o.vy] w' fun v w'' => ∃ M, HS w0 w'' (L' ++ M) ∧ Bl w0 46 5 v o.ys.length (scs o.ys) M := by
  intro w' L' h1 h2 h3
  have hbx := hko.by'
  obtain ⟨ax, cx, hvx, hcc⟩ := hbx.slice
  rw [hvx] at hbx ⊢
  have hslc : SlC w' ax (scs o.ys) := Bl.slcM hbx h1 (fun p hp => h3 p (hoA p (List.mem_cons_of_mem _ (List.mem_append_right _ hp))))
  refine Calls.mono (clone_ok ax _ cx o.ys w' hslc rfl (by omega)) fun e w'' => ?_
  rintro ⟨v, rfl, M, h4, h5⟩
  exact ⟨_, rfl, M, h1.call h4 h5.own, h5.mono h1.size⟩
 refine calls_of_W Try.func16 rfl rfl rfl ?_
 refine W_seq ?_
 refine W_region ?_
 refine L_assign rfl rfl ?_
 refine L_assign rfl rfl ?_
 refine RL_then ?_
 refine W_seq ?_
 refine W_seq ?_
 refine W_region ?_
 refine L_move rfl rfl ?_
 refine L_ptrNil rfl Try.underlying27 rfl rfl ?_
 refine L_move rfl rfl ?_
 first | (refine RL_want rfl rfl ?_; refine L_move rfl rfl ?_) | refine RL_skip rfl rfl rfl rfl ?_ | refine RL_skipU rfl rfl rfl ?_
 first | (refine RL_want rfl rfl ?_; refine L_nilCheck rfl rfl ?_) | refine RL_skip rfl rfl rfl rfl ?_ | refine RL_skipU rfl rfl rfl ?_
 first | (refine RL_want rfl rfl ?_; refine L_fieldAddr rfl (off := 6) Try.underlying88 rfl rfl Try.ti85 rfl ?_) | refine RL_skip rfl rfl rfl rfl ?_ | refine RL_skipU rfl rfl rfl ?_
 first | (refine RL_want rfl rfl ?_; refine L_load rfl Try.one85 rfl (by exact cellAM hs hB (j := 6) rfl) ?_) | refine RL_skip rfl rfl rfl rfl ?_ | refine RL_skipU rfl rfl rfl ?_
 first | (refine RL_want rfl rfl ?_; refine L_move rfl rfl ?_) | refine RL_skip rfl rfl rfl rfl ?_ | refine RL_skipU rfl rfl rfl ?_
 first | (refine RL_want rfl rfl ?_; refine L_look1 (k := o.t.id) (ev := pv) (z := .pointer none) rfl K3 Try.underlying85 Try.ti91 (hs.has _ hm) rfl rfl ?_; rw [hg]) | refine RL_skip rfl rfl rfl rfl ?_ | refine RL_skipU rfl rfl rfl ?_
 first | (refine RL_want rfl rfl ?_; refine L_ptrNil rfl Try.underlying91 rfl rfl ?_) | refine RL_skip rfl rfl rfl rfl ?_ | refine RL_skipU rfl rfl rfl ?_
 first | refine L_pick_t rfl rfl rfl ?_ | refine L_pick_f rfl rfl rfl ?_
 refine RL_then ?_
 refine W_if_false rfl ?_
 refine W_skip' ?_
 refine Nx_then ?_
 refine W_seq ?_
 refine W_any (pastP w0 k.B k.mb o) (fun i => ([[], [0], [1], [2], [], [3, 4], [5], [6], [7], [8], [], [10], [11], [12], [], [13, 14], [15], [16], [17], [18], [9], [19]] : List (List Nat)).getD i []) (fun i => ([[], [], [], [], [], [], [], [], [], [], [], [], [], [], [], [], [], [], [], [], [9], [19]] : List (List Nat)).getD i []) Try.mixed (by kernel_rfl) hs ?_ ?_
 ·
  intro i oo d ho hd V M E R w Q' hdep hlook hold hR hs hc
  match i, ho with
  | 0, ho =>
   cases ho; cases hd
   refine L_move rfl (hold 0 _ rfl (nd (by kernel_rfl))) ?_
   exact hc _ [] w ⟨rfl, rfl⟩ Own.nil hs
  | 1, ho =>
   cases ho; cases hd
   have e1 : Lk.look E 17 = some (bv k.B) := by rw [hlook 0 (by decide) _ _ rfl rfl, (hdep 0 (by decide)).1.1]
   refine L_nilCheck rfl e1 ?_
   exact hc _ [] w ⟨rfl, rfl⟩ Own.nil hs
  | 2, ho =>
   cases ho; cases hd
   have e1 : Lk.look E 18 = some (bv k.B) := by rw [hlook 1 (by decide) _ _ rfl rfl, (hdep 1 (by decide)).1.1]
   refine L_fieldAddr rfl (off := 6) Try.underlying88 rfl rfl Try.ti85 e1 ?_
   exact hc _ [] w ⟨rfl, rfl⟩ Own.nil hs
  | 3, ho =>
   cases ho; cases hd
   have e1 : Lk.look E 19 = some (.pointer (some ((Addr.mk k.B 0 none).add 6))) := by rw [hlook 2 (by decide) _ _ rfl rfl, (hdep 2 (by decide)).1.1]
   refine L_load rfl Try.one85 e1 (cellAM hs (List.mem_append_left _ (List.mem_append_left _ hB)) rfl) ?_
   exact hc _ [] w ⟨rfl, rfl⟩ Own.nil hs
  | 4, ho =>
   cases ho; cases hd
   refine L_move rfl (hold 1 _ rfl (nd (by kernel_rfl))) ?_
   exact hc _ [] w ⟨rfl, rfl⟩ Own.nil hs
  | 5, ho =>
   cases ho; cases hd
   have e1 : Lk.look E 20 = some (.map (some k.mb)) := by rw [hlook 3 (by decide) _ _ rfl rfl, (hdep 3 (by decide)).1.1]
   have e2 : Lk.look E 21 = some (.int .i64 o.t.id) := by rw [hlook 4 (by decide) _ _ rfl rfl, (hdep 4 (by decide)).1.1]
   refine L_look1 (k := o.t.id) (ev := pv) (z := .pointer none) rfl K3 Try.underlying85 Try.ti91 (hs.has _ (List.mem_append_left _ (List.mem_append_left _ hm))) e1 e2 ?_
   rw [hg]
   exact hc _ [] w ⟨rfl, rfl⟩ Own.nil hs
  | 6, ho =>
   cases ho; cases hd
   have e1 : Lk.look E 22 = some (pv o.p) := by rw [hlook 5 (by decide) _ _ rfl rfl, (hdep 5 (by decide)).1.1]
   refine L_nilCheck rfl e1 ?_
   exact hc _ [] w ⟨rfl, rfl⟩ Own.nil hs
  | 7, ho =>
   cases ho; cases hd
   have e1 : Lk.look E 23 = some (pv o.p) := by rw [hlook 6 (by decide) _ _ rfl rfl, (hdep 6 (by decide)).1.1]
   refine L_fieldAddr rfl (off := 15) Try.underlying93 rfl rfl Try.ti52 e1 ?_
   exact hc _ [] w ⟨rfl, rfl⟩ Own.nil hs
  | 8, ho =>
   cases ho; cases hd
   have e1 : Lk.look E 24 = some (.pointer (some ((Addr.mk o.p 0 none).add 15))) := by rw [hlook 7 (by decide) _ _ rfl rfl, (hdep 7 (by decide)).1.1]
   refine L_load rfl Try.one52 e1 (cellAM hs (List.mem_append_left _ (List.mem_append_left _ hrow)) rfl) ?_
   exact hc _ [] w ⟨rfl, rfl⟩ Own.nil hs
  | 10, ho =>
   cases ho; cases hd
   refine L_move rfl (hold 0 _ rfl (nd (by kernel_rfl))) ?_
   exact hc _ [] w ⟨rfl, rfl⟩ Own.nil hs
  | 11, ho =>
   cases ho; cases hd
   have e1 : Lk.look E 27 = some (bv k.B) := by rw [hlook 10 (by decide) _ _ rfl rfl, (hdep 10 (by decide)).1.1]
   refine L_nilCheck rfl e1 ?_
   exact hc _ [] w ⟨rfl, rfl⟩ Own.nil hs
  | 12, ho =>
   cases ho; cases hd
   have e1 : Lk.look E 28 = some (bv k.B) := by rw [hlook 11 (by decide) _ _ rfl rfl, (hdep 11 (by decide)).1.1]
   refine L_fieldAddr rfl (off := 6) Try.underlying88 rfl rfl Try.ti85 e1 ?_
   exact hc _ [] w ⟨rfl, rfl⟩ Own.nil hs
  | 13, ho =>
   cases ho; cases hd
   have e1 : Lk.look E 29 = some (.pointer (some ((Addr.mk k.B 0 none).add 6))) := by rw [hlook 12 (by decide) _ _ rfl rfl, (hdep 12 (by decide)).1.1]
   refine L_load rfl Try.one85 e1 (cellAM hs (List.mem_append_left _ (List.mem_append_left _ hB)) rfl) ?_
   exact hc _ [] w ⟨rfl, rfl⟩ Own.nil hs
  | 14, ho =>
   cases ho; cases hd
   refine L_move rfl (hold 1 _ rfl (nd (by kernel_rfl))) ?_
   exact hc _ [] w ⟨rfl, rfl⟩ Own.nil hs
  | 15, ho =>
   cases ho; cases hd
   have e1 : Lk.look E 30 = some (.map (some k.mb)) := by rw [hlook 13 (by decide) _ _ rfl rfl, (hdep 13 (by decide)).1.1]
   have e2 : Lk.look E 31 = some (.int .i64 o.t.id) := by rw [hlook 14 (by decide) _ _ rfl rfl, (hdep 14 (by decide)).1.1]
   refine L_look1 (k := o.t.id) (ev := pv) (z := .pointer none) rfl K3 Try.underlying85 Try.ti91 (hs.has _ (List.mem_append_left _ (List.mem_append_left _ hm))) e1 e2 ?_
   rw [hg]
   exact hc _ [] w ⟨rfl, rfl⟩ Own.nil hs
  | 16, ho =>
   cases ho; cases hd
   have e1 : Lk.look E 32 = some (pv o.p) := by rw [hlook 15 (by decide) _ _ rfl rfl, (hdep 15 (by decide)).1.1]
   refine L_nilCheck rfl e1 ?_
   exact hc _ [] w ⟨rfl, rfl⟩ Own.nil hs
  | 17, ho =>
   cases ho; cases hd
   have e1 : Lk.look E 33 = some (pv o.p) := by rw [hlook 16 (by decide) _ _ rfl rfl, (hdep 16 (by decide)).1.1]
   refine L_fieldAddr rfl (off := 16) Try.underlying93 rfl rfl Try.ti52 e1 ?_
   exact hc _ [] w ⟨rfl, rfl⟩ Own.nil hs
  | 18, ho =>
   cases ho; cases hd
   have e1 : Lk.look E 34 = some (.pointer (some ((Addr.mk o.p 0 none).add 16))) := by rw [hlook 17 (by decide) _ _ rfl rfl, (hdep 17 (by decide)).1.1]
   refine L_load rfl Try.one52 e1 (cellAM hs (List.mem_append_left _ (List.mem_append_left _ hrow)) rfl) ?_
   exact hc _ [] w ⟨rfl, rfl⟩ Own.nil hs
  | 9, ho =>
   cases ho; cases hd
   replace hs : HS w0 w (_ ++ []) := hs
   rw [List.append_nil] at hs
   have e1 : Lk.look E 25 = some o.vx := by rw [hlook 8 (by decide) _ _ rfl rfl, (hdep 8 (by decide)).1.1]
   refine L_call rfl Try.fun47 (by simp only [evalEs, evalE, e1]) (hcx hs (hAo.app hR) (fun p hp => List.mem_append_left _ hp)) ?_
   rintro v w ⟨M', hs', hb⟩
   exact hc _ _ _ hb hb.own hs'
  | 19, ho =>
   cases ho; cases hd
   replace hs : HS w0 w (_ ++ []) := hs
   rw [List.append_nil] at hs
   have e1 : Lk.look E 35 = some o.vy := by rw [hlook 18 (by decide) _ _ rfl rfl, (hdep 18 (by decide)).1.1]
   refine L_call rfl Try.fun47 (by simp only [evalEs, evalE, e1]) (hcy hs (hAo.app hR) (fun p hp => List.mem_append_left _ hp)) ?_
   rintro v w ⟨M', hs', hb⟩
   exact hc _ _ _ hb hb.own hs'
  | 20, ho =>
   cases ho; cases hd
   have e1 : Lk.look E 26 = some (V 9) := hlook 9 (by decide) _ _ rfl rfl
   replace hs : HS w0 w (_ ++ (M 9 ++ [])) := hs
   rw [List.append_nil] at hs
   refine L_assign rfl e1 ?_
   exact hc _ (M 9) w (hdep 9 (by decide)).1 (hdep 9 (by decide)).2 hs
  | 21, ho =>
   cases ho; cases hd
   have e1 : Lk.look E 36 = some (V 19) := hlook 19 (by decide) _ _ rfl rfl
   replace hs : HS w0 w (_ ++ (M 19 ++ [])) := hs
   rw [List.append_nil] at hs
   refine L_assign rfl e1 ?_
   exact hc _ (M 19) w (hdep 19 (by decide)).1 (hdep 19 (by decide)).2 hs
 ·
  intro V M own w hΦ hs hown hnd E hold hlook
  have h20 : Bl w0 46 5 (V 20) o.xs.length (scs o.xs) (M 20) := (hΦ 20 (by decide)).1
  have h21 : Bl w0 46 5 (V 21) o.ys.length (scs o.ys) (M 21) := (hΦ 21 (by decide)).1
  have e4 : Lk.look E 4 = some (V 20) := hlook 20 _ _ rfl rfl
  have e5 : Lk.look E 5 = some (V 21) := hlook 21 _ _ rfl rfl
  have hs2 : HS w0 w (A ++ (M 20 ++ M 21)) := by
   have hp : own.Perm (20 :: 21 :: own.filter fun j => j != 20 && j != 21) := by
    have m20 := (hown 20).2 ⟨by decide, by decide⟩
    have m21 := (hown 21).2 ⟨by decide, by decide⟩
    exact pair_perm hnd m20 m21 (by decide)
   have h3 : HS w0 w (A ++ (20 :: 21 :: own.filter fun j => j != 20 && j != 21).flatMap M) := hs.mem_perm ((List.perm_append_left_iff _).2 (hp.flatMap_right _))
   have h3' : HS w0 w (A ++ (M 20 ++ (M 21 ++ (own.filter fun j => j != 20 && j != 21).flatMap M))) := h3
   have h4 : HS w0 w ((M 20 ++ M 21) ++ (A ++ (own.filter fun j => j != 20 && j != 21).flatMap M)) := HS.re h3' (fun c => by simp only [List.map_append, List.map_cons, List.map_nil, List.sum_append, List.sum_cons, List.sum_nil]; omega)
   have h5 := HS.re (L' := (own.filter fun j => j != 20 && j != 21).flatMap M ++ (A ++ (M 20 ++ M 21))) h4 (fun c => by simp only [List.map_append, List.map_cons, List.map_nil, List.sum_append, List.sum_cons, List.sum_nil]; omega)
   refine h5.sub (fun p hp => List.mem_append_right _ hp) (by have := h5.nodup; rw [List.map_append, List.nodup_append] at this; exact this.2.1) (fun p hp => (List.mem_append.1 hp).elim (fun h => ?_) .inl)
   obtain ⟨j, hj, hp⟩ := List.mem_flatMap.1 h
   exact .inr ((hΦ j ((hown j).1 (List.mem_filter.1 hj).1).1).2 p hp)
  refine Nx_env (e := [(4, V 20), (5, V 21)]) ?_ (looks_cons e4 (looks_cons e5 looks_nil))
  clear hs
  have hs := hs2
  clear hs2 hΦ hown hold hlook hnd e4 e5
  refine Nx_then ?_
  refine W_ret' ?_
  refine Ex_done2 rfl rfl rfl ?_
  exact ⟨_, rfl, _, _, _, _, rfl, hs, h20, h21⟩
end Go.Proofs.Ytdllakfojligjaa
