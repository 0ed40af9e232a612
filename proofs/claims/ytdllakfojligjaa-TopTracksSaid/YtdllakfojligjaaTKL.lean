/-
  A part of the proof: what functions that the statement reaches do, or a plain law on what they do. Each theorem holds under its own premises alone.
-/
import Derived.Test.YtdllakfojligjaaTKK
namespace Go.Proofs.Ytdllakfojligjaa
open Go Go.Lk
/-! ### Tracks, Get, Drop, Past -/
def tcs (ts : List Trk) : List Value := ts.flatMap Trk.cells
theorem tcs_app (a b : List Trk) : tcs (a ++ b) = tcs a ++ tcs b := List.flatMap_append ..
theorem tcs_len : ∀ ts : List Trk, (tcs ts).length = ts.length * 15
 | [] => rfl
 | t :: ts => by
  show (t.cells ++ tcs ts).length = _
  rw [List.length_append, tcs_len ts, List.length_cons, show t.cells.length = 15 from rfl]; omega
theorem tcs_get : ∀ {ts : List Trk} {i q : Nat} {v : Value}, i < ts.length → (ts.getD i trk0).cells[q]? = some v → (tcs ts)[i * 15 + q]? = some v
 | [], _, _, _, hi, _ => by simp at hi
 | t :: ts, 0, q, v, _, h => by
  have hq := (List.getElem?_eq_some_iff.1 h).1
  show (t.cells ++ tcs ts)[0 * 15 + q]? = _
  rw [show 0 * 15 + q = q by omega, List.getElem?_append_left (by simpa using hq)]
  simpa using h
 | t :: ts, i + 1, q, v, hi, h => by
  show (t.cells ++ tcs ts)[(i + 1) * 15 + q]? = _
  have hl : t.cells.length = 15 := rfl
  rw [List.getElem?_append_right (by omega), show (i + 1) * 15 + q - t.cells.length = i * 15 + q by omega]
  exact tcs_get (by simpa using hi) h
theorem mget_mem {es : List Ent} (h : (es.map (·.1)).Nodup) {x : Ent} (hx : x ∈ es) : mget x.1 es = some x.2.1 := by
 induction es with
 | nil => cases hx
 | cons y es ih =>
  rw [List.map_cons, List.nodup_cons] at h
  unfold mget
  rcases List.mem_cons.1 hx with rfl | hx
  ·
   rw [if_pos rfl]
  ·
   rw [if_neg (fun he => h.1 (List.mem_map.2 ⟨x, hx, he.symm⟩)), ih h.2 hx]
theorem mget_not {es : List Ent} {k : Int} (h : ∀ x ∈ es, x.1 ≠ k) : mget k es = none := by
 induction es with
 | nil => rfl
 | cons y es ih =>
  unfold mget
  rw [if_neg (h y (List.mem_cons_self ..)), ih fun x hx => h x (List.mem_cons_of_mem _ hx)]
theorem obs_app (a b : List On) : obs (a ++ b) = obs a ++ obs b := List.flatMap_append ..
theorem obs_mem {os : List On} {o : On} (h : o ∈ os) : ∀ p ∈ o.bks, p ∈ obs os := fun _ hp => List.mem_flatMap.2 ⟨o, h, hp⟩
theorem On.row_mem {o : On} : (o.p, Row 93 o.cells) ∈ o.bks := List.mem_cons_self ..
theorem Bok.ok.own {w0 : World} {n : Nat} {k : Bok} (h : k.ok w0 n) : Own w0 k.bks := Own.cons h.B (Own.cons h.mb fun p hp => by
 obtain ⟨o, ho, hp⟩ := List.mem_flatMap.1 hp
 exact (h.each o ho).own p hp)
theorem Bok.get {k : Bok} {w0 : World} {n : Nat} (h : k.ok w0 n) {o : On} (ho : o ∈ k.os) : mget o.t.id k.ents = some o.p := mget_mem (x := entOf o) h.ents.keys (List.mem_map.2 ⟨o, ho, rfl⟩)
theorem Bok.ids (k : Bok) : k.ents.map (·.1) = k.os.map fun o => o.t.id := by unfold Bok.ents; rw [List.map_map]; rfl
theorem Bok.ents_len (k : Bok) : k.ents.length = k.os.length := List.length_map ..
abbrev on0' : On := on0
set_option maxHeartbeats 1000000 in
theorem tracks_ok (w0 w : World) (n : Nat) (k : Bok) (L : Bks) (hs : HS w0 w (k.bks ++ L)) (hk : k.ok w0 n) (hL : Own w0 L) :
  Ret Try.prog 11 [bv k.B] w fun v w' => ∃ M, HS w0 w' (k.bks ++ L ++ M) ∧ Bl w0 49 15 v k.os.length (tcs (k.os.map On.t)) M := by
 obtain ⟨A, hA⟩ : ∃ A, A = k.bks ++ L := ⟨_, rfl⟩
 have hB : k.row ∈ A := by rw [hA]; exact List.mem_append_left _ (List.mem_cons_self ..)
 have hm : k.mrow ∈ A := by rw [hA]; exact List.mem_append_left _ (List.mem_cons_of_mem _ (List.mem_cons_self ..))
 have hO : ∀ o ∈ k.os, ∀ p ∈ o.bks, p ∈ A := fun o ho p hp => by rw [hA]; exact List.mem_append_left _ (List.mem_cons_of_mem _ (List.mem_cons_of_mem _ (obs_mem ho p hp)))
 have hAo : Own w0 A := by rw [hA]; exact hk.own.app hL
 rw [← hA] at hs ⊢
 have hlen := hk.ents.len
 rw [k.ents_len] at hlen
 refine calls_of_W Try.func11 rfl rfl rfl ?_
 refine W_seq ?_
 refine W_region ?_
 refine L_assign rfl rfl ?_
 refine RL_then ?_
 refine W_seq ?_
 refine W_seq ?_
 refine W_region ?_
 refine L_move rfl rfl ?_
 refine L_ptrNil rfl Try.underlying27 rfl rfl ?_
 refine RL_then ?_
 refine W_if_false rfl ?_
 refine W_skip' ?_
 refine Nx_then ?_
 refine W_seq ?_
 refine W_region ?_
 refine L_assign rfl rfl ?_
 refine RL_then ?_
 refine W_seq ?_
 refine W_seq ?_
 refine W_region ?_
 refine L_move rfl rfl ?_
 refine L_call rfl Try.fun41 rfl (ids_ok k.B k.mb k.ck k.ents w0 w A k.cells hs hB rfl hm hk.ents hAo) ?_
 rintro vi w1 ⟨Mi, hs1, hbi⟩
 rw [k.ids, k.ents_len] at hbi
 obtain ⟨ai, ci, rfl, hci⟩ := hbi.slice
 refine L_len rfl Try.underlying31 rfl ?_
 refine L_move rfl rfl ?_
 refine RL_then ?_
 refine W_block ?_
 refine W_loop4 (fun (i : Nat) (v : Value) (M : Bks) (w : World) => [(0, bv k.B), (3, v), (9, .slice ai k.os.length ci), (10, .int .i64 k.os.length), (11, .int .i64 i)]) (fun (i : Nat) (v : Value) (M : Bks) (w : World) => w) (fun (i : Nat) (v : Value) (M : Bks) (w : World) => (i ≤ k.os.length) ∧ (HS w0 w ((A ++ Mi) ++ M)) ∧ (Bl w0 49 15 v i (tcs ((k.os.take i).map On.t)) M)) (fun (i : Nat) (v : Value) (M : Bks) (w : World) => k.os.length - i) (0) (_) ([]) (_) (is := [0, 3, 9, 10, 11]) rfl rfl ?_ ?_
 ·
  exact ⟨Nat.zero_le _, by rw [List.append_nil]; exact hs1, Bl.nil⟩
 ·
  clear hs hs1
  intro i v M w hI
  show W _ _ _ _ [(0, bv k.B), (3, v), (9, .slice ai k.os.length ci), (10, .int .i64 k.os.length), (11, .int .i64 i)] w
  obtain ⟨hi, hs, hb⟩ := hI
  by_cases hlt2 : i < k.os.length
  ·
   have ho : k.os.getD i on0 ∈ k.os := getD_mem hlt2
   obtain ⟨o, hoe⟩ : ∃ o, o = k.os.getD i on0 := ⟨_, rfl⟩
   rw [← hoe] at ho
   have hid : (k.os.map fun o => o.t.id)[i]? = some o.t.id := by rw [hoe]; exact get_of_map rfl hlt2
   have hrow : (o.p, Row 93 o.cells) ∈ A := hO o ho _ On.row_mem
   have hsi : SlC w ai (il (k.os.map fun o => o.t.id)) := Bl.slcM hbi hs (fun p hp => List.mem_append_left _ (List.mem_append_right _ hp))
   have hai := hsi.ao (by rw [il_length, List.length_map]; omega)
   have hcell : w.cell? ((aD ai).add i) = some (.int .i64 o.t.id) := hsi.2 i _ (by unfold il; rw [List.getElem?_map, hid]; rfl)
   refine W_seq ?_
   refine W_region ?_
   first | refine L_lss rfl rfl rfl (dtrue (by omega)) ?_ | refine L_lss rfl rfl rfl (dfalse (by omega)) ?_ | refine L_lss rfl rfl rfl rfl ?_
   refine RL_then ?_
   refine W_seq ?_
   refine W_if_true rfl ?_
   refine W_skip' ?_
   refine Nx_then ?_
   refine W_seq ?_
   refine W_block ?_
   refine W_seq ?_
   refine W_region ?_
   refine L_idx1 rfl Try.underlying31 Try.ti3 rfl rfl (by with_reducible first | exact natc_k _ | exact natc_a1 _ | exact natc_0 | exact natc_1 | exact natc_2 | exact natc_s1 _ (by omega) | exact natc_a2 _ | exact natc_add _ _ | exact natc_mul _ _ | exact natc (by omega)) (by omega) hai ?_
   refine L_load rfl Try.one3 rfl (by exact hcell) ?_
   refine L_assign rfl rfl ?_
   refine RL_then ?_
   refine W_region ?_
   refine L_move rfl rfl ?_
   refine L_move rfl rfl ?_
   refine L_nilCheck rfl rfl ?_
   refine L_fieldAddr rfl (off := 6) Try.underlying88 rfl rfl Try.ti85 rfl ?_
   refine L_load rfl Try.one85 rfl (by exact cellAM hs (List.mem_append_left _ (List.mem_append_left _ hB)) (j := 6) rfl) ?_
   refine L_move rfl rfl ?_
   refine L_look1 (k := o.t.id) (ev := pv) (z := .pointer none) rfl K3 Try.underlying85 Try.ti91 (hs.has _ (List.mem_append_left _ (List.mem_append_left _ hm))) rfl rfl ?_; rw [Bok.get hk ho]
   refine L_nilCheck rfl rfl ?_
   refine L_fieldAddr rfl (off := 0) Try.underlying93 rfl rfl Try.ti49 rfl ?_
   refine L_loadA rfl Try.agg49 Try.ti49 rfl (by exact cellsAt_part (cs := o.t.cells) (n := 15) (hs.has _ (List.mem_append_left _ (List.mem_append_left _ hrow))) rfl) ?_
   refine L_buildSlice rfl hs Try.underlying37 Try.ti49 rfl (by decide) rfl (by simp [Value.cells, Trk.cells]) ?_
   intro b25 w hb25 hnb25 hs
   skip
   replace hs : HS w0 w (((A ++ Mi) ++ M) ++ [(b25, Row 49 o.t.cells)]) := hs
   refine L_appendT (L := A ++ Mi) rfl Try.underlying37 Try.ti49 rfl hs hb25 hb rfl rfl rfl (Trk.one _) (by omega) (by omega) ?_
   intro v' w M' hs hb'
   refine L_assign rfl rfl ?_
   refine RL_nil' ?_
   refine Nx_block ?_
   refine Nx_then ?_
   refine W_region ?_
   first | refine L_add rfl rfl rfl (wrp_i64 (by omega)) ?_ | refine L_add rfl rfl rfl rfl ?_
   refine L_move rfl rfl ?_
   refine RL_nil' ?_
   refine Nx_loopP (i + 1, _, M', _) (is := [0, 3, 9, 10, 11]) (I' := (fun (i : Nat) (v : Value) (M : Bks) (w : World) => (i ≤ k.os.length) ∧ (HS w0 w ((A ++ Mi) ++ M)) ∧ (Bl w0 49 15 v i (tcs ((k.os.take i).map On.t)) M)) (i + 1) (_) (M') (_)) rfl rfl rfl ?_ ?_
   ·
    refine ⟨by omega, hs, ?_⟩
    have e : (k.os.take (i + 1)).map On.t = (k.os.take i).map On.t ++ [o.t] := by
     rw [take_snoc (j := i) (x := o) (by rw [hoe, List.getElem?_eq_getElem hlt2, List.getD_eq_getElem?_getD, List.getElem?_eq_getElem hlt2]; rfl), List.map_append]; rfl
    rw [e, tcs_app, show tcs [o.t] = o.t.cells by simp [tcs]]
    exact hb'
   ·
    omega
  ·
   obtain rfl : k.os.length = i := by omega
   refine W_seq ?_
   refine W_region ?_
   first | refine L_lss rfl rfl rfl (dtrue (by omega)) ?_ | refine L_lss rfl rfl rfl (dfalse (by omega)) ?_ | refine L_lss rfl rfl rfl rfl ?_
   refine RL_then ?_
   refine W_seq ?_
   refine W_if_false rfl ?_
   refine W_exit' ?_
   refine Ex_then_exit ?_
   refine Ex_loop_exit ?_
   refine Ex_block_hit ?_
   refine Nx_then ?_
   refine W_seq ?_
   refine W_region ?_
   refine L_move rfl rfl ?_
   refine L_assign rfl rfl ?_
   refine RL_then ?_
   refine W_ret' ?_
   refine Ex_done1 rfl rfl ?_
   rw [List.take_length] at hb
   refine ⟨_, rfl, M, ?_, hb⟩
   have h1 : HS w0 w (Mi ++ (A ++ M)) := HS.re hs (fun c => by simp only [List.map_append, List.map_cons, List.map_nil, List.sum_append, List.sum_cons, List.sum_nil]; omega)
   exact h1.sub (fun p hp => List.mem_append_right _ hp) (by have := h1.nodup; rw [List.map_append, List.nodup_append] at this; exact this.2.1) (fun p hp => (List.mem_append.1 hp).elim (fun h => .inr (hbi.own p h)) .inl)
end Go.Proofs.Ytdllakfojligjaa
