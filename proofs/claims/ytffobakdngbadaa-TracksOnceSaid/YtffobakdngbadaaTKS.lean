/-
 A part of the proof: what functions that the statement reaches do, or a plain law on what they do. Each theorem holds under its own premises alone.
-/
import Derived.Test.YtffobakdngbadaaTKR
namespace Go.Proofs.Ytffobakdngbadaa
open Go Go.Lk
/-! ### has; Drop of what is not there; the rule -/
theorem has_ok (a : Option Addr) (n c : Nat) (ts : List Trk) (id : Int) (w0 : World) (ha : SlC w0 a (tcs ts)) (hn : ts.length = n) (hn2 : n ≤ 1000000) :
  Ret Try.prog 22 [.slice a n c, .int .i64 id] w0 fun v w' => ∃ t f, v = .tuple #[.agg (Trk.cells t).toArray, .bool f] ∧ HS w0 w' [] ∧ (f = true → t ∈ ts ∧ t.id = id) ∧ (f = false → ∀ u ∈ ts, u.id ≠ id) := by
 refine Ret.start fun w hs => ?_
 refine calls_of_W Try.func22 rfl rfl rfl (W_seq (W_region (L_alloc rfl hs Try.ti36 ?_)))
 intro b4 w hb4 hnb4 hs
 dsimp only [List.set_cons_succ, List.set_cons_zero, List.cons_append, List.nil_append] at hs
 replace hs : HS w0 w [(b4, Row 36 trk0.cells)] := hs
 have hbo : Own w0 [(b4, Row 36 trk0.cells)] := Own.cons hb4 Own.nil
 refine L_assign rfl rfl (RL_then (W_seq (W_seq (W_region (L_assign rfl rfl (RL_then (W_block ?_)))))))
 refine W_loop2 (fun (i : Nat) (w : World) => [(0, .slice a n c), (1, .int .i64 id), (4, .pointer (some ⟨b4, 0, none⟩)), (6, .int .i64 i)]) (fun (i : Nat) (w : World) => w) (fun (i : Nat) (w : World) => (i ≤ n) ∧ (∀ j, j < i → (ts.getD j trk0).id ≠ id) ∧ (HS w0 w [(b4, Row 36 trk0.cells)])) (fun (i : Nat) (w : World) => n - i) (0) (_) (is := [0, 1, 4, 6]) rfl rfl ?_ ?_
 ·
  exact ⟨Nat.zero_le _, fun j hj => absurd hj (Nat.not_lt_zero _), hs⟩
 ·
  clear hs
  intro i w hI
  show W _ _ _ _ [(0, .slice a n c), (1, .int .i64 id), (4, .pointer (some ⟨b4, 0, none⟩)), (6, .int .i64 i)] w
  obtain ⟨hi, hq, hs⟩ := hI
  by_cases hlt : i < n
  ·
   have ha' := ha.old hs hbo
   refine W_seq (W_seq (W_region (L_move rfl rfl (L_move rfl rfl (L_len rfl Try.underlying44 rfl (L_lss rfl rfl rfl (dtrue (by omega)) ?_))))))
   refine RL_then (W_if_true rfl ?_)
   by_cases hid : (ts.getD i trk0).id = id
   ·
    refine W_skip' (Nx_then (W_seq (W_block (W_seq (W_region (L_move rfl rfl (L_move rfl rfl ?_)))))))
    refine L_idxN rfl Try.underlying44 Try.ti36 rfl rfl (natc_k _) (by omega) (ha'.ao (by rw [tcs_len]; omega)) ?_
    refine L_fieldAddr rfl (off := 0) Try.underlying36 rfl rfl Try.ti3 rfl ?_
    refine L_load rfl Try.one3 rfl (by (rw [add_add]; exact ha'.2 _ _ (tcs_get (ts := ts) (i := i) (q := 0) (by omega) rfl))) ?_
    refine L_move rfl rfl (L_eql rfl rfl rfl (dtrue (by omega)) ?_)
    refine RL_then (W_if_true rfl (W_seq (W_region (L_move rfl rfl (L_move rfl rfl ?_)))))
    refine L_idxN rfl Try.underlying44 Try.ti36 rfl rfl (natc_k _) (by omega) (ha'.ao (by rw [tcs_len]; omega)) ?_
    refine L_loadA rfl Try.agg36 Try.ti36 rfl (by exact trk_at (i := i) ha' (by omega)) ?_
    refine L_storeA hs (i := 0) rfl Try.ti36 rfl rfl (by rfl) (by simp [Trk.cells]) (by exact Trk.one _) ?_
    intro w hs
    dsimp only [List.set_cons_succ, List.set_cons_zero, List.cons_append, List.nil_append] at hs
    refine L_assign rfl rfl (RL_then (W_ret' (Ex_block_ret (Ex_then_ret (Ex_loop_ret (Ex_block_ret (Ex_then_ret (Ex_doneCT rfl rfl rfl Try.agg36 Try.ti36 (by exact cellsAt_whole (cs := (ts.getD i trk0).cells) (hs.get (i := 0) rfl)) ?_))))))))
    exact ⟨_, rfl, ts.getD i trk0, true, rfl, hs.forget (Own.cons hb4 Own.nil), fun _ => ⟨getD_mem (by omega), hid⟩, fun h => by cases h⟩
   ·
    refine W_skip' (Nx_then (W_seq (W_block (W_seq (W_region (L_move rfl rfl (L_move rfl rfl ?_)))))))
    refine L_idxN rfl Try.underlying44 Try.ti36 rfl rfl (natc_k _) (by omega) (ha'.ao (by rw [tcs_len]; omega)) ?_
    refine L_fieldAddr rfl (off := 0) Try.underlying36 rfl rfl Try.ti3 rfl ?_
    refine L_load rfl Try.one3 rfl (by (rw [add_add]; exact ha'.2 _ _ (tcs_get (ts := ts) (i := i) (q := 0) (by omega) rfl))) ?_
    refine L_move rfl rfl (L_eql rfl rfl rfl (dfalse (by omega)) ?_)
    refine RL_then (W_if_false rfl (W_skip' (Nx_block (Nx_then (W_region (L_move rfl rfl (L_add rfl rfl rfl (wrp_i64 (by omega)) ?_)))))))
    refine L_assign rfl rfl (RL_nil' ?_)
    refine Nx_loopP (i + 1, _) (is := [0, 1, 4, 6]) (I' := (fun (i : Nat) (w : World) => (i ≤ n) ∧ (∀ j, j < i → (ts.getD j trk0).id ≠ id) ∧ (HS w0 w [(b4, Row 36 trk0.cells)])) (i + 1) (_)) rfl rfl rfl ?_ ?_
    ·
     refine ⟨by omega, fun j hj => ?_, hs⟩
     by_cases hji : j = i
     ·
      rw [hji]; exact hid
     ·
      exact hq j (by omega)
    ·
     show n - (i + 1) < n - i; omega
  ·
   obtain rfl : n = i := by omega
   refine W_seq (W_seq (W_region (L_move rfl rfl (L_move rfl rfl (L_len rfl Try.underlying44 rfl (L_lss rfl rfl rfl (dfalse (by omega)) ?_))))))
   refine RL_then (W_if_false rfl (W_exit' (Ex_then_exit (Ex_loop_exit (Ex_block_hit (Nx_then (W_seq (W_region (L_build rfl rfl (Pl.built Try.pl36 rfl) (L_storeA hs (i := 0) rfl Try.ti36 rfl rfl (by rfl) (by simp [Trk.cells]) (by exact Trk.one trk0) ?_))))))))))
   intro w hs
   dsimp only [List.set_cons_succ, List.set_cons_zero, List.cons_append, List.nil_append] at hs
   refine L_assign rfl rfl (RL_then (W_ret' (Ex_doneCT rfl rfl rfl Try.agg36 Try.ti36 (by exact cellsAt_whole (cs := trk0.cells) (hs.get (i := 0) rfl)) ?_)))
   refine ⟨_, rfl, trk0, false, rfl, hs.forget (Own.cons hb4 Own.nil), fun h => (by cases h), fun _ u hu => ?_⟩
   obtain ⟨j, hj, rfl⟩ := List.getElem_of_mem hu
   have := hq j (by omega)
   rwa [List.getD_eq_getElem?_getD, List.getElem?_eq_getElem hj] at this
theorem drop_none (w0 w : World) (n : Nat) (k : Bok) (L : Bks) (id : Int) (hs : HS w0 w (k.bks ++ L)) (hk : k.ok w0 n) (ho : ∀ o ∈ k.os, o.t.id ≠ id) :
  Ret Try.prog 11 [bv k.B, .int .i64 id] w fun v w' => v = .int .i64 190 ∧ HS w0 w' (k.bks ++ L) := by
 obtain ⟨A, hA⟩ : ∃ A, A = k.bks ++ L := ⟨_, rfl⟩
 have hB : k.row ∈ A := by rw [hA]; exact List.mem_append_left _ (List.mem_cons_self ..)
 have hm : k.mrow ∈ A := by rw [hA]; exact List.mem_append_left _ (List.mem_cons_of_mem _ (List.mem_cons_self ..))
 have hg := Bok.getN ho
 rw [← hA] at hs ⊢
 clear hA
 refine calls_of_W Try.func11 rfl rfl rfl (W_seq (W_region (L_assign rfl rfl (RL_then (W_seq (W_block (W_seq (W_region (L_move rfl rfl (L_ptrNil rfl Try.underlying26 rfl rfl (L_assign rfl rfl (RL_then ?_))))))))))))
 refine W_if_false rfl (W_seq (W_region (L_move rfl rfl (L_nilCheck rfl rfl (L_fieldAddr rfl (off := 6) Try.underlying76 rfl rfl Try.ti74 rfl (L_load rfl Try.one74 rfl (by exact cellAM hs hB (j := 6) rfl) ?_))))))
 refine L_move rfl rfl ?_
 refine L_look1 (k := id) (ev := pv) (z := .pointer none) rfl K3 Try.underlying74 Try.ti78 (hs.has _ hm) rfl rfl ?_; rw [hg]
 refine L_ptrNil rfl Try.underlying78 rfl rfl (L_assign rfl rfl (RL_then (W_if_true rfl (W_seq (W_region (L_assign rfl rfl (RL_then (W_ret' (Ex_block_ret (Ex_then_ret (Ex_done1 rfl rfl ?_)))))))))))
 exact ⟨_, rfl, rfl, hs⟩
def rW : Rul := ⟨4607182418800017408, 0, 4621256167635550208, 2, 3, 2⟩
theorem rule_ok (w0 : World) : Ret Try.prog 39 [] w0 fun v w' => v = .agg rW.cells.toArray ∧ HS w0 w' [] := by
 refine Ret.start fun w hs => ?_
 refine calls_of_W Try.func39 rfl rfl rfl (W_seq (W_region (L_alloc rfl hs Try.ti49 ?_)))
 intro b0 w hb0 hnb0 hs
 dsimp only [List.set_cons_succ, List.set_cons_zero, List.cons_append, List.nil_append] at hs
 refine RL_then (W_seq (W_region (L_build rfl rfl (Pl.built Try.pl49 rfl) (L_storeA hs (i := 0) rfl Try.ti49 rfl rfl (by rfl) (by simp) (by simp [Value.oneCell']) ?_))))
 intro w hs
 dsimp only [List.set_cons_succ, List.set_cons_zero, List.cons_append, List.nil_append] at hs
 refine RL_then (W_ret' (Ex_doneC rfl rfl Try.agg49 Try.ti49 (by exact cellsAt_whole (cs := rW.cells) (hs.get (i := 0) rfl)) ?_))
 exact ⟨_, rfl, rfl, hs.forget (Own.cons hb0 Own.nil)⟩
end Go.Proofs.Ytffobakdngbadaa
