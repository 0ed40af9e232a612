/-
  A part of the proof: what functions that the statement reaches do, or a plain law on what they do. Each theorem holds under its own premises alone.
-/
import Derived.Test.YtoiobncojfeoiaaTUG0
namespace Go.Proofs.Ytoiobncojfeoiaa
open Go Go.Lk
/-! ### In -/
def inL (es : List KE) (q : Int) : List Int := (es.filter fun x => decide (x.1.1 = q) && decide (x.2.1 = 2)).map (·.1.2)
theorem inL_len (es : List KE) (q : Int) : (inL es q).length ≤ es.length := by unfold inL; rw [List.length_map]; exact List.length_filter_le ..
theorem inL_snoc (es : List KE) (q : Int) (x : KE) : inL (es ++ [x]) q = inL es q ++ (if x.1.1 = q ∧ x.2.1 = 2 then [x.1.2] else []) := by
  unfold inL
  rw [List.filter_append, List.map_append]
  congr 1
  by_cases h1 : x.1.1 = q <;> by_cases h2 : x.2.1 = 2 <;> simp [h1, h2]
theorem inL_perm {es fs : List KE} (h : es.Perm fs) (q : Int) : (inL es q).Perm (inL fs q) := (h.filter _).map _
set_option maxHeartbeats 1000000 in
theorem inW (w0 w : World) (A : Bks) (B far : Nat) (v : Value) (ever : Int) (m : Nat) (es : List KE) (ck : Nat) (q : Int) (hs : HS w0 w A) (hB : (B, Row 87 [.float .f64 far, v, .int .i64 ever, .map (some m)]) ∈ A) (hm : (m, KO es ck) ∈ A) (hK : KOk es ck) (hle : es.length ≤ 100000000) :
    Ret Try.prog 17 [.pointer (some ⟨B, 0, none⟩), .int .i64 q] w fun r w' => ∃ N, HS w0 w' (A ++ N) ∧ Bl w0 3 1 r (inL es q).length (il (isort (inL es q))) N := by
  refine calls_of_W Try.func17 rfl rfl rfl ?_
  refine W_seq ?_
  refine W_region ?_
  refine L_assign rfl rfl ?_
  refine RL_then ?_
  refine W_seq ?_
  refine W_seq ?_
  refine W_region ?_
  refine L_move rfl rfl ?_
  refine L_ptrNil rfl Try.underlying34 rfl rfl ?_
  refine RL_then ?_
  refine W_if_false rfl ?_
  refine W_skip' ?_
  refine Nx_then ?_
  refine W_seq ?_
  refine W_region ?_
  refine L_assign rfl rfl ?_
  refine RL_then ?_
  refine W_seq ?_
  refine W_seq ?_
  refine W_region ?_
  refine L_move rfl rfl ?_
  refine L_nilCheck rfl rfl ?_
  refine L_fieldAddr rfl (off := 3) Try.underlying87 rfl rfl Try.ti84 rfl ?_
  refine L_load rfl Try.one84 rfl (by exact HS.cellM hs hB rfl) ?_
  refine L_range rfl hs hm Try.underlying84 rfl ?_; intro b14 w hb14 _ hs; replace hs := HS.push hs
  refine RL_then ?_
  refine W_block ?_
  refine W_loop4 (fun (vis : List KE) (l : Value) (Mb : Bks) (w : World) => [(0, .pointer (some ⟨B, 0, none⟩)), (1, .int .i64 q), (5, l), (14, .pointer (some ⟨b14, 0, none⟩))]) (fun (vis : List KE) (l : Value) (Mb : Bks) (w : World) => w) (fun (vis : List KE) (l : Value) (Mb : Bks) (w : World) => (∀ x ∈ vis, x ∈ es) ∧ (vis.Nodup) ∧ (vis.length + (unseen (vis.map (·.2.2)) es).length ≤ es.length) ∧ (Bl w0 3 1 l (inL vis q).length (il (inL vis q)) Mb) ∧ (HS w0 w (((b14, ItO m ck (vis.map (·.2.2)) ck) :: A) ++ Mb))) (fun (vis : List KE) (l : Value) (Mb : Bks) (w : World) => (unseen (vis.map (·.2.2)) es).length) ([]) (.slice none 0 0) ([]) (_) (is := [0, 1, 5, 14]) rfl rfl ?_ ?_
  · exact ⟨fun x hx => (by cases hx), List.nodup_nil, by rw [List.length_nil, Nat.zero_add]; exact List.length_filter_le .., Bl.nil, by rw [List.append_nil]; exact hs⟩
  · clear hs
    intro vis l Mb w hI
    show W _ _ _ _ [(0, .pointer (some ⟨B, 0, none⟩)), (1, .int .i64 q), (5, l), (14, .pointer (some ⟨b14, 0, none⟩))] w
    obtain ⟨hsub, hnd, hlen, hb, hs⟩ := hI
    refine W_seq ?_
    refine W_region ?_
    refine L_next rfl hs (i := 0) rfl (List.mem_append_left _ (List.mem_cons_of_mem _ hm)) hK.old (Nat.le_refl _) rfl ?_ ?_
    · intro hall
      refine L_extract rfl rfl rfl ?_
      refine RL_then ?_
      refine W_seq ?_
      refine W_if_false rfl ?_
      refine W_exit' ?_
      refine Ex_then_exit ?_
      refine Ex_loop_exit ?_
      refine Ex_block_hit ?_
      refine Nx_then ?_
      refine W_seq ?_
      refine W_region ?_
      refine L_move rfl rfl ?_
      have hp := all_seen hK.born hnd hsub hall
      have hl := inL_len vis q
      refine L_call rfl Try.fun38 rfl (sort_ok _ l (inL vis q) ((b14, ItO m ck (vis.map (·.2.2)) ck) :: A) Mb w0 w hs hb rfl (by omega)) ?_
      rintro _ w1 ⟨rfl, M', hs, hb2⟩
      refine RL_then ?_
      refine W_seq ?_
      refine W_region ?_
      refine L_move rfl rfl ?_
      refine L_assign rfl rfl ?_
      refine RL_then ?_
      refine W_ret' ?_
      refine Ex_done1 rfl rfl ?_
      refine ⟨_, rfl, M', HS.pop (L := A ++ M') hs hb14, ?_⟩
      rw [isort_of_perm (inL_perm hp q), (inL_perm hp q).length_eq] at hb2
      exact hb2
    · intro x hx hxs w hs
      replace hs : HS w0 w (((b14, ItO m ck (vis.map (·.2.2) ++ [x.2.2]) ck) :: A) ++ Mb) := hs
      refine L_extract rfl rfl rfl ?_
      refine RL_then ?_
      refine W_seq ?_
      refine W_if_true rfl ?_
      refine W_skip' ?_
      refine Nx_then ?_
      refine W_block ?_
      refine W_seq ?_
      refine W_region ?_
      refine L_entry rfl hs (List.mem_append_left _ (List.mem_cons_self ..)) (List.mem_append_left _ (List.mem_cons_of_mem _ hm)) hx hK.born rfl ?_
      refine L_extract rfl rfl rfl ?_
      refine L_extract rfl rfl rfl ?_
      refine L_alloc rfl hs Try.ti98 ?_; intro b6 w hb6 _ hs; replace hs := HS.push (L := ((b14, ItO m ck (vis.map (·.2.2) ++ [x.2.2]) ck) :: A) ++ Mb) hs
      refine L_storeA hs (i := 0) rfl Try.ti98 rfl rfl (by first | rfl | exact add_lit0 _ _ | exact Addr.add_lit .. | (rw [add_add]; exact add_lit0 _ _)) (by simp) (by first | (simp; done) | simp [Value.oneCell']) ?_
      intro w hs
      try dsimp only [List.set_cons_succ, List.set_cons_zero, List.cons_append, List.nil_append] at hs
      refine L_assign rfl rfl ?_
      refine RL_then ?_
      refine W_seq ?_
      replace hs : HS w0 w (((b6, Row 98 [.int .i64 x.1.1, .int .i64 x.1.2]) :: (b14, ItO m ck (vis.map (·.2.2) ++ [x.2.2]) ck) :: A) ++ Mb) := hs
      have fmap : (vis ++ [x]).map (·.2.2) = vis.map (·.2.2) ++ [x.2.2] := by simp
      have flt : (unseen ((vis ++ [x]).map (·.2.2)) es).length < (unseen (vis.map (·.2.2)) es).length := by rw [fmap]; exact unseen_lt hx hxs
      have fsub : ∀ y ∈ vis ++ [x], y ∈ es := fun y hy => (List.mem_append.1 hy).elim (hsub y) fun h => by rw [List.mem_singleton.1 h]; exact hx
      have fnd : (vis ++ [x]).Nodup := List.nodup_append.2 ⟨hnd, by simp, fun a ha b hb' hab => hxs (by rw [List.mem_singleton.1 hb'] at hab; exact List.mem_map.2 ⟨a, ha, by rw [hab]⟩)⟩
      have flen : (vis ++ [x]).length + (unseen ((vis ++ [x]).map (·.2.2)) es).length ≤ es.length := by rw [List.length_append, List.length_singleton]; omega
      have hl := inL_len vis q
      by_cases h1 : x.1.1 = q
      · by_cases h2 : x.2.1 = 2
        · skip
          refine W_region ?_
          refine L_fieldAddr rfl (off := 0) Try.underlying98 rfl rfl Try.ti3 rfl ?_
          refine L_load rfl Try.one3 rfl (by first | exact hs.cell (i := 0) rfl rfl) ?_
          refine L_move rfl rfl ?_
          first | refine L_eql rfl rfl rfl (dtrue (by omega)) ?_ | refine L_eql rfl rfl rfl (dfalse (by omega)) ?_ | refine L_eql rfl rfl rfl rfl ?_
          refine L_move rfl rfl ?_
          first | (refine RL_want rfl rfl ?_; refine L_move rfl rfl ?_) | refine RL_skip rfl rfl rfl rfl ?_ | refine RL_skipU rfl rfl rfl ?_
          first | (refine RL_want rfl rfl ?_; (first | refine L_eql rfl rfl rfl (dtrue (by omega)) ?_ | refine L_eql rfl rfl rfl (dfalse (by omega)) ?_ | refine L_eql rfl rfl rfl rfl ?_)) | refine RL_skip rfl rfl rfl rfl ?_ | refine RL_skipU rfl rfl rfl ?_
          first | refine L_pick_t rfl rfl rfl ?_ | refine L_pick_f rfl rfl rfl ?_
          refine RL_then ?_
          refine W_if_true rfl ?_
          refine W_region ?_
          refine L_move rfl rfl ?_
          refine L_fieldAddr rfl (off := 1) Try.underlying98 rfl rfl Try.ti3 rfl ?_
          refine L_load rfl Try.one3 rfl (by first | exact hs.cell (i := 0) rfl rfl) ?_
          refine L_buildSlice1 rfl hs Try.underlying38 Try.ti3 rfl (by decide) rfl rfl ?_
          intro b31 w hb31 hnb31 hs
          simp only [List.map_cons, List.map_nil] at hs
          try dsimp only [List.set_cons_succ, List.set_cons_zero, List.cons_append, List.nil_append] at hs
          replace hs : HS w0 w ((((b6, Row 98 [.int .i64 x.1.1, .int .i64 x.1.2]) :: (b14, ItO m ck (vis.map (·.2.2) ++ [x.2.2]) ck) :: A) ++ Mb) ++ [(b31, Row 3 [.int .i64 x.1.2])]) := hs
          refine L_appendT (L := (b6, Row 98 [.int .i64 x.1.1, .int .i64 x.1.2]) :: (b14, ItO m ck (vis.map (·.2.2) ++ [x.2.2]) ck) :: A) rfl Try.underlying38 Try.ti3 rfl hs hb31 hb rfl rfl rfl (by simp [Value.oneCell']) (by omega) (by omega) ?_
          intro l2 w M2 hs hb2
          have e := inL_snoc vis q x
          rw [if_pos ⟨h1, h2⟩] at e
          refine L_assign rfl rfl ?_
          refine RL_nil' ?_
          refine Nx_block ?_
          refine Nx_loopP (vis ++ [x], l2, M2, _) (is := [0, 1, 5, 14]) (I' := (fun (vis : List KE) (l : Value) (Mb : Bks) (w : World) => (∀ x ∈ vis, x ∈ es) ∧ (vis.Nodup) ∧ (vis.length + (unseen (vis.map (·.2.2)) es).length ≤ es.length) ∧ (Bl w0 3 1 l (inL vis q).length (il (inL vis q)) Mb) ∧ (HS w0 w (((b14, ItO m ck (vis.map (·.2.2)) ck) :: A) ++ Mb))) (vis ++ [x]) (l2) (M2) (_)) rfl rfl rfl ?_ ?_
          · refine ⟨fsub, fnd, flen, ?_, ?_⟩
            · rw [e, List.length_append, ← il_snoc]; exact hb2
            · rw [fmap]; exact HS.pop (L := ((b14, ItO m ck (vis.map (·.2.2) ++ [x.2.2]) ck) :: A) ++ M2) hs hb6
          · exact flt
        · have e := inL_snoc vis q x
          rw [if_neg (fun h => h2 h.2), List.append_nil] at e
          refine W_region ?_
          refine L_fieldAddr rfl (off := 0) Try.underlying98 rfl rfl Try.ti3 rfl ?_
          refine L_load rfl Try.one3 rfl (by first | exact hs.cell (i := 0) rfl rfl) ?_
          refine L_move rfl rfl ?_
          first | refine L_eql rfl rfl rfl (dtrue (by omega)) ?_ | refine L_eql rfl rfl rfl (dfalse (by omega)) ?_ | refine L_eql rfl rfl rfl rfl ?_
          refine L_move rfl rfl ?_
          first | (refine RL_want rfl rfl ?_; refine L_move rfl rfl ?_) | refine RL_skip rfl rfl rfl rfl ?_ | refine RL_skipU rfl rfl rfl ?_
          first | (refine RL_want rfl rfl ?_; (first | refine L_eql rfl rfl rfl (dtrue (by omega)) ?_ | refine L_eql rfl rfl rfl (dfalse (by omega)) ?_ | refine L_eql rfl rfl rfl rfl ?_)) | refine RL_skip rfl rfl rfl rfl ?_ | refine RL_skipU rfl rfl rfl ?_
          first | refine L_pick_t rfl rfl rfl ?_ | refine L_pick_f rfl rfl rfl ?_
          refine RL_then ?_
          refine W_if_false rfl ?_
          refine W_skip' ?_
          refine Nx_block ?_
          refine Nx_loopP (vis ++ [x], l, Mb, _) (is := [0, 1, 5, 14]) (I' := (fun (vis : List KE) (l : Value) (Mb : Bks) (w : World) => (∀ x ∈ vis, x ∈ es) ∧ (vis.Nodup) ∧ (vis.length + (unseen (vis.map (·.2.2)) es).length ≤ es.length) ∧ (Bl w0 3 1 l (inL vis q).length (il (inL vis q)) Mb) ∧ (HS w0 w (((b14, ItO m ck (vis.map (·.2.2)) ck) :: A) ++ Mb))) (vis ++ [x]) (l) (Mb) (_)) rfl rfl rfl ?_ ?_
          · exact ⟨fsub, fnd, flen, by rw [e]; exact hb, by rw [fmap]; exact HS.pop (L := ((b14, ItO m ck (vis.map (·.2.2) ++ [x.2.2]) ck) :: A) ++ Mb) hs hb6⟩
          · exact flt
      · have e := inL_snoc vis q x
        rw [if_neg (fun h => h1 h.1), List.append_nil] at e
        refine W_region ?_
        refine L_fieldAddr rfl (off := 0) Try.underlying98 rfl rfl Try.ti3 rfl ?_
        refine L_load rfl Try.one3 rfl (by first | exact hs.cell (i := 0) rfl rfl) ?_
        refine L_move rfl rfl ?_
        first | refine L_eql rfl rfl rfl (dtrue (by omega)) ?_ | refine L_eql rfl rfl rfl (dfalse (by omega)) ?_ | refine L_eql rfl rfl rfl rfl ?_
        refine L_move rfl rfl ?_
        first | (refine RL_want rfl rfl ?_; refine L_move rfl rfl ?_) | refine RL_skip rfl rfl rfl rfl ?_ | refine RL_skipU rfl rfl rfl ?_
        first | (refine RL_want rfl rfl ?_; (first | refine L_eql rfl rfl rfl (dtrue (by omega)) ?_ | refine L_eql rfl rfl rfl (dfalse (by omega)) ?_ | refine L_eql rfl rfl rfl rfl ?_)) | refine RL_skip rfl rfl rfl rfl ?_ | refine RL_skipU rfl rfl rfl ?_
        first | refine L_pick_t rfl rfl rfl ?_ | refine L_pick_f rfl rfl rfl ?_
        refine RL_then ?_
        refine W_if_false rfl ?_
        refine W_skip' ?_
        refine Nx_block ?_
        refine Nx_loopP (vis ++ [x], l, Mb, _) (is := [0, 1, 5, 14]) (I' := (fun (vis : List KE) (l : Value) (Mb : Bks) (w : World) => (∀ x ∈ vis, x ∈ es) ∧ (vis.Nodup) ∧ (vis.length + (unseen (vis.map (·.2.2)) es).length ≤ es.length) ∧ (Bl w0 3 1 l (inL vis q).length (il (inL vis q)) Mb) ∧ (HS w0 w (((b14, ItO m ck (vis.map (·.2.2)) ck) :: A) ++ Mb))) (vis ++ [x]) (l) (Mb) (_)) rfl rfl rfl ?_ ?_
        · exact ⟨fsub, fnd, flen, by rw [e]; exact hb, by rw [fmap]; exact HS.pop (L := ((b14, ItO m ck (vis.map (·.2.2) ++ [x.2.2]) ck) :: A) ++ Mb) hs hb6⟩
        · exact flt
end Go.Proofs.Ytoiobncojfeoiaa
