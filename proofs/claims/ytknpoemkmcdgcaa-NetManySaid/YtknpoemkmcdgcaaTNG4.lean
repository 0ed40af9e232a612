/-
 A part of the proof: laws for walks, and plain laws, over any program of the model. Each theorem holds under its own premises alone.
-/
import Derived.Test.YtknpoemkmcdgcaaTNG3
import Derived.Test.YtknpoemkmcdgcaaKitY
namespace Go.Proofs.Ytknpoemkmcdgcaa
open Go Go.Lk Go.Pr
abbrev toN (l : List Int) (j : Nat) : Nat := (gi l j).toNat
/-- What a search among columns has found. -/
structure Bf (n : Nat) (C : Nat → Nat → Int) (U V : Nat → Int) (i j : Nat) (of : Nat → Nat) (frm : Nat → Int) (pos : Nat → Nat) (t : Nat) : Prop where
 j0 : frm j = (j : Int)
 rng : ∀ k, k < n → frm k = -1 ∨ (0 ≤ frm k ∧ frm k < n)
 par : ∀ m, m < n → 0 ≤ frm m → m ≠ j → 0 ≤ frm (frm m).toNat ∧ pos (frm m).toNat < pos m ∧ i < of (frm m).toNat ∧ C (of (frm m).toNat) m = U (of (frm m).toNat) + V m
 post : ∀ k, k < n → 0 ≤ frm k → pos k < t
theorem Bf.add {n : Nat} {C : Nat → Nat → Int} {U V : Nat → Int} {i j : Nat} {of : Nat → Nat} {frm frm' : Nat → Int} {pos : Nat → Nat} {t m k : Nat} (h : Bf n C U V i j of frm pos t) (hm : frm m = -1) (hmn : m < n) (hk : k < n) (hkf : 0 ≤ frm k) (hi : i < of k) (ht : C (of k) m = U (of k) + V m)
  (h1 : frm' m = (k : Int)) (h2 : ∀ c, c ≠ m → frm' c = frm c) : Bf n C U V i j of frm' (fun c => if c = m then t else pos c) (t + 1) := by
 have hkm : k ≠ m := fun he => by rw [he] at hkf; omega
 have hjm : j ≠ m := fun he => by have := h.j0; rw [he, hm] at this; omega
 refine ⟨by rw [h2 j hjm]; exact h.j0, fun c hc => ?_, fun c hc hc0 hcj => ?_, fun c hc hc0 => ?_⟩
 ·
  by_cases hcm : c = m
  ·
   rw [hcm, h1]; omega
  ·
   rw [h2 c hcm]; exact h.rng c hc
 ·
  by_cases hcm : c = m
  ·
   subst hcm
   rw [h1, Int.toNat_natCast, h2 k hkm]
   have := h.post k hk hkf
   simp only [hkm, if_false, if_true]
   exact ⟨hkf, this, hi, ht⟩
  ·
   rw [h2 c hcm] at hc0 ⊢
   obtain ⟨a1, a2, a3, a4⟩ := h.par c hc hc0 hcj
   have hne : (frm c).toNat ≠ m := fun he => by rw [he, hm] at a1; omega
   rw [h2 _ hne]
   simp only [hne, hcm, if_false]
   exact ⟨a1, a2, a3, a4⟩
 ·
  by_cases hcm : c = m
  ·
   simp [hcm]
  ·
   simp only [hcm, if_false]
   rw [h2 c hcm] at hc0
   have := h.post c hc hc0
   omega
theorem Qu.pop {w0 : World} {E : TypeId} {g o cap : Nat} {pre sp : List Value} {x : Int} {xs : List Int} (hp : pre.length = o) (hg : w0.heap.size ≤ g) (hl : (x :: xs).length ≤ cap) (hc : cap ≤ (x :: xs).length + sp.length) :
  Qu w0 E (.slice (slA (some ⟨g, o, none⟩) 1 cap 1) ((x :: xs).length - 1) (cap - 1)) xs [(g, Row E (pre ++ il (x :: xs) ++ sp))] := by
 by_cases h1 : cap = 1
 ·
  have h2 : xs = [] := List.eq_nil_of_length_eq_zero (by simp at hl; omega)
  subst h2
  refine ⟨g, o, 0, pre, .int .i64 x :: sp, ?_, ?_, hp, hg, by simp, by simp⟩
  ·
   unfold slA; rw [if_pos h1, h1]; rfl
  ·
   simp [il]
 ·
  refine ⟨g, o + 1, cap - 1, pre ++ [.int .i64 x], sp, ?_, ?_, by simp [hp], hg, by simp at hl; omega, by simp at hc; omega⟩
  ·
   unfold slA; rw [if_neg h1, Nat.mul_one]
   show Value.slice (some ((Addr.mk g o none).add 1)) _ _ = _
   rw [Addr.add_lit]; rfl
  ·
   simp [il]
theorem Qu.len {w0 : World} {E : TypeId} {v : Value} {xs : List Int} {M : List (Nat × Obj)} (h : Qu w0 E v xs M) : ∃ a c, v = .slice a xs.length c := by
 obtain ⟨g, o, cap, _, _, h, _⟩ := h
 exact ⟨_, _, h⟩
end Go.Proofs.Ytknpoemkmcdgcaa

namespace Go.Proofs.Ytknpoemkmcdgcaa
open Go Go.Lk Go.Pr
structure InR (n : Nat) (l : List Int) : Prop where
 len : l.length = n
 rng : ∀ k, k < n → 0 ≤ gi l k ∧ gi l k < n
theorem InR.nat {n : Nat} {l : List Int} (h : InR n l) {k : Nat} (hk : k < n) : l.getD k 0 = ((toN l k : Nat) : Int) ∧ toN l k < n := by
 have h1 : 0 ≤ l.getD k 0 ∧ l.getD k 0 < n := h.rng k hk
 unfold toN
 exact ⟨by show l.getD k 0 = (((l.getD k 0).toNat : Nat) : Int); omega, by show (l.getD k 0).toNat < n; omega⟩
theorem InR.set {n : Nat} {l : List Int} (h : InR n l) {k x : Nat} (hk : k < n) (hx : x < n) : InR n (l.set k x) ∧ toN (l.set k x) k = x ∧ ∀ c, c ≠ k → toN (l.set k x) c = toN l c := by
 have hl := h.len
 have e : ∀ c, gi (l.set k (x : Int)) c = if c = k then (x : Int) else gi l c := fun c => by rw [gi, gset (by omega)]
 refine ⟨⟨by simp [hl], fun c hc => ?_⟩, ?_, fun c hc => ?_⟩
 ·
  rw [e]; split
  ·
   omega
  ·
   exact h.rng c hc
 ·
  rw [toN, e, if_pos rfl, Int.toNat_natCast]
 ·
  rw [toN, e, if_neg hc]
/-- What 'turned' answers. -/
def Turned (B c u v o h n : Nat) (C U V of has : List Int) (i j : Nat) (w0 : World) (r : Value) (w' : World) : Prop :=
 (r = .bool false ∧ HS w0 w' (GameL B c u v o h n C U V of has) ∧ ∀ M, TB n (cf n C) (gi U) (gi V) M → (∀ q, q < i → M q = toN has q) → M i ≠ j) ∨
 (r = .bool true ∧ ∃ of' has', HS w0 w' (GameL B c u v o h n C U V of' has') ∧ InR n of' ∧ InR n has' ∧ Pf n (cf n C) (gi U) (gi V) (toN of') (toN has') ∧ (∀ q, q < i → toN has' q = toN has q) ∧ toN has' i = j)
set_option maxHeartbeats 4000000 in
theorem turned_ok (B c u v o h n : Nat) (C U V of has : List Int) (i j : Nat) (w0 : World) (hC : CostOk n C) (h1 : 1 ≤ n) (h2 : n ≤ 512) (hUl : U.length = n) (hVl : V.length = n) (hof : InR n of) (hhas : InR n has)
  (hbU : ∀ r, r < n → 0 ≤ gi U r ∧ gi U r ≤ BB) (hbV : ∀ j, j < n → -BB ≤ gi V j ∧ gi V j ≤ 0) (hPf : Pf n (cf n C) (gi U) (gi V) (toN of) (toN has)) (hi : i < n) (hj : j < n) (hji : j < toN has i) (htj : cf n C i j = gi U i + gi V j)
  (hG : HS w0 w0 (GameL B c u v o h n C U V of has)) :
  Ret Try.prog 79 [.pointer (some ⟨B, 0, none⟩), .int .i64 i, .int .i64 j] w0 (Turned B c u v o h n C U V of has i j w0) := by
 have hs := hG
 have hCl := hC.len
 have hol := hof.len
 have hhl := hhas.len
 obtain ⟨hgoe, hgon⟩ := hhas.nat hi
 obtain ⟨goal, hgo⟩ : ∃ goal, goal = toN has i := ⟨_, rfl⟩
 rw [← hgo] at hgoe hgon hji
 refine calls_of_W Try.func79 rfl rfl rfl (W_seq (W_region (L_assign rfl rfl (RL_then (W_scope (W_seq (W_region (L_move rfl rfl (L_nilCheck rfl rfl (L_fieldAddr rfl (off := 0) Try.underlying120 rfl rfl Try.ti3 rfl (L_load rfl Try.one3 rfl (by exact hs.cellA (i := 5) rfl rfl) ?_)))))))))))
 refine L_make1 rfl hs Try.underlying60 Try.ti3 rfl rfl (natc_k _) (natc_k _) (by omega) (by omega) (by omega) rfl ?_
 intro b21 w hb21 hnb21 hs
 dsimp only [List.set_cons_succ, List.set_cons_zero, List.cons_append, List.nil_append] at hs
 refine L_assign rfl rfl (RL_then (W_seq (W_seq (W_region (L_move rfl rfl (L_len rfl Try.underlying60 rfl (L_move rfl rfl (RL_then (W_block ?_)))))))))
 rw [il_rep] at hs
 obtain ⟨gf, hgf, hgfo⟩ : ∃ gf, gf = b21 ∧ w0.heap.size ≤ gf := ⟨_, rfl, hb21⟩
 rw [← hgf] at hs ⊢
 clear hgf hb21 hnb21
 refine W_loop3 (fun (k : Nat) (frm : List Int) (w : World) => [(0, .pointer (some ⟨B, 0, none⟩)), (1, .int .i64 i), (2, .int .i64 j), (7, SlN gf n), (23, .int .i64 n), (24, .int .i64 k)]) (fun (k : Nat) (frm : List Int) (w : World) => w) (fun (k : Nat) (frm : List Int) (w : World) => (k ≤ n) ∧ (frm.length = n) ∧ (∀ q, q < k → gi frm q = -1) ∧ (HS w0 w (GameL B c u v o h n C U V of has ++ [(gf, Row 3 (il frm))]))) (fun (k : Nat) (frm : List Int) (w : World) => n - k) (0) (List.replicate n 0) (w) (is := [0, 1, 2, 7, 23, 24]) rfl rfl ?_ ?_
 ·
  exact ⟨Nat.zero_le _, by simp, fun _ h => absurd h (Nat.not_lt_zero _), hs⟩
 ·
  clear hs hG
  intro k frm w hI
  show W _ _ _ _ [(0, .pointer (some ⟨B, 0, none⟩)), (1, .int .i64 i), (2, .int .i64 j), (7, SlN gf n), (23, .int .i64 n), (24, .int .i64 k)] w
  obtain ⟨hk, hfl, hf1, hs⟩ := hI
  replace hs : HS w0 w [(c, Row 2 (il C)), (u, Row 2 (il U)), (v, Row 2 (il V)), (o, Row 3 (il of)), (h, Row 3 (il has)), (B, Row 120 (GameR n c u v o h)), (gf, Row 3 (il frm))] := hs
  by_cases hlt : k < n
  ·
   skip
   refine W_seq (W_region (L_lss rfl rfl rfl (dtrue (by omega)) ?_))
   refine RL_then (W_seq (W_if_true rfl (W_skip' (Nx_then (W_seq (W_block (W_seq (W_region (L_move rfl rfl (L_assign rfl rfl (RL_then (W_region ?_))))))))))))
   refine L_move rfl rfl (L_move rfl rfl (L_idx1 rfl Try.underlying60 Try.ti3 rfl rfl (natc_k _) (by omega) rfl ?_))
   refine L_store hs (i := 6) rfl Try.ti3 rfl rfl (by exact add_lit0 _ _) (by simp; omega) rfl ?_
   intro w hs
   dsimp only [List.set_cons_succ, List.set_cons_zero, List.cons_append, List.nil_append] at hs
   refine RL_nil' (Nx_block (Nx_then (W_region (L_add rfl rfl rfl (wrp_i64 (by omega)) ?_))))
   refine L_move rfl rfl (RL_nil' ?_)
   rw [il_set] at hs
   refine Nx_loopP (k + 1, frm.set k (-1), w) (is := [0, 1, 2, 7, 23, 24]) (I' := (fun (k : Nat) (frm : List Int) (w : World) => (k ≤ n) ∧ (frm.length = n) ∧ (∀ q, q < k → gi frm q = -1) ∧ (HS w0 w (GameL B c u v o h n C U V of has ++ [(gf, Row 3 (il frm))]))) (k + 1) (frm.set k (-1)) (w)) rfl rfl rfl ?_ ?_
   ·
    refine ⟨by omega, by simp [hfl], fun q hq => ?_, hs⟩
    rw [gi, gset (by omega)]
    split
    ·
     rfl
    ·
     exact hf1 q (by omega)
   ·
    omega
  ·
   skip
   obtain rfl : n = k := by omega
   refine W_seq (W_region (L_lss rfl rfl rfl (dfalse (by omega)) ?_))
   refine RL_then (W_seq (W_if_false rfl (W_exit' (Ex_then_exit (Ex_loop_exit (Ex_block_hit (Nx_then (W_seq (W_region (L_move rfl rfl (L_nilCheck rfl rfl (L_fieldAddr rfl (off := 5) Try.underlying120 rfl rfl Try.ti60 rfl ?_))))))))))))
   refine L_load rfl Try.one60 rfl (by exact hs.cellA (i := 5) rfl rfl) ?_
   refine L_move rfl rfl (L_idx1 rfl Try.underlying60 Try.ti3 rfl rfl (natc_k _) (by omega) rfl ?_)
   refine L_load rfl Try.one3 rfl (hs.cellA (i := 4) rfl (il_get (by omega))) ?_
   rw [hgoe]
   refine L_assign rfl rfl (RL_then (W_seq (W_region (L_move rfl rfl (L_buildSlice rfl hs Try.underlying60 Try.ti3 rfl (by decide) rfl (by simp [Value.cells]) ?_)))))
   intro b39 w hb39 hnb39 hs
   simp only [List.flatMap_cons, List.flatMap_nil, cells_int, cells_float, cells_complex, cells_bool, cells_string, cells_pointer, cells_slice, cells_map, cells_agg, List.append_nil, List.set_cons_succ, List.set_cons_zero, List.cons_append, List.nil_append] at hs
   refine L_assign rfl rfl (RL_then (W_seq (W_region (L_move rfl rfl (L_move rfl rfl (L_move rfl rfl (L_idx1 rfl Try.underlying60 Try.ti3 rfl rfl (natc_k _) (by omega) rfl ?_)))))))
   refine L_store hs (i := 6) rfl Try.ti3 rfl rfl (by exact add_lit0 _ _) (by simp; omega) rfl ?_
   intro w hs
   dsimp only [List.set_cons_succ, List.set_cons_zero, List.cons_append, List.nil_append] at hs
   refine RL_then (W_seq (W_label' (Nx_then (W_seq ?_))))
   rw [il_set] at hs
   obtain ⟨gq, hgq, hgqo⟩ : ∃ gq, gq = b39 ∧ w0.heap.size ≤ gq := ⟨_, rfl, hb39⟩
   rw [← hgq] at hs ⊢
   clear hgq hb39 hnb39
   have hBf : Bf n (cf n C) (gi U) (gi V) i j (toN of) (gi (frm.set j j)) (fun _ => 0) 1 := by
    have e : ∀ q, gi (frm.set j (j : Int)) q = if q = j then (j : Int) else gi frm q := fun q => by rw [gi, gset (by omega)]
    refine ⟨by rw [e, if_pos rfl], fun q hq => ?_, fun q hq h0 hqj => ?_, fun q hq h0 => by omega⟩
    ·
     rw [e]; split
     ·
      omega
     ·
      exact .inl (hf1 q hq)
    ·
     rw [e, if_neg hqj, hf1 q hq] at h0; omega
   have hfg0 : gi (frm.set j (j : Int)) goal = -1 := by rw [gi, gset (by omega), if_neg (by omega)]; exact hf1 goal hgon
   have hcl0 : ∀ q, q < n → 0 ≤ gi (frm.set j (j : Int)) q → (q : Int) ∈ [(j : Int)] := fun q hq h0 => by
    rw [gi, gset (by omega)] at h0
    by_cases hqj : q = j
    ·
     simp [hqj]
    ·
     rw [if_neg hqj] at h0; have := hf1 q hq; simp only [gi] at this; omega
   refine W_cut2 (fun (frm : List Int) (w : World) => [(0, .pointer (some ⟨B, 0, none⟩)), (1, .int .i64 i), (2, .int .i64 j), (7, SlN gf n), (9, .int .i64 goal)]) (fun (frm : List Int) (w : World) => w) (fun (frm : List Int) (w : World) => (frm.length = n) ∧ (∃ pos t, Bf n (cf n C) (gi U) (gi V) i j (toN of) (gi frm) pos t) ∧ (gi frm goal = -1 → ∀ q, q < n → 0 ≤ gi frm q → i < toN of q → ∀ m, m < n → cf n C (toN of q) m = gi U (toN of q) + gi V m → 0 ≤ gi frm m) ∧ (HS w0 w [(c, Row 2 (il C)), (u, Row 2 (il U)), (v, Row 2 (il V)), (o, Row 3 (il of)), (h, Row 3 (il has)), (B, Row 120 (GameR n c u v o h)), (gf, Row 3 (il frm))])) ?_ ?_
   ·
    refine W_block ?_
    refine W_loop5 (fun (frm : List Int) (vw : Value) (xs : List Int) (M : List (Nat × Obj)) (w : World) => [(0, .pointer (some ⟨B, 0, none⟩)), (1, .int .i64 i), (2, .int .i64 j), (7, SlN gf n), (9, .int .i64 goal), (10, vw)]) (fun (frm : List Int) (vw : Value) (xs : List Int) (M : List (Nat × Obj)) (w : World) => w) (fun (frm : List Int) (vw : Value) (xs : List Int) (M : List (Nat × Obj)) (w : World) => (frm.length = n) ∧ (∃ pos t, Bf n (cf n C) (gi U) (gi V) i j (toN of) (gi frm) pos t) ∧ (gi frm goal = -1) ∧ (∀ x, x ∈ xs → ∃ q : Nat, x = (q : Int) ∧ q < n ∧ 0 ≤ gi frm q) ∧ (∀ q, q < n → 0 ≤ gi frm q → (q : Int) ∈ xs ∨ (i < toN of q → ∀ m, m < n → cf n C (toN of q) m = gi U (toN of q) + gi V m → 0 ≤ gi frm m)) ∧ (xs.length + frm.count (-1) ≤ n + 1) ∧ (Qu w0 3 vw xs M) ∧ (HS w0 w ([(c, Row 2 (il C)), (u, Row 2 (il U)), (v, Row 2 (il V)), (o, Row 3 (il of)), (h, Row 3 (il has)), (B, Row 120 (GameR n c u v o h)), (gf, Row 3 (il frm))] ++ M))) (fun (frm : List Int) (vw : Value) (xs : List Int) (M : List (Nat × Obj)) (w : World) => xs.length + frm.count (-1)) (frm.set j (j : Int)) (.slice (some ⟨gq, 0, none⟩) 1 1) ([(j : Int)]) ([(gq, Row 3 [.int .i64 j])]) (w) (is := [0, 1, 2, 7, 9, 10]) rfl rfl ?_ ?_
    ·
     refine ⟨by simp [hfl], ⟨_, _, hBf⟩, hfg0, fun x hx => ?_, fun q hq h0 => .inl (hcl0 q hq h0), ?_, ⟨gq, 0, 1, [], [], rfl, rfl, rfl, hgqo, by simp, by simp⟩, hs⟩
     ·
      rw [List.mem_singleton] at hx
      exact ⟨j, hx, hj, by rw [hBf.j0]; omega⟩
     ·
      have := List.count_le_length (a := (-1 : Int)) (l := frm.set j (j : Int))
      simp [hfl] at this ⊢; omega
    ·
     clear hs hBf hfg0 hcl0 hf1 hfl
     intro frm vw xs M w hI
     show W _ _ _ _ [(0, .pointer (some ⟨B, 0, none⟩)), (1, .int .i64 i), (2, .int .i64 j), (7, SlN gf n), (9, .int .i64 goal), (10, vw)] w
     obtain ⟨hfl, ⟨pos, t, hBf⟩, hfg, hxs, hcl, hcnt, hq, hs⟩ := hI
     cases xs
     ·
      obtain ⟨qa, qc, rfl⟩ := Qu.len hq
      refine W_seq (W_seq (W_region (L_move rfl rfl (L_len rfl Try.underlying60 rfl (L_gtr rfl rfl rfl rfl (RL_then (W_if_false rfl (W_exit' (Ex_then_exit (Ex_loop_exit (Ex_block_hit (Nx_cutP (frm, w) (is := [0, 1, 2, 7, 9]) (I' := (fun (frm : List Int) (w : World) => (frm.length = n) ∧ (∃ pos t, Bf n (cf n C) (gi U) (gi V) i j (toN of) (gi frm) pos t) ∧ (gi frm goal = -1 → ∀ q, q < n → 0 ≤ gi frm q → i < toN of q → ∀ m, m < n → cf n C (toN of q) m = gi U (toN of q) + gi V m → 0 ≤ gi frm m) ∧ (HS w0 w [(c, Row 2 (il C)), (u, Row 2 (il U)), (v, Row 2 (il V)), (o, Row 3 (il of)), (h, Row 3 (il has)), (B, Row 120 (GameR n c u v o h)), (gf, Row 3 (il frm))])) (frm) (w)) rfl rfl rfl ?_))))))))))))
      exact ⟨hfl, ⟨_, _, hBf⟩, fun _ q hq' h0 => (hcl q hq' h0).resolve_left (by simp), hs.dropR (Qu.own hq)⟩
     ·
      rename_i x rest
      obtain ⟨g, oo, cap, pre, sp, rfl, rfl, hp, hgo', hlc, hcs⟩ := hq
      obtain ⟨k0, rfl, hk0n, hk0f⟩ := hxs x (by simp)
      have hqn := Qu.pop (E := 3) hp hgo' hlc hcs
      obtain ⟨v1, hv1⟩ : ∃ v1, v1 = Value.slice (slA (some ⟨g, oo, none⟩) 1 cap 1) (((k0 : Int) :: rest).length - 1) (cap - 1) := ⟨_, rfl⟩
      rw [← hv1] at hqn
      have hlen : 0 < ((k0 : Int) :: rest).length := by simp
      obtain ⟨M1, hM1⟩ : ∃ M1, M1 = [(g, Row 3 (pre ++ il ((k0 : Int) :: rest) ++ sp))] := ⟨_, rfl⟩
      have hx0 : w.cell? ((Addr.mk g oo none).add 0) = some (.int .i64 k0) := by
       rw [Addr.add_lit, Nat.add_zero]
       exact hs.cell (i := 7) rfl (by rw [List.append_assoc, List.getElem?_append_right (by omega), hp, Nat.sub_self]; simp [il])
      rw [← hM1] at hs hqn
      obtain ⟨hofe, hofn⟩ := hof.nat hk0n
      refine W_seq (W_seq (W_region (L_move rfl rfl (L_len rfl Try.underlying60 rfl (L_gtr rfl rfl rfl (dtrue (by omega)) ?_)))))
      refine RL_then (W_if_true rfl (W_skip' (Nx_then (W_block (W_seq (W_region (L_move rfl rfl (L_idx1 rfl Try.underlying60 Try.ti3 rfl rfl natc_0 (by omega) rfl ?_))))))))
      refine L_load rfl Try.one3 rfl (by exact hx0) ?_
      refine L_assign rfl rfl (RL_then (W_seq (W_region (L_move rfl rfl (RL_val rfl (R_slice100 Try.underlying60 Try.ti3 rfl rfl natc_1 (by omega)) ?_)))))
      refine L_assign rfl rfl (RL_then (W_seq (W_region (L_move rfl rfl ?_))))
      rw [← hv1]
      refine L_nilCheck rfl rfl (L_fieldAddr rfl (off := 4) Try.underlying120 rfl rfl Try.ti60 rfl (L_load rfl Try.one60 rfl (by exact hs.cellA (i := 5) rfl rfl) ?_))
      refine L_move rfl rfl (L_idx1 rfl Try.underlying60 Try.ti3 rfl rfl (natc_k _) (by omega) rfl ?_)
      refine L_load rfl Try.one3 rfl (by exact hs.cellA (i := 3) rfl (il_get (by omega))) ?_
      refine L_assign rfl rfl (RL_then (W_seq (W_seq (W_region ?_))))
      rw [hofe]
      have hcl1 : ∀ q, q < n → 0 ≤ gi frm q → (q : Int) ∈ rest ∨ q = k0 ∨ (i < toN of q → ∀ m, m < n → cf n C (toN of q) m = gi U (toN of q) + gi V m → 0 ≤ gi frm m) := fun q hq' h0 => by
       rcases hcl q hq' h0 with h5 | h5
       ·
        rcases List.mem_cons.1 h5 with h6 | h6
        ·
         exact .inr (.inl (by omega))
        ·
         exact .inl h6
       ·
        exact .inr (.inr h5)
      have hxs1 : ∀ x, x ∈ rest → ∃ q : Nat, x = (q : Int) ∧ q < n ∧ 0 ≤ gi frm q := fun x hx => hxs x (List.mem_cons_of_mem _ hx)
      have hcnt1 : rest.length + frm.count (-1) + 1 ≤ n + 1 := by simp only [List.length_cons] at hcnt; omega
      clear hcl hxs hcnt hx0 hv1 hM1 hlc hcs
      by_cases hri : toN of k0 ≤ i
      ·
       refine L_move rfl rfl (L_move rfl rfl (L_leq rfl rfl rfl (dtrue (by omega)) ?_))
       refine RL_then (W_if_true rfl (W_exit' (Ex_then_exit (Ex_block_hit ?_))))
       refine Nx_loopP (frm, v1, rest, M1, w) (is := [0, 1, 2, 7, 9, 10]) (I' := (fun (frm : List Int) (vw : Value) (xs : List Int) (M : List (Nat × Obj)) (w : World) => (frm.length = n) ∧ (∃ pos t, Bf n (cf n C) (gi U) (gi V) i j (toN of) (gi frm) pos t) ∧ (gi frm goal = -1) ∧ (∀ x, x ∈ xs → ∃ q : Nat, x = (q : Int) ∧ q < n ∧ 0 ≤ gi frm q) ∧ (∀ q, q < n → 0 ≤ gi frm q → (q : Int) ∈ xs ∨ (i < toN of q → ∀ m, m < n → cf n C (toN of q) m = gi U (toN of q) + gi V m → 0 ≤ gi frm m)) ∧ (xs.length + frm.count (-1) ≤ n + 1) ∧ (Qu w0 3 vw xs M) ∧ (HS w0 w ([(c, Row 2 (il C)), (u, Row 2 (il U)), (v, Row 2 (il V)), (o, Row 3 (il of)), (h, Row 3 (il has)), (B, Row 120 (GameR n c u v o h)), (gf, Row 3 (il frm))] ++ M))) (frm) (v1) (rest) (M1) (w)) rfl rfl rfl ?_ ?_
       ·
        refine ⟨hfl, ⟨_, _, hBf⟩, hfg, hxs1, fun q hq' h0 => ?_, by omega, hqn, hs⟩
        rcases hcl1 q hq' h0 with h5 | h5 | h5
        ·
         exact .inl h5
        ·
         rw [h5]; exact .inr fun h6 => absurd h6 (by omega)
        ·
         exact .inr h5
       ·
        simp only [List.length_cons]; omega
      ·
       obtain ⟨r, hr⟩ : ∃ r, r = toN of k0 := ⟨_, rfl⟩
       rw [← hr] at hofn hri hofe ⊢
       have hBox : w.heap[B]? = some (Row 120 (GameR n c u v o h)) := hs.has (B, _) (by simp)
       refine L_move rfl rfl (L_move rfl rfl (L_leq rfl rfl rfl (dfalse (by omega)) ?_))
       refine RL_then (W_if_false rfl (W_skip' (Nx_then (W_seq (W_region (L_move rfl rfl (L_move rfl rfl (L_call rfl Try.fun64 rfl (row_ok B c u v o h n r w hBox h1 h2 hofn) ?_))))))))
       rintro _ w' ⟨rfl, hs'⟩
       replace hs := hs.nil hs'
       clear hs' hBox
       obtain ⟨cn0, hcn0⟩ : ∃ cn0, cn0 = rest.length + frm.count (-1) := ⟨_, rfl⟩
       rw [← hcn0] at hcnt1
       refine L_len rfl Try.underlying93 rfl (L_move rfl rfl (RL_then (W_block ?_)))
       refine W_loop6 (fun (m : Nat) (frm' : List Int) (vw : Value) (xs : List Int) (M : List (Nat × Obj)) (w : World) => [(0, .pointer (some ⟨B, 0, none⟩)), (1, .int .i64 i), (2, .int .i64 j), (7, SlN gf n), (9, .int .i64 goal), (10, vw), (11, .int .i64 k0), (12, .int .i64 r), (64, .slice (some ⟨c, r * n, none⟩) n n), (65, .int .i64 n), (66, .int .i64 m)]) (fun (m : Nat) (frm' : List Int) (vw : Value) (xs : List Int) (M : List (Nat × Obj)) (w : World) => w) (fun (m : Nat) (frm' : List Int) (vw : Value) (xs : List Int) (M : List (Nat × Obj)) (w : World) => (m ≤ n) ∧ (frm'.length = n) ∧ (∃ pos t, Bf n (cf n C) (gi U) (gi V) i j (toN of) (gi frm') pos t) ∧ (gi frm' goal = -1) ∧ (∀ x, x ∈ xs → ∃ q : Nat, x = (q : Int) ∧ q < n ∧ 0 ≤ gi frm' q) ∧ (∀ q, q < n → 0 ≤ gi frm' q → (q : Int) ∈ xs ∨ q = k0 ∨ (i < toN of q → ∀ m, m < n → cf n C (toN of q) m = gi U (toN of q) + gi V m → 0 ≤ gi frm' m)) ∧ (∀ q, q < m → cf n C r q = gi U r + gi V q → 0 ≤ gi frm' q) ∧ (0 ≤ gi frm' k0) ∧ (xs.length + frm'.count (-1) ≤ cn0) ∧ (Qu w0 3 vw xs M) ∧ (HS w0 w ([(c, Row 2 (il C)), (u, Row 2 (il U)), (v, Row 2 (il V)), (o, Row 3 (il of)), (h, Row 3 (il has)), (B, Row 120 (GameR n c u v o h)), (gf, Row 3 (il frm'))] ++ M))) (fun (m : Nat) (frm' : List Int) (vw : Value) (xs : List Int) (M : List (Nat × Obj)) (w : World) => n - m) (0) (frm) (v1) (rest) (M1) (w') (is := [0, 1, 2, 7, 9, 10, 11, 12, 64, 65, 66]) rfl rfl ?_ ?_
       ·
        exact ⟨Nat.zero_le _, hfl, ⟨_, _, hBf⟩, hfg, hxs1, hcl1, fun _ h => absurd h (Nat.not_lt_zero _), hk0f, by omega, hqn, hs⟩
       ·
        clear hs hqn hxs1 hcl1 hBf hfg hk0f hfl
        intro m frm' vw xs M w hI
        show W _ _ _ _ [(0, .pointer (some ⟨B, 0, none⟩)), (1, .int .i64 i), (2, .int .i64 j), (7, SlN gf n), (9, .int .i64 goal), (10, vw), (11, .int .i64 k0), (12, .int .i64 r), (64, .slice (some ⟨c, r * n, none⟩) n n), (65, .int .i64 n), (66, .int .i64 m)] w
        obtain ⟨hm, hfl, ⟨pos, t, hBf⟩, hfg, hxs, hcl, hmt, hk0f, hcnt, hqn, hs⟩ := hI
        by_cases hmn : m < n
        ·
         have hjc := idx_lt hofn hmn
         have hcr : 0 ≤ C.getD (r * n + m) 0 ∧ C.getD (r * n + m) 0 ≤ 4503599627370496 := hC.rng r m hofn hmn
         have hUr : 0 ≤ U.getD r 0 ∧ U.getD r 0 ≤ 4503599627370496 := hbU r hofn
         have hVj : -4503599627370496 ≤ V.getD m 0 ∧ V.getD m 0 ≤ 0 := hbV m hmn
         by_cases hfm : 0 ≤ frm'.getD m 0
         ·
          refine W_seq (W_region (L_lss rfl rfl rfl (dtrue (by omega)) ?_))
          refine RL_then (W_seq (W_if_true rfl (W_skip' (Nx_then (W_seq (W_block (W_seq (W_region (L_move rfl rfl (L_idx1 rfl Try.underlying93 Try.ti2 rfl rfl (natc_k _) (by omega) rfl ?_))))))))))
          refine L_load rfl Try.one2 rfl (by rw [Addr.add_lit]; exact hs.cell (i := 0) rfl (il_get (by omega))) ?_
          refine L_assign rfl rfl (L_assign rfl rfl (RL_then (W_seq (W_seq (W_pht [0, 1, 2] [3, 4, 5, 6, 7, 8, 9, 10, 11, 12, 13, 14, 15, 16, 17, 18, 19, 20, 21, 22, 23] [] (fun _ _ _ => False) Try.mixed (by kernel_rfl) (fun _ _ _ _ _ h => h) hs ?_)))))
          refine PL_val rfl (fun w => R_move rfl) ?_
          refine PL_val rfl (fun w => R_move rfl) ?_
          refine PL_val rfl (fun w => R_idx1 Try.underlying60 Try.ti3 rfl rfl (natc_k _) (by omega) rfl) ?_
          refine PL_end (HL_val rfl (fun w hs => R_load Try.one3 rfl (by exact hs.cellA (i := 6) rfl (il_get (by omega)))) ?_)
          refine HL_val rfl (fun w hs => R_geq rfl rfl (dtrue (by omega))) ?_
          refine HL_val rfl (fun w hs => R_move rfl) ?_
          refine HL_skip rfl rfl rfl rfl (HL_skip rfl rfl rfl rfl (HL_skip rfl rfl rfl rfl (HL_skip rfl rfl rfl rfl (HL_skip rfl rfl rfl rfl (HL_skip rfl rfl rfl rfl (HL_skip rfl rfl rfl rfl (HL_skip rfl rfl rfl rfl (HL_skip rfl rfl rfl rfl (HL_skip rfl rfl rfl rfl (HL_skip rfl rfl rfl rfl (HL_skip rfl rfl rfl rfl (HL_skip rfl rfl rfl rfl ?_))))))))))))
          refine HL_skip rfl rfl rfl rfl (HL_skip rfl rfl rfl rfl (HL_skip rfl rfl rfl rfl (HL_skip rfl rfl rfl rfl (HL_val rfl (fun w hs => R_pick_t rfl rfl) ?_))))
          refine HL_tail ?_
          intro w hs
          refine RL_then (W_if_true rfl (W_exit' (Ex_then_exit (Ex_block_hit (Nx_then (W_region (L_add rfl rfl rfl (wrp_i64 (by omega)) ?_)))))))
          refine L_move rfl rfl (RL_nil' ?_)
          refine Nx_loopP (m + 1, frm', vw, xs, M, _) (is := [0, 1, 2, 7, 9, 10, 11, 12, 64, 65, 66]) (I' := (fun (m : Nat) (frm' : List Int) (vw : Value) (xs : List Int) (M : List (Nat × Obj)) (w : World) => (m ≤ n) ∧ (frm'.length = n) ∧ (∃ pos t, Bf n (cf n C) (gi U) (gi V) i j (toN of) (gi frm') pos t) ∧ (gi frm' goal = -1) ∧ (∀ x, x ∈ xs → ∃ q : Nat, x = (q : Int) ∧ q < n ∧ 0 ≤ gi frm' q) ∧ (∀ q, q < n → 0 ≤ gi frm' q → (q : Int) ∈ xs ∨ q = k0 ∨ (i < toN of q → ∀ m, m < n → cf n C (toN of q) m = gi U (toN of q) + gi V m → 0 ≤ gi frm' m)) ∧ (∀ q, q < m → cf n C r q = gi U r + gi V q → 0 ≤ gi frm' q) ∧ (0 ≤ gi frm' k0) ∧ (xs.length + frm'.count (-1) ≤ cn0) ∧ (Qu w0 3 vw xs M) ∧ (HS w0 w ([(c, Row 2 (il C)), (u, Row 2 (il U)), (v, Row 2 (il V)), (o, Row 3 (il of)), (h, Row 3 (il has)), (B, Row 120 (GameR n c u v o h)), (gf, Row 3 (il frm'))] ++ M))) (m + 1) (frm') (vw) (xs) (M) (_)) rfl rfl rfl ?_ ?_
          ·
           refine ⟨by omega, hfl, ⟨_, _, hBf⟩, hfg, hxs, hcl, fun q hq' h0 => ?_, hk0f, hcnt, hqn, hs⟩
           by_cases hqm : q = m
           ·
            rw [hqm]; exact hfm
           ·
            exact hmt q (by omega) h0
          ·
           omega
         ·
          have hfm1 : gi frm' m = -1 := by
           rcases hBf.rng m hmn with h5 | h5
           ·
            exact h5
           ·
            exact absurd h5.1 hfm
          by_cases htt : C.getD (r * n + m) 0 = U.getD r 0 + V.getD m 0
          ·
           have hset : ∀ q, gi (frm'.set m (k0 : Int)) q = if q = m then (k0 : Int) else gi frm' q := fun q => by rw [gi, gset (by omega)]
           have hBf2 := hBf.add (frm' := gi (frm'.set m (k0 : Int))) hfm1 hmn hk0n hk0f (by omega) (by rw [← hr]; exact htt) (by rw [hset, if_pos rfl]) (fun q hq' => by rw [hset, if_neg hq'])
           have hkeep : ∀ q, 0 ≤ gi frm' q → 0 ≤ gi (frm'.set m (k0 : Int)) q := fun q h0 => by rw [hset]; split <;> omega
           refine W_seq (W_region (L_lss rfl rfl rfl (dtrue (by omega)) ?_))
           refine RL_then (W_seq (W_if_true rfl (W_skip' (Nx_then (W_seq (W_block (W_seq (W_region (L_move rfl rfl (L_idx1 rfl Try.underlying93 Try.ti2 rfl rfl (natc_k _) (by omega) rfl ?_))))))))))
           refine L_load rfl Try.one2 rfl (by rw [Addr.add_lit]; exact hs.cell (i := 0) rfl (il_get (by omega))) ?_
           refine L_assign rfl rfl (L_assign rfl rfl (RL_then (W_seq (W_seq (W_pht [0, 1, 2] [3, 4, 5, 6, 7, 8, 9, 10, 11, 12, 13, 14, 15, 16, 17, 18, 19, 20, 21, 22, 23] [] (fun _ _ _ => False) Try.mixed (by kernel_rfl) (fun _ _ _ _ _ h => h) hs ?_)))))
           refine PL_val rfl (fun w => R_move rfl) ?_
           refine PL_val rfl (fun w => R_move rfl) ?_
           refine PL_val rfl (fun w => R_idx1 Try.underlying60 Try.ti3 rfl rfl (natc_k _) (by omega) rfl) ?_
           refine PL_end (HL_val rfl (fun w hs => R_load Try.one3 rfl (by exact hs.cellA (i := 6) rfl (il_get (by omega)))) ?_)
           refine HL_val rfl (fun w hs => R_geq rfl rfl (dfalse (by omega))) ?_
           refine HL_val rfl (fun w hs => R_move rfl) ?_
           refine HL_want rfl rfl (HL_val rfl (fun w hs => R_move rfl) ?_)
           refine HL_want rfl rfl (HL_val rfl (fun w hs => R_move rfl) ?_)
           refine HL_want rfl rfl (HL_val rfl (fun w hs => R_nilCheck rfl) ?_)
           refine HL_want rfl rfl (HL_val rfl (fun w hs => R_fieldAddr (off := 2) Try.underlying120 rfl rfl Try.ti93 rfl) ?_)
           refine HL_want rfl rfl (HL_val rfl (fun w hs => R_load Try.one93 rfl (by exact hs.cellA (i := 5) rfl rfl)) ?_)
           refine HL_want rfl rfl (HL_val rfl (fun w hs => R_move rfl) ?_)
           refine HL_want rfl rfl (HL_val rfl (fun w hs => R_idx1 Try.underlying93 Try.ti2 rfl rfl (natc_k _) (by omega) rfl) ?_)
           refine HL_want rfl rfl (HL_val rfl (fun w hs => R_load Try.one2 rfl (by exact hs.cellA (i := 1) rfl (il_get (by omega)))) ?_)
           refine HL_want rfl rfl (HL_val rfl (fun w hs => R_move rfl) ?_)
           refine HL_want rfl rfl (HL_val rfl (fun w hs => R_nilCheck rfl) ?_)
           refine HL_want rfl rfl (HL_val rfl (fun w hs => R_fieldAddr (off := 3) Try.underlying120 rfl rfl Try.ti93 rfl) ?_)
           refine HL_want rfl rfl (HL_val rfl (fun w hs => R_load Try.one93 rfl (by exact hs.cellA (i := 5) rfl rfl)) ?_)
           refine HL_want rfl rfl (HL_val rfl (fun w hs => R_move rfl) ?_)
           refine HL_want rfl rfl (HL_val rfl (fun w hs => R_idx1 Try.underlying93 Try.ti2 rfl rfl (natc_k _) (by omega) rfl) ?_)
           refine HL_want rfl rfl (HL_val rfl (fun w hs => R_load Try.one2 rfl (by exact hs.cellA (i := 2) rfl (il_get (by omega)))) ?_)
           refine HL_want rfl rfl (HL_val rfl (fun w hs => R_add rfl rfl (wrp_i64 (by omega))) ?_)
           refine HL_want rfl rfl (HL_val rfl (fun w hs => R_neq rfl rfl (dfalse (by omega))) ?_)
           refine HL_val rfl (fun w hs => R_pick_f rfl rfl) ?_
           refine HL_tail ?_
           intro w hs
           refine RL_then (W_if_false rfl ?_)
           by_cases hmg : m = goal
           ·
            refine W_skip' (Nx_then (W_seq (W_region (L_move rfl rfl (L_move rfl rfl (L_move rfl rfl (L_idx1 rfl Try.underlying60 Try.ti3 rfl rfl (natc_k _) (by omega) rfl ?_)))))))
            refine L_store hs (i := 6) rfl Try.ti3 rfl rfl (by exact add_lit0 _ _) (by simp; omega) rfl ?_
            intro w hs
            dsimp only [List.set_cons_succ, List.set_cons_zero, List.cons_append, List.nil_append] at hs
            refine RL_then (W_seq (W_seq (W_region (L_move rfl rfl (L_move rfl rfl (L_eql rfl rfl rfl (dtrue (by omega)) ?_))))))
            refine RL_then (W_if_true rfl (W_exit' (Ex_then_exit (Ex_block_miss rfl (Ex_then_exit (Ex_loop_exit (Ex_block_miss rfl (Ex_block_miss rfl (Ex_loop_exit (Ex_block_hit ?_))))))))))
            rw [il_set] at hs
            refine Nx_cutP (frm'.set m (k0 : Int), _) (is := [0, 1, 2, 7, 9]) (I' := (fun (frm : List Int) (w : World) => (frm.length = n) ∧ (∃ pos t, Bf n (cf n C) (gi U) (gi V) i j (toN of) (gi frm) pos t) ∧ (gi frm goal = -1 → ∀ q, q < n → 0 ≤ gi frm q → i < toN of q → ∀ m, m < n → cf n C (toN of q) m = gi U (toN of q) + gi V m → 0 ≤ gi frm m) ∧ (HS w0 w [(c, Row 2 (il C)), (u, Row 2 (il U)), (v, Row 2 (il V)), (o, Row 3 (il of)), (h, Row 3 (il has)), (B, Row 120 (GameR n c u v o h)), (gf, Row 3 (il frm))])) (frm'.set m (k0 : Int)) (_)) rfl rfl rfl ?_
            refine ⟨by simp [hfl], ⟨_, _, hBf2⟩, fun h5 => ?_, hs.dropR hqn.own⟩
            rw [hset, if_pos hmg.symm] at h5
            omega
           ·
            obtain ⟨qa, qc, rfl⟩ := Qu.len hqn
            refine W_skip' (Nx_then (W_seq (W_region (L_move rfl rfl (L_move rfl rfl (L_move rfl rfl (L_idx1 rfl Try.underlying60 Try.ti3 rfl rfl (natc_k _) (by omega) rfl ?_)))))))
            refine L_store hs (i := 6) rfl Try.ti3 rfl rfl (by exact add_lit0 _ _) (by simp; omega) rfl ?_
            intro w hs
            dsimp only [List.set_cons_succ, List.set_cons_zero, List.cons_append, List.nil_append] at hs
            refine RL_then (W_seq (W_seq (W_region (L_move rfl rfl (L_move rfl rfl (L_eql rfl rfl rfl (dfalse (by omega)) ?_))))))
            refine RL_then (W_if_false rfl ?_)
            rw [il_set] at hs
            refine W_skip' (Nx_then (W_region (L_move rfl rfl (L_move rfl rfl (L_buildSlice rfl hs Try.underlying60 Try.ti3 rfl (by decide) rfl (by simp [Value.cells]) ?_)))))
            intro b104 w hb104 hnb104 hs
            simp only [List.flatMap_cons, List.flatMap_nil, cells_int, cells_float, cells_complex, cells_bool, cells_string, cells_pointer, cells_slice, cells_map, cells_agg, List.append_nil, List.set_cons_succ, List.set_cons_zero, List.cons_append, List.nil_append] at hs
            have hcb : frm'.count (-1) ≤ n := by rw [← hfl]; exact List.count_le_length
            refine L_appendQ rfl Try.underlying60 Try.ti3 rfl (L := [(c, Row 2 (il C)), (u, Row 2 (il U)), (v, Row 2 (il V)), (o, Row 3 (il of)), (h, Row 3 (il has)), (B, Row 120 (GameR n c u v o h)), (gf, Row 3 (il (frm'.set m (k0 : Int))))]) hs hb104 hqn rfl rfl (by omega) (by omega) ?_
            intro v2 w M2 hs hqn2
            refine L_assign rfl rfl (RL_nil' (Nx_block (Nx_then (W_region (L_add rfl rfl rfl (wrp_i64 (by omega)) ?_)))))
            refine L_move rfl rfl (RL_nil' ?_)
            refine Nx_loopP (m + 1, frm'.set m (k0 : Int), v2, xs ++ [(m : Int)], M2, _) (is := [0, 1, 2, 7, 9, 10, 11, 12, 64, 65, 66]) (I' := (fun (m : Nat) (frm' : List Int) (vw : Value) (xs : List Int) (M : List (Nat × Obj)) (w : World) => (m ≤ n) ∧ (frm'.length = n) ∧ (∃ pos t, Bf n (cf n C) (gi U) (gi V) i j (toN of) (gi frm') pos t) ∧ (gi frm' goal = -1) ∧ (∀ x, x ∈ xs → ∃ q : Nat, x = (q : Int) ∧ q < n ∧ 0 ≤ gi frm' q) ∧ (∀ q, q < n → 0 ≤ gi frm' q → (q : Int) ∈ xs ∨ q = k0 ∨ (i < toN of q → ∀ m, m < n → cf n C (toN of q) m = gi U (toN of q) + gi V m → 0 ≤ gi frm' m)) ∧ (∀ q, q < m → cf n C r q = gi U r + gi V q → 0 ≤ gi frm' q) ∧ (0 ≤ gi frm' k0) ∧ (xs.length + frm'.count (-1) ≤ cn0) ∧ (Qu w0 3 vw xs M) ∧ (HS w0 w ([(c, Row 2 (il C)), (u, Row 2 (il U)), (v, Row 2 (il V)), (o, Row 3 (il of)), (h, Row 3 (il has)), (B, Row 120 (GameR n c u v o h)), (gf, Row 3 (il frm'))] ++ M))) (m + 1) (frm'.set m (k0 : Int)) (v2) (xs ++ [(m : Int)]) (M2) (_)) rfl rfl rfl ?_ ?_
            ·
             refine ⟨by omega, by simp [hfl], ⟨_, _, hBf2⟩, by rw [hset, if_neg (fun he => hmg he.symm)]; exact hfg, fun x hx => ?_, fun q hq' h0 => ?_, fun q hq' h0 => ?_, hkeep _ hk0f, ?_, hqn2, hs⟩
             ·
              rcases List.mem_append.1 hx with h5 | h5
              ·
               obtain ⟨q, h6, h7, h8⟩ := hxs x h5
               exact ⟨q, h6, h7, hkeep q h8⟩
              ·
               rw [List.mem_singleton] at h5
               exact ⟨m, h5, hmn, by rw [hset, if_pos rfl]; omega⟩
             ·
              by_cases hqm : q = m
              ·
               rw [hqm]; exact .inl (by simp)
              ·
               rw [hset, if_neg hqm] at h0
               rcases hcl q hq' h0 with h5 | h5 | h5
               ·
                exact .inl (List.mem_append_left _ h5)
               ·
                exact .inr (.inl h5)
               ·
                exact .inr (.inr fun h6 q2 hq2 ht2 => hkeep q2 (h5 h6 q2 hq2 ht2))
             ·
              by_cases hqm : q = m
              ·
               rw [hqm, hset, if_pos rfl]; omega
              ·
               exact hkeep q (hmt q (by omega) h0)
             ·
              have h5 : frm'[m]'(by omega) = -1 := by
               have := hfm1
               simp only [gi, List.getD, List.getElem?_eq_getElem (show m < frm'.length by omega), Option.getD_some] at this
               exact this
              have h6 : 0 < frm'.count (-1) := List.count_pos_iff.2 (by rw [← h5]; exact List.getElem_mem _)
              have h7 : ((k0 : Int) == -1) = false := by simp
              rw [List.count_set (by omega), h5, h7]
              simp
              omega
            ·
             omega
          ·
           refine W_seq (W_region (L_lss rfl rfl rfl (dtrue (by omega)) ?_))
           refine RL_then (W_seq (W_if_true rfl (W_skip' (Nx_then (W_seq (W_block (W_seq (W_region (L_move rfl rfl (L_idx1 rfl Try.underlying93 Try.ti2 rfl rfl (natc_k _) (by omega) rfl ?_))))))))))
           refine L_load rfl Try.one2 rfl (by rw [Addr.add_lit]; exact hs.cell (i := 0) rfl (il_get (by omega))) ?_
           refine L_assign rfl rfl (L_assign rfl rfl (RL_then (W_seq (W_seq (W_pht [0, 1, 2] [3, 4, 5, 6, 7, 8, 9, 10, 11, 12, 13, 14, 15, 16, 17, 18, 19, 20, 21, 22, 23] [] (fun _ _ _ => False) Try.mixed (by kernel_rfl) (fun _ _ _ _ _ h => h) hs ?_)))))
           refine PL_val rfl (fun w => R_move rfl) ?_
           refine PL_val rfl (fun w => R_move rfl) ?_
           refine PL_val rfl (fun w => R_idx1 Try.underlying60 Try.ti3 rfl rfl (natc_k _) (by omega) rfl) ?_
           refine PL_end (HL_val rfl (fun w hs => R_load Try.one3 rfl (by exact hs.cellA (i := 6) rfl (il_get (by omega)))) ?_)
           refine HL_val rfl (fun w hs => R_geq rfl rfl (dfalse (by omega))) ?_
           refine HL_val rfl (fun w hs => R_move rfl) ?_
           refine HL_want rfl rfl (HL_val rfl (fun w hs => R_move rfl) ?_)
           refine HL_want rfl rfl (HL_val rfl (fun w hs => R_move rfl) ?_)
           refine HL_want rfl rfl (HL_val rfl (fun w hs => R_nilCheck rfl) ?_)
           refine HL_want rfl rfl (HL_val rfl (fun w hs => R_fieldAddr (off := 2) Try.underlying120 rfl rfl Try.ti93 rfl) ?_)
           refine HL_want rfl rfl (HL_val rfl (fun w hs => R_load Try.one93 rfl (by exact hs.cellA (i := 5) rfl rfl)) ?_)
           refine HL_want rfl rfl (HL_val rfl (fun w hs => R_move rfl) ?_)
           refine HL_want rfl rfl (HL_val rfl (fun w hs => R_idx1 Try.underlying93 Try.ti2 rfl rfl (natc_k _) (by omega) rfl) ?_)
           refine HL_want rfl rfl (HL_val rfl (fun w hs => R_load Try.one2 rfl (by exact hs.cellA (i := 1) rfl (il_get (by omega)))) ?_)
           refine HL_want rfl rfl (HL_val rfl (fun w hs => R_move rfl) ?_)
           refine HL_want rfl rfl (HL_val rfl (fun w hs => R_nilCheck rfl) ?_)
           refine HL_want rfl rfl (HL_val rfl (fun w hs => R_fieldAddr (off := 3) Try.underlying120 rfl rfl Try.ti93 rfl) ?_)
           refine HL_want rfl rfl (HL_val rfl (fun w hs => R_load Try.one93 rfl (by exact hs.cellA (i := 5) rfl rfl)) ?_)
           refine HL_want rfl rfl (HL_val rfl (fun w hs => R_move rfl) ?_)
           refine HL_want rfl rfl (HL_val rfl (fun w hs => R_idx1 Try.underlying93 Try.ti2 rfl rfl (natc_k _) (by omega) rfl) ?_)
           refine HL_want rfl rfl (HL_val rfl (fun w hs => R_load Try.one2 rfl (by exact hs.cellA (i := 2) rfl (il_get (by omega)))) ?_)
           refine HL_want rfl rfl (HL_val rfl (fun w hs => R_add rfl rfl (wrp_i64 (by omega))) ?_)
           refine HL_want rfl rfl (HL_val rfl (fun w hs => R_neq rfl rfl (dtrue (by omega))) ?_)
           refine HL_val rfl (fun w hs => R_pick_f rfl rfl) ?_
           refine HL_tail ?_
           intro w hs
           refine RL_then (W_if_true rfl (W_exit' (Ex_then_exit (Ex_block_hit (Nx_then (W_region (L_add rfl rfl rfl (wrp_i64 (by omega)) ?_)))))))
           refine L_move rfl rfl (RL_nil' ?_)
           refine Nx_loopP (m + 1, frm', vw, xs, M, _) (is := [0, 1, 2, 7, 9, 10, 11, 12, 64, 65, 66]) (I' := (fun (m : Nat) (frm' : List Int) (vw : Value) (xs : List Int) (M : List (Nat × Obj)) (w : World) => (m ≤ n) ∧ (frm'.length = n) ∧ (∃ pos t, Bf n (cf n C) (gi U) (gi V) i j (toN of) (gi frm') pos t) ∧ (gi frm' goal = -1) ∧ (∀ x, x ∈ xs → ∃ q : Nat, x = (q : Int) ∧ q < n ∧ 0 ≤ gi frm' q) ∧ (∀ q, q < n → 0 ≤ gi frm' q → (q : Int) ∈ xs ∨ q = k0 ∨ (i < toN of q → ∀ m, m < n → cf n C (toN of q) m = gi U (toN of q) + gi V m → 0 ≤ gi frm' m)) ∧ (∀ q, q < m → cf n C r q = gi U r + gi V q → 0 ≤ gi frm' q) ∧ (0 ≤ gi frm' k0) ∧ (xs.length + frm'.count (-1) ≤ cn0) ∧ (Qu w0 3 vw xs M) ∧ (HS w0 w ([(c, Row 2 (il C)), (u, Row 2 (il U)), (v, Row 2 (il V)), (o, Row 3 (il of)), (h, Row 3 (il has)), (B, Row 120 (GameR n c u v o h)), (gf, Row 3 (il frm'))] ++ M))) (m + 1) (frm') (vw) (xs) (M) (_)) rfl rfl rfl ?_ ?_
           ·
            refine ⟨by omega, hfl, ⟨_, _, hBf⟩, hfg, hxs, hcl, fun q hq' h0 => ?_, hk0f, hcnt, hqn, hs⟩
            by_cases hqm : q = m
            ·
             rw [hqm] at h0; exact absurd h0 htt
            ·
             exact hmt q (by omega) h0
           ·
            omega
        ·
         refine W_seq (W_region (L_lss rfl rfl rfl (dfalse (by omega)) ?_))
         refine RL_then (W_seq (W_if_false rfl (W_exit' (Ex_then_exit (Ex_loop_exit (Ex_block_hit (Nx_block ?_)))))))
         refine Nx_loopP (frm', vw, xs, M, w) (is := [0, 1, 2, 7, 9, 10]) (I' := (fun (frm : List Int) (vw : Value) (xs : List Int) (M : List (Nat × Obj)) (w : World) => (frm.length = n) ∧ (∃ pos t, Bf n (cf n C) (gi U) (gi V) i j (toN of) (gi frm) pos t) ∧ (gi frm goal = -1) ∧ (∀ x, x ∈ xs → ∃ q : Nat, x = (q : Int) ∧ q < n ∧ 0 ≤ gi frm q) ∧ (∀ q, q < n → 0 ≤ gi frm q → (q : Int) ∈ xs ∨ (i < toN of q → ∀ m, m < n → cf n C (toN of q) m = gi U (toN of q) + gi V m → 0 ≤ gi frm m)) ∧ (xs.length + frm.count (-1) ≤ n + 1) ∧ (Qu w0 3 vw xs M) ∧ (HS w0 w ([(c, Row 2 (il C)), (u, Row 2 (il U)), (v, Row 2 (il V)), (o, Row 3 (il of)), (h, Row 3 (il has)), (B, Row 120 (GameR n c u v o h)), (gf, Row 3 (il frm))] ++ M))) (frm') (vw) (xs) (M) (w)) rfl rfl rfl ?_ ?_
         ·
          refine ⟨hfl, ⟨_, _, hBf⟩, hfg, hxs, fun q hq' h0 => ?_, by omega, hqn, hs⟩
          rcases hcl q hq' h0 with h5 | h5 | h5
          ·
           exact .inl h5
          ·
           rw [h5, ← hr]; exact .inr fun _ q2 hq2 ht2 => hmt q2 (by omega) ht2
          ·
           exact .inr h5
         ·
          simp only [List.length_cons]; omega
   ·
    clear hs hBf hfg0 hcl0 hf1 hfl
    intro frm w hI
    show W _ _ _ _ [(0, .pointer (some ⟨B, 0, none⟩)), (1, .int .i64 i), (2, .int .i64 j), (7, SlN gf n), (9, .int .i64 goal)] w
    obtain ⟨hfl, ⟨pos, t, hBf⟩, hcl, hs⟩ := hI
    have hOf : Own w0 [(gf, Row 3 (il frm))] := Own.cons hgfo Own.nil
    by_cases hgf : frm.getD goal 0 < 0
    ·
     have hg1 : gi frm goal = -1 := by
      rcases hBf.rng goal hgon with h5 | h5
      ·
       exact h5
      ·
       have h6 : 0 ≤ frm.getD goal 0 := h5.1
       omega
     have hno : ∀ M, TB n (cf n C) (gi U) (gi V) M → (∀ q, q < i → M q = toN has q) → M i ≠ j := fun M hM hlow =>
      hPf.no_turn hi hj (fun q => 0 ≤ gi frm q) (by show 0 ≤ gi frm j; rw [hBf.j0]; omega) (by show ¬0 ≤ gi frm (toN has i); rw [← hgo, hg1]; omega) (fun q hq' h0 hiq m hm ht => hcl hg1 q hq' h0 hiq m hm ht) hM hlow
     refine W_seq (W_seq (W_region (L_move rfl rfl (L_move rfl rfl (L_idx1 rfl Try.underlying60 Try.ti3 rfl rfl (natc_k _) (by omega) rfl ?_)))))
     refine L_load rfl Try.one3 rfl (by exact hs.cellA (i := 6) rfl (il_get (by omega))) ?_
     refine L_lss rfl rfl rfl (dtrue (by omega)) ?_
     refine RL_then (W_if_true rfl (W_seq (W_region (L_assign rfl rfl (RL_then (W_ret' (Ex_then_ret (Ex_scope_ret (Ex_done1 rfl rfl ?_)))))))))
     exact ⟨_, rfl, .inl ⟨rfl, hs.dropR (L := GameL B c u v o h n C U V of has) hOf, hno⟩⟩
    ·
     have hgf0 : 0 ≤ gi frm goal := by simp only [gi]; omega
     refine W_seq (W_seq (W_region (L_move rfl rfl (L_move rfl rfl (L_idx1 rfl Try.underlying60 Try.ti3 rfl rfl (natc_k _) (by omega) rfl ?_)))))
     refine L_load rfl Try.one3 rfl (by exact hs.cellA (i := 6) rfl (il_get (by omega))) ?_
     refine L_lss rfl rfl rfl (dfalse (by omega)) ?_
     refine RL_then (W_if_false rfl (W_skip' (Nx_then (W_seq (W_seq (W_region (L_move rfl rfl (L_assign rfl rfl (RL_then (W_block ?_))))))))))
     refine W_loop4 (fun (m : Nat) (of' : List Int) (has' : List Int) (w : World) => [(0, .pointer (some ⟨B, 0, none⟩)), (1, .int .i64 i), (2, .int .i64 j), (7, SlN gf n), (15, .int .i64 m)]) (fun (m : Nat) (of' : List Int) (has' : List Int) (w : World) => w) (fun (m : Nat) (of' : List Int) (has' : List Int) (w : World) => (m < n) ∧ (0 ≤ gi frm m) ∧ (InR n of') ∧ (InR n has') ∧ (Rot n (cf n C) (gi U) (gi V) i (toN of) (toN has) (fun q => 0 ≤ gi frm q) pos (toN of') (toN has') m) ∧ (HS w0 w [(c, Row 2 (il C)), (u, Row 2 (il U)), (v, Row 2 (il V)), (o, Row 3 (il of')), (h, Row 3 (il has')), (B, Row 120 (GameR n c u v o h)), (gf, Row 3 (il frm))])) (fun (m : Nat) (of' : List Int) (has' : List Int) (w : World) => pos m) (goal) (of) (has) (_) (is := [0, 1, 2, 7, 15]) rfl rfl ?_ ?_
     ·
      exact ⟨hgon, hgf0, hof, hhas, by rw [hgo]; exact hPf.rot hi, hs⟩
     ·
      clear hs hgf hgf0
      intro m of' has' w hI
      show W _ _ _ _ [(0, .pointer (some ⟨B, 0, none⟩)), (1, .int .i64 i), (2, .int .i64 j), (7, SlN gf n), (15, .int .i64 m)] w
      obtain ⟨hmn, hmf, hof', hhas', hRot, hs⟩ := hI
      have hol' := hof'.len
      have hhl' := hhas'.len
      by_cases hmj : m = j
      ·
       obtain ⟨o1, o2, o3⟩ := hof'.set hj hi
       obtain ⟨q1, q2, q3⟩ := hhas'.set hi hj
       rw [hmj] at hRot
       have hfin := hRot.fin hPf.feas hi hj htj o2 o3 q2 q3
       refine W_seq (W_seq (W_region (L_move rfl rfl (L_move rfl rfl (L_neq rfl rfl rfl (dfalse (by omega)) ?_)))))
       refine RL_then (W_if_false rfl (W_exit' (Ex_then_exit (Ex_loop_exit (Ex_block_hit (Nx_then (W_seq (W_pht [0, 1, 2, 4, 5, 6, 7, 9, 10, 11] [3, 8, 12] [13, 14, 15] (fun _ _ _ => False) Try.mixed (by kernel_rfl) (fun _ _ _ _ _ h => h) hs ?_))))))))
       refine PL_val rfl (fun w => R_move rfl) ?_
       refine PL_val rfl (fun w => R_nilCheck rfl) ?_
       refine PL_val rfl (fun w => R_fieldAddr (off := 4) Try.underlying120 rfl rfl Try.ti60 rfl) ?_
       refine PL_val rfl (fun w => R_move rfl) ?_
       refine PL_val rfl (fun w => R_move rfl) ?_
       refine PL_val rfl (fun w => R_nilCheck rfl) ?_
       refine PL_val rfl (fun w => R_fieldAddr (off := 5) Try.underlying120 rfl rfl Try.ti60 rfl) ?_
       refine PL_val rfl (fun w => R_move rfl) ?_
       refine PL_val rfl (fun w => R_move rfl) ?_
       refine PL_val rfl (fun w => R_move rfl) ?_
       refine PL_end (HL_val rfl (fun w hs => R_load Try.one60 rfl (by exact hs.cellA (i := 5) rfl rfl)) ?_)
       refine HL_val rfl (fun w hs => R_load Try.one60 rfl (by exact hs.cellA (i := 5) rfl rfl)) ?_
       refine HL_val rfl (fun w hs => R_idx1 Try.underlying60 Try.ti3 rfl rfl (natc_k _) (by omega) rfl) ?_
       refine HL_tail ?_
       intro w hs
       refine L_store hs (i := 3) rfl Try.ti3 rfl rfl (by exact add_lit0 _ _) (by simp; omega) rfl ?_
       intro w hs
       dsimp only [List.set_cons_succ, List.set_cons_zero, List.cons_append, List.nil_append] at hs
       refine L_idx1 rfl Try.underlying60 Try.ti3 rfl rfl (natc_k _) (by omega) rfl ?_
       refine L_store hs (i := 4) rfl Try.ti3 rfl rfl (by exact add_lit0 _ _) (by simp; omega) rfl ?_
       intro w hs
       dsimp only [List.set_cons_succ, List.set_cons_zero, List.cons_append, List.nil_append] at hs
       refine RL_then (W_seq (W_region (L_assign rfl rfl (RL_then (W_ret' (Ex_scope_ret (Ex_done1 rfl rfl ?_)))))))
       rw [il_set, il_set] at hs
       exact ⟨_, rfl, .inr ⟨rfl, _, _, hs.dropR (L := GameL B c u v o h n C U V (of'.set j i) (has'.set i j)) hOf, o1, q1, hfin, fun q hq' => by rw [q3 q (by omega)]; exact hRot.low q hq', q2⟩⟩
      ·
       obtain ⟨p1, p2, p3, p4⟩ := hBf.par m hmn hmf hmj
       have hkk : (gi frm m).toNat < n := by
        rcases hBf.rng m hmn with h5 | h5 <;> omega
       obtain ⟨k, hk⟩ : ∃ k, k = (gi frm m).toNat := ⟨_, rfl⟩
       have hke : frm.getD m 0 = (k : Int) := by rw [hk]; show frm.getD m 0 = (((frm.getD m 0).toNat : Nat) : Int); have : 0 ≤ frm.getD m 0 := hmf; omega
       rw [← hk] at p1 p2 p3 p4 hkk
       obtain ⟨hoe, hon⟩ := hof'.nat hkk
       obtain ⟨r, hr⟩ : ∃ r, r = toN of' k := ⟨_, rfl⟩
       rw [← hr] at hoe hon
       obtain ⟨o1, o2, o3⟩ := hof'.set hmn hon
       obtain ⟨q1, q2, q3⟩ := hhas'.set hon hmn
       have hst := hRot.step hmn hkk p1 p2 p3 p4 (by rw [o2, hr]) o3 (by rw [← hr]; exact q2) (fun c hc => q3 c (by rw [hr]; exact hc))
       refine W_seq (W_seq (W_region (L_move rfl rfl (L_move rfl rfl (L_neq rfl rfl rfl (dtrue (by omega)) ?_)))))
       refine RL_then (W_if_true rfl (W_skip' (Nx_then (W_seq (W_block (W_seq (W_pht [0, 1, 2, 4, 5, 6] [3, 7, 8, 9, 10] [] (fun _ _ _ => False) Try.mixed (by kernel_rfl) (fun _ _ _ _ _ h => h) hs ?_)))))))
       refine PL_val rfl (fun w => R_move rfl) ?_
       refine PL_val rfl (fun w => R_nilCheck rfl) ?_
       refine PL_val rfl (fun w => R_fieldAddr (off := 4) Try.underlying120 rfl rfl Try.ti60 rfl) ?_
       refine PL_val rfl (fun w => R_move rfl) ?_
       refine PL_val rfl (fun w => R_move rfl) ?_
       refine PL_val rfl (fun w => R_idx1 Try.underlying60 Try.ti3 rfl rfl (natc_k _) (by omega) rfl) ?_
       refine PL_end (HL_val rfl (fun w hs => R_load Try.one60 rfl (by exact hs.cellA (i := 5) rfl rfl)) ?_)
       refine HL_val rfl (fun w hs => R_load Try.one3 rfl (by exact hs.cellA (i := 6) rfl (il_get (by omega)))) ?_
       rw [hke]
       refine HL_val rfl (fun w hs => R_idx1 Try.underlying60 Try.ti3 rfl rfl (natc_k _) (by omega) rfl) ?_
       refine HL_val rfl (fun w hs => R_load Try.one3 rfl (by exact hs.cellA (i := 3) rfl (il_get (by omega)))) ?_
       refine HL_val rfl (fun w hs => R_assign rfl) ?_
       refine HL_tail ?_
       intro w hs
       refine RL_then (W_pht [0, 1, 2, 4, 5, 6, 7, 9, 10, 11] [3, 8, 12] [13, 14, 15] (fun _ _ _ => False) Try.mixed (by kernel_rfl) (fun _ _ _ _ _ h => h) hs ?_)
       rw [hoe]
       refine PL_val rfl (fun w => R_move rfl) ?_
       refine PL_val rfl (fun w => R_nilCheck rfl) ?_
       refine PL_val rfl (fun w => R_fieldAddr (off := 4) Try.underlying120 rfl rfl Try.ti60 rfl) ?_
       refine PL_val rfl (fun w => R_move rfl) ?_
       refine PL_val rfl (fun w => R_move rfl) ?_
       refine PL_val rfl (fun w => R_nilCheck rfl) ?_
       refine PL_val rfl (fun w => R_fieldAddr (off := 5) Try.underlying120 rfl rfl Try.ti60 rfl) ?_
       refine PL_val rfl (fun w => R_move rfl) ?_
       refine PL_val rfl (fun w => R_move rfl) ?_
       refine PL_val rfl (fun w => R_move rfl) ?_
       refine PL_end (HL_val rfl (fun w hs => R_load Try.one60 rfl (by exact hs.cellA (i := 5) rfl rfl)) ?_)
       refine HL_val rfl (fun w hs => R_load Try.one60 rfl (by exact hs.cellA (i := 5) rfl rfl)) ?_
       refine HL_val rfl (fun w hs => R_idx1 Try.underlying60 Try.ti3 rfl rfl (natc_k _) (by omega) rfl) ?_
       refine HL_tail ?_
       intro w hs
       refine L_store hs (i := 3) rfl Try.ti3 rfl rfl (by exact add_lit0 _ _) (by simp; omega) rfl ?_
       intro w hs
       dsimp only [List.set_cons_succ, List.set_cons_zero, List.cons_append, List.nil_append] at hs
       refine L_idx1 rfl Try.underlying60 Try.ti3 rfl rfl (natc_k _) (by omega) rfl ?_
       refine L_store hs (i := 4) rfl Try.ti3 rfl rfl (by exact add_lit0 _ _) (by simp; omega) rfl ?_
       intro w hs
       dsimp only [List.set_cons_succ, List.set_cons_zero, List.cons_append, List.nil_append] at hs
       refine RL_nil' (Nx_block (Nx_then (W_region (L_move rfl rfl (L_move rfl rfl (L_idx1 rfl Try.underlying60 Try.ti3 rfl rfl (natc_k _) (by omega) rfl ?_))))))
       refine L_load rfl Try.one3 rfl (by exact hs.cellA (i := 6) rfl (il_get (by omega))) ?_
       rw [hke]
       refine L_assign rfl rfl (RL_nil' ?_)
       rw [il_set, il_set] at hs
       refine Nx_loopP (k, of'.set m r, has'.set r m, _) (is := [0, 1, 2, 7, 15]) (I' := (fun (m : Nat) (of' : List Int) (has' : List Int) (w : World) => (m < n) ∧ (0 ≤ gi frm m) ∧ (InR n of') ∧ (InR n has') ∧ (Rot n (cf n C) (gi U) (gi V) i (toN of) (toN has) (fun q => 0 ≤ gi frm q) pos (toN of') (toN has') m) ∧ (HS w0 w [(c, Row 2 (il C)), (u, Row 2 (il U)), (v, Row 2 (il V)), (o, Row 3 (il of')), (h, Row 3 (il has')), (B, Row 120 (GameR n c u v o h)), (gf, Row 3 (il frm))])) (k) (of'.set m r) (has'.set r m) (_)) rfl rfl rfl ?_ ?_
       ·
        exact ⟨hkk, p1, o1, q1, hst, hs⟩
       ·
        exact p2
end Go.Proofs.Ytknpoemkmcdgcaa

namespace Go.Proofs.Ytknpoemkmcdgcaa
open Go Go.Lk Go.Pr
theorem first_ok (B c u v o h n : Nat) (C U V of has : List Int) (rows : Nat) (w0 : World) (hC : CostOk n C) (h1 : 1 ≤ n) (h2 : n ≤ 512) (hr : rows ≤ n) (hUl : U.length = n) (hVl : V.length = n) (hof : InR n of) (hhas : InR n has)
  (hbU : ∀ r, r < n → 0 ≤ gi U r ∧ gi U r ≤ BB) (hbV : ∀ j, j < n → -BB ≤ gi V j ∧ gi V j ≤ 0) (hPf : Pf n (cf n C) (gi U) (gi V) (toN of) (toN has))
  (hG : HS w0 w0 (GameL B c u v o h n C U V of has)) :
  Ret Try.prog 66 [.pointer (some ⟨B, 0, none⟩), .int .i64 rows] w0 fun _ w' => ∃ of' has', HS w0 w' (GameL B c u v o h n C U V of' has') ∧ InR n of' ∧ InR n has' ∧ Pf n (cf n C) (gi U) (gi V) (toN of') (toN has') ∧ LM n (cf n C) (gi U) (gi V) rows (toN has') := by
 have hs := hG
 have hCl := hC.len
 refine calls_of_W Try.func66 rfl rfl rfl (W_seq (W_region (L_move rfl rfl (L_move rfl rfl (RL_then (W_block ?_))))))
 refine W_loop4 (fun (i : Nat) (of : List Int) (has : List Int) (w : World) => [(0, .pointer (some ⟨B, 0, none⟩)), (7, .int .i64 rows), (8, .int .i64 i)]) (fun (i : Nat) (of : List Int) (has : List Int) (w : World) => w) (fun (i : Nat) (of : List Int) (has : List Int) (w : World) => (i ≤ rows) ∧ (InR n of) ∧ (InR n has) ∧ (Pf n (cf n C) (gi U) (gi V) (toN of) (toN has)) ∧ (LM n (cf n C) (gi U) (gi V) i (toN has)) ∧ (HS w0 w (GameL B c u v o h n C U V of has))) (fun (i : Nat) (of : List Int) (has : List Int) (w : World) => rows - i) (0) (of) (has) (_) (is := [0, 7, 8]) rfl rfl ?_ ?_
 ·
  exact ⟨Nat.zero_le _, hof, hhas, hPf, LM.zero, hs⟩
 ·
  clear hs hG hof hhas hPf
  intro i of has w hI
  show W _ _ _ _ [(0, .pointer (some ⟨B, 0, none⟩)), (7, .int .i64 rows), (8, .int .i64 i)] w
  obtain ⟨hi, hof, hhas, hPf, hLM, hs⟩ := hI
  by_cases hlt : i < rows
  ·
   have hin : i < n := by omega
   have hhl := hhas.len
   have hBox : w.heap[B]? = some (Row 120 (GameR n c u v o h)) := hs.has (B, _) (by simp)
   obtain ⟨hgoe, hgon⟩ := hhas.nat hin
   refine W_seq (W_region (L_lss rfl rfl rfl (dtrue (by omega)) ?_))
   refine RL_then (W_seq (W_if_true rfl (W_skip' (Nx_then (W_seq ?_)))))
   refine W_cut3 (fun (of : List Int) (has : List Int) (w : World) => [(0, .pointer (some ⟨B, 0, none⟩)), (7, .int .i64 rows), (8, .int .i64 i)]) (fun (of : List Int) (has : List Int) (w : World) => w) (fun (of : List Int) (has : List Int) (w : World) => (InR n of) ∧ (InR n has) ∧ (Pf n (cf n C) (gi U) (gi V) (toN of) (toN has)) ∧ (LM n (cf n C) (gi U) (gi V) (i + 1) (toN has)) ∧ (HS w0 w (GameL B c u v o h n C U V of has))) ?_ ?_
   ·
    refine W_block (W_seq (W_region (L_move rfl rfl (L_assign rfl rfl (RL_then (W_seq (W_region (L_move rfl rfl (L_move rfl rfl (L_call rfl Try.fun64 rfl (row_ok B c u v o h n i w hBox h1 h2 hin) ?_))))))))))
    rintro _ w' ⟨rfl, hs'⟩
    replace hs := hs.nil hs'
    clear hs' hBox
    refine L_assign rfl rfl (RL_then (W_seq (W_region (L_move rfl rfl (L_nilCheck rfl rfl (L_fieldAddr rfl (off := 5) Try.underlying120 rfl rfl Try.ti60 rfl (L_load rfl Try.one60 rfl (by exact hs.cellA (i := 5) rfl rfl) ?_)))))))
    refine L_move rfl rfl (L_idx1 rfl Try.underlying60 Try.ti3 rfl rfl (natc_k _) (by omega) rfl ?_)
    refine L_load rfl Try.one3 rfl (by exact hs.cellA (i := 4) rfl (il_get (by omega))) ?_
    refine L_move rfl rfl (RL_then (W_block ?_))
    rw [hgoe]
    refine W_loop2 (fun (j : Nat) (w : World) => [(0, .pointer (some ⟨B, 0, none⟩)), (4, .int .i64 i), (5, .slice (some ⟨c, i * n, none⟩) n n), (7, .int .i64 rows), (8, .int .i64 i), (20, .int .i64 (toN has i)), (21, .int .i64 j)]) (fun (j : Nat) (w : World) => w) (fun (j : Nat) (w : World) => (j ≤ toN has i) ∧ (Nb n (cf n C) (gi U) (gi V) i j (toN has)) ∧ (HS w0 w (GameL B c u v o h n C U V of has))) (fun (j : Nat) (w : World) => toN has i - j) (0) (w') (is := [0, 4, 5, 7, 8, 20, 21]) rfl rfl ?_ ?_
    ·
     exact ⟨Nat.zero_le _, Nb.zero, hs⟩
    ·
     clear hs
     intro j w hI
     show W _ _ _ _ [(0, .pointer (some ⟨B, 0, none⟩)), (4, .int .i64 i), (5, .slice (some ⟨c, i * n, none⟩) n n), (7, .int .i64 rows), (8, .int .i64 i), (20, .int .i64 (toN has i)), (21, .int .i64 j)] w
     obtain ⟨hj, hNb, hs⟩ := hI
     by_cases hlt2 : j < toN has i
     ·
      have hjn : j < n := by omega
      have hjc := idx_lt hin hjn
      have hcr : 0 ≤ C.getD (i * n + j) 0 ∧ C.getD (i * n + j) 0 ≤ 4503599627370496 := hC.rng i j hin hjn
      have hUr : 0 ≤ U.getD i 0 ∧ U.getD i 0 ≤ 4503599627370496 := hbU i hin
      have hVj : -4503599627370496 ≤ V.getD j 0 ∧ V.getD j 0 ≤ 0 := hbV j hjn
      by_cases htt : C.getD (i * n + j) 0 = U.getD i 0 + V.getD j 0
      ·
       refine W_seq (W_region (L_lss rfl rfl rfl (dtrue (by omega)) ?_))
       refine RL_then (W_seq (W_if_true rfl (W_skip' (Nx_then (W_seq (W_block (W_seq (W_region (L_move rfl rfl (L_assign rfl rfl (RL_then (W_seq ?_))))))))))))
       refine W_pht [0, 1, 2, 4, 5, 6, 8, 11, 12, 13, 15] [3, 7, 9, 10, 14, 16, 17, 18, 19, 20, 21, 22, 23] [24, 25] (fun _ _ _ => False) Try.mixed (by kernel_rfl) (fun _ _ _ _ _ h => h) hs ?_
       refine PL_val rfl (fun w => R_move rfl) ?_
       refine PL_val rfl (fun w => R_move rfl) ?_
       refine PL_val rfl (fun w => R_idx1 Try.underlying93 Try.ti2 rfl rfl (natc_k _) (by omega) rfl) ?_
       refine PL_val rfl (fun w => R_move rfl) ?_
       refine PL_val rfl (fun w => R_nilCheck rfl) ?_
       refine PL_val rfl (fun w => R_fieldAddr (off := 2) Try.underlying120 rfl rfl Try.ti93 rfl) ?_
       refine PL_val rfl (fun w => R_move rfl) ?_
       refine PL_val rfl (fun w => R_move rfl) ?_
       refine PL_val rfl (fun w => R_nilCheck rfl) ?_
       refine PL_val rfl (fun w => R_fieldAddr (off := 3) Try.underlying120 rfl rfl Try.ti93 rfl) ?_
       refine PL_val rfl (fun w => R_move rfl) ?_
       refine PL_end ?_
       refine HL_val rfl (fun w hs => R_load Try.one2 rfl (by rw [Addr.add_lit]; exact hs.cell (i := 0) rfl (il_get (by omega)))) ?_
       refine HL_val rfl (fun w hs => R_load Try.one93 rfl (by exact hs.cellA (i := 5) rfl rfl)) ?_
       refine HL_val rfl (fun w hs => R_idx1 Try.underlying93 Try.ti2 rfl rfl (natc_k _) (by omega) rfl) ?_
       refine HL_val rfl (fun w hs => R_load Try.one2 rfl (by exact hs.cellA (i := 1) rfl (il_get (by omega)))) ?_
       refine HL_val rfl (fun w hs => R_load Try.one93 rfl (by exact hs.cellA (i := 5) rfl rfl)) ?_
       refine HL_val rfl (fun w hs => R_idx1 Try.underlying93 Try.ti2 rfl rfl (natc_k _) (by omega) rfl) ?_
       refine HL_val rfl (fun w hs => R_load Try.one2 rfl (by exact hs.cellA (i := 2) rfl (il_get (by omega)))) ?_
       refine HL_val rfl (fun w hs => R_add rfl rfl (wrp_i64 (by omega))) ?_
       refine HL_val rfl (fun w hs => R_eql rfl rfl (dtrue (by omega))) ?_
       refine HL_val rfl (fun w hs => R_move rfl) ?_
       refine HL_want rfl rfl (HL_val rfl (fun w hs => R_move rfl) ?_)
       refine HL_want rfl rfl (HL_val rfl (fun w hs => R_move rfl) ?_)
       refine HL_want rfl rfl (HL_val rfl (fun w hs => R_move rfl) ?_)
       refine HL_tail ?_
       intro w hs
       refine RL_want rfl rfl (L_call rfl Try.fun79 rfl (turned_ok B c u v o h n C U V of has i j _ hC h1 h2 hUl hVl hof hhas hbU hbV hPf hin hjn hlt2 htt (HS.named (fun p hp => hs.has p hp) hs.nodup)) ?_)
       rintro _ w2 (⟨rfl, hs2, hno⟩ | ⟨rfl, of', has', hs2, o1, o2, o3, o4, o5⟩)
       ·
        replace hs := hs.callU (A := GameL B c u v o h n C U V of has) (U := GameL B c u v o h n C U V of has) (L2 := []) (N := []) rfl (by simpa using hs2) Own.nil
        rw [List.append_nil, List.append_nil] at hs
        refine L_pick_t rfl rfl rfl (RL_then (W_if_false rfl (W_skip' (Nx_block (Nx_then (W_region (L_add rfl rfl rfl (wrp_i64 (by omega)) ?_)))))))
        refine L_move rfl rfl (RL_nil' ?_)
        refine Nx_loopP (j + 1, _) (is := [0, 4, 5, 7, 8, 20, 21]) (I' := (fun (j : Nat) (w : World) => (j ≤ toN has i) ∧ (Nb n (cf n C) (gi U) (gi V) i j (toN has)) ∧ (HS w0 w (GameL B c u v o h n C U V of has))) (j + 1) (_)) rfl rfl rfl ?_ ?_
        ·
         exact ⟨by omega, hNb.next hno, hs⟩
        ·
         omega
       ·
        replace hs := hs.callU (A := GameL B c u v o h n C U V of has) (U := GameL B c u v o h n C U V of' has') (L2 := []) (N := []) rfl (by simpa using hs2) Own.nil
        rw [List.append_nil, List.append_nil] at hs
        refine L_pick_t rfl rfl rfl (RL_then (W_if_true rfl (W_exit' (Ex_block_miss rfl (Ex_then_exit (Ex_loop_exit (Ex_block_hit (Nx_block (Nx_cutP (of', has', _) (is := [0, 7, 8]) (I' := (fun (of : List Int) (has : List Int) (w : World) => (InR n of) ∧ (InR n has) ∧ (Pf n (cf n C) (gi U) (gi V) (toN of) (toN has)) ∧ (LM n (cf n C) (gi U) (gi V) (i + 1) (toN has)) ∧ (HS w0 w (GameL B c u v o h n C U V of has))) (of') (has') (_)) rfl rfl rfl ?_)))))))))
        exact ⟨o1, o2, o3, (hLM.congr o4).next (by rw [o5]; exact hNb.congr o4), hs⟩
      ·
       refine W_seq (W_region (L_lss rfl rfl rfl (dtrue (by omega)) ?_))
       refine RL_then (W_seq (W_if_true rfl (W_skip' (Nx_then (W_seq (W_block (W_seq (W_region (L_move rfl rfl (L_assign rfl rfl (RL_then (W_seq ?_))))))))))))
       refine W_pht [0, 1, 2, 4, 5, 6, 8, 11, 12, 13, 15] [3, 7, 9, 10, 14, 16, 17, 18, 19, 20, 21, 22, 23] [24, 25] (fun _ _ _ => False) Try.mixed (by kernel_rfl) (fun _ _ _ _ _ h => h) hs ?_
       refine PL_val rfl (fun w => R_move rfl) ?_
       refine PL_val rfl (fun w => R_move rfl) ?_
       refine PL_val rfl (fun w => R_idx1 Try.underlying93 Try.ti2 rfl rfl (natc_k _) (by omega) rfl) ?_
       refine PL_val rfl (fun w => R_move rfl) ?_
       refine PL_val rfl (fun w => R_nilCheck rfl) ?_
       refine PL_val rfl (fun w => R_fieldAddr (off := 2) Try.underlying120 rfl rfl Try.ti93 rfl) ?_
       refine PL_val rfl (fun w => R_move rfl) ?_
       refine PL_val rfl (fun w => R_move rfl) ?_
       refine PL_val rfl (fun w => R_nilCheck rfl) ?_
       refine PL_val rfl (fun w => R_fieldAddr (off := 3) Try.underlying120 rfl rfl Try.ti93 rfl) ?_
       refine PL_val rfl (fun w => R_move rfl) ?_
       refine PL_end ?_
       refine HL_val rfl (fun w hs => R_load Try.one2 rfl (by rw [Addr.add_lit]; exact hs.cell (i := 0) rfl (il_get (by omega)))) ?_
       refine HL_val rfl (fun w hs => R_load Try.one93 rfl (by exact hs.cellA (i := 5) rfl rfl)) ?_
       refine HL_val rfl (fun w hs => R_idx1 Try.underlying93 Try.ti2 rfl rfl (natc_k _) (by omega) rfl) ?_
       refine HL_val rfl (fun w hs => R_load Try.one2 rfl (by exact hs.cellA (i := 1) rfl (il_get (by omega)))) ?_
       refine HL_val rfl (fun w hs => R_load Try.one93 rfl (by exact hs.cellA (i := 5) rfl rfl)) ?_
       refine HL_val rfl (fun w hs => R_idx1 Try.underlying93 Try.ti2 rfl rfl (natc_k _) (by omega) rfl) ?_
       refine HL_val rfl (fun w hs => R_load Try.one2 rfl (by exact hs.cellA (i := 2) rfl (il_get (by omega)))) ?_
       refine HL_val rfl (fun w hs => R_add rfl rfl (wrp_i64 (by omega))) ?_
       refine HL_val rfl (fun w hs => R_eql rfl rfl (dfalse (by omega))) ?_
       refine HL_val rfl (fun w hs => R_move rfl) ?_
       refine HL_skip rfl rfl rfl rfl (HL_skip rfl rfl rfl rfl (HL_skip rfl rfl rfl rfl (HL_tail ?_)))
       intro w hs
       refine RL_skip rfl rfl rfl rfl (L_pick_f rfl rfl rfl (RL_then (W_if_false rfl (W_skip' (Nx_block (Nx_then (W_region (L_add rfl rfl rfl (wrp_i64 (by omega)) ?_))))))))
       refine L_move rfl rfl (RL_nil' ?_)
       refine Nx_loopP (j + 1, _) (is := [0, 4, 5, 7, 8, 20, 21]) (I' := (fun (j : Nat) (w : World) => (j ≤ toN has i) ∧ (Nb n (cf n C) (gi U) (gi V) i j (toN has)) ∧ (HS w0 w (GameL B c u v o h n C U V of has))) (j + 1) (_)) rfl rfl rfl ?_ ?_
       ·
        exact ⟨by omega, hNb.next (fun M hM _ he => htt (by have := hM.2 i hin; rw [he] at this; exact this)), hs⟩
       ·
        omega
     ·
      obtain hje : j = toN has i := by omega
      rw [hje] at hNb
      refine W_seq (W_region (L_lss rfl rfl rfl (dfalse (by omega)) ?_))
      refine RL_then (W_seq (W_if_false rfl (W_exit' (Ex_then_exit (Ex_loop_exit (Ex_block_hit (Nx_block (Nx_cutP (of, has, w) (is := [0, 7, 8]) (I' := (fun (of : List Int) (has : List Int) (w : World) => (InR n of) ∧ (InR n has) ∧ (Pf n (cf n C) (gi U) (gi V) (toN of) (toN has)) ∧ (LM n (cf n C) (gi U) (gi V) (i + 1) (toN has)) ∧ (HS w0 w (GameL B c u v o h n C U V of has))) (of) (has) (w)) rfl rfl rfl ?_))))))))
      exact ⟨hof, hhas, hPf, hLM.next hNb, hs⟩
   ·
    clear hs hof hhas hPf hLM
    intro of has w hI
    show W _ _ _ _ [(0, .pointer (some ⟨B, 0, none⟩)), (7, .int .i64 rows), (8, .int .i64 i)] w
    obtain ⟨hof, hhas, hPf, hLM, hs⟩ := hI
    refine W_region (L_add rfl rfl rfl (wrp_i64 (by omega)) ?_)
    refine L_move rfl rfl (RL_nil' ?_)
    refine Nx_loopP (i + 1, of, has, w) (is := [0, 7, 8]) (I' := (fun (i : Nat) (of : List Int) (has : List Int) (w : World) => (i ≤ rows) ∧ (InR n of) ∧ (InR n has) ∧ (Pf n (cf n C) (gi U) (gi V) (toN of) (toN has)) ∧ (LM n (cf n C) (gi U) (gi V) i (toN has)) ∧ (HS w0 w (GameL B c u v o h n C U V of has))) (i + 1) (of) (has) (w)) rfl rfl rfl ?_ ?_
    ·
     exact ⟨by omega, hof, hhas, hPf, hLM, hs⟩
    ·
     omega
  ·
   obtain rfl : rows = i := by omega
   refine W_seq (W_region (L_lss rfl rfl rfl (dfalse (by omega)) ?_))
   refine RL_then (W_seq (W_if_false rfl (W_exit' (Ex_then_exit (Ex_loop_exit (Ex_block_hit (Nx_done0 rfl ?_)))))))
   exact ⟨_, rfl, of, has, hs, hof, hhas, hPf, hLM⟩
end Go.Proofs.Ytknpoemkmcdgcaa

namespace Go.Proofs.Ytknpoemkmcdgcaa
open Go Go.Lk Go.Pr
/-- Rows of whole numbers that lie anywhere. -/
structure RowsI (w : World) (a : Option Addr) (rows : List (List Int)) (rvs : List Value) : Prop where
 sl : SlC w a rvs
 len : rvs.length = rows.length
 row : ∀ i, i < rows.length → ∃ ai ci, rvs[i]? = some (.slice ai (rows.getD i []).length ci) ∧ (rows.getD i []).length ≤ ci ∧ (rows.getD i []).length ≤ 17592186043904 ∧ SlC w ai (il (rows.getD i []))
theorem RowsI.old {w0 w : World} {L : List (Nat × Obj)} {a : Option Addr} {rows : List (List Int)} {rvs : List Value} (h : RowsI w0 a rows rvs) (hs : HS w0 w L) (ho : Own w0 L) : RowsI w a rows rvs :=
 ⟨h.sl.old hs ho, h.len, fun i hi => let ⟨ai, ci, h1, h3, h4, h2⟩ := h.row i hi; ⟨ai, ci, h1, h3, h4, h2.old hs ho⟩⟩
/-- an entry of a table -/
abbrev el (rows : List (List Int)) (i j : Nat) : Int := (rows.getD i []).getD j 0
abbrev wid (rows : List (List Int)) (i : Nat) : Nat := (rows.getD i []).length
def chk (rows : List (List Int)) : Int :=
 if decide (256 < rows.length) || rows.any (fun r => decide (256 < r.length)) then 3
 else if rows.any (fun r => decide (r.length ≠ wid rows 0)) then 5
 else if rows.any (fun r => r.any fun c => decide (1099511627776 < c)) then 2 else 0
theorem any_idx {rows : List (List Int)} {p : List Int → Bool} : rows.any p = true ↔ ∃ i, i < rows.length ∧ p (rows.getD i []) = true := by
 rw [List.any_eq_true]
 constructor
 ·
  rintro ⟨x, hx, hp⟩
  obtain ⟨i, hi, he⟩ := List.getElem_of_mem hx
  exact ⟨i, hi, by simp only [List.getD, List.getElem?_eq_getElem hi, Option.getD_some, he]; exact hp⟩
 ·
  rintro ⟨i, hi, hp⟩
  refine ⟨rows[i], List.getElem_mem _, ?_⟩
  simpa only [List.getD, List.getElem?_eq_getElem hi, Option.getD_some] using hp
theorem any_no {rows : List (List Int)} {p : List Int → Bool} (h : ∀ i, i < rows.length → p (rows.getD i []) = false) : rows.any p = false := by
 cases hh : rows.any p with
 | false => rfl
 | true =>
  obtain ⟨i, hi, hp⟩ := any_idx.1 hh
  rw [h i hi] at hp; cases hp
theorem anyI {l : List Int} {p : Int → Bool} : l.any p = true ↔ ∃ i, i < l.length ∧ p (l.getD i 0) = true := by
 rw [List.any_eq_true]
 constructor
 ·
  rintro ⟨x, hx, hp⟩
  obtain ⟨i, hi, he⟩ := List.getElem_of_mem hx
  exact ⟨i, hi, by simp only [List.getD, List.getElem?_eq_getElem hi, Option.getD_some, he]; exact hp⟩
 ·
  rintro ⟨i, hi, hp⟩
  refine ⟨l[i], List.getElem_mem _, ?_⟩
  simpa only [List.getD, List.getElem?_eq_getElem hi, Option.getD_some] using hp
theorem anyI_no {l : List Int} {p : Int → Bool} (h : ∀ i, i < l.length → p (l.getD i 0) = false) : l.any p = false := by
 cases hh : l.any p with
 | false => rfl
 | true =>
  obtain ⟨i, hi, hp⟩ := anyI.1 hh
  rw [h i hi] at hp; cases hp
/-- A table that may be. -/
structure Fine (rows : List (List Int)) : Prop where
 len : rows.length ≤ 256
 wid : ∀ i, i < rows.length → wid rows i ≤ 256
 same : ∀ i, i < rows.length → Ytknpoemkmcdgcaa.wid rows i = Ytknpoemkmcdgcaa.wid rows 0
 cost : ∀ i j, i < rows.length → j < Ytknpoemkmcdgcaa.wid rows i → el rows i j ≤ 1099511627776
theorem fine_of_chk {rows : List (List Int)} (h : chk rows = 0) : Fine rows := by
 unfold chk at h
 split at h
 ·
  cases h
 ·
  rename_i h1
  split at h
  ·
   cases h
  ·
   rename_i h2
   split at h
   ·
    cases h
   ·
    rename_i h3
    simp only [Bool.not_eq_true, Bool.or_eq_false_iff, decide_eq_false_iff_not] at h1 h2 h3
    have a1 : ∀ i, i < rows.length → wid rows i ≤ 256 := fun i hi => Classical.byContradiction fun hn => by
     have := any_idx (p := fun r : List Int => decide (256 < r.length)).2 ⟨i, hi, show (fun r : List Int => decide (256 < r.length)) (rows.getD i []) = true from decide_eq_true (by simp only [wid] at hn; omega)⟩
     rw [h1.2] at this; cases this
    have a2 : ∀ i, i < rows.length → wid rows i = wid rows 0 := fun i hi => Classical.byContradiction fun hn => by
     have := any_idx (p := fun r : List Int => decide (r.length ≠ wid rows 0)).2 ⟨i, hi, show (fun r : List Int => decide (r.length ≠ wid rows 0)) (rows.getD i []) = true from decide_eq_true hn⟩
     rw [h2] at this; cases this
    refine ⟨by omega, a1, a2, fun i j hi hj => Classical.byContradiction fun hn => ?_⟩
    have := any_idx (p := fun r : List Int => r.any fun c => decide (1099511627776 < c)).2 ⟨i, hi, show (fun r : List Int => r.any fun c => decide (1099511627776 < c)) (rows.getD i []) = true from anyI.2 ⟨j, hj, decide_eq_true (by simp only [el] at hn; omega)⟩⟩
    rw [h3] at this; cases this
theorem checked_ok (a : Option Addr) (k c : Nat) (rows : List (List Int)) (rvs : List Value) (w0 : World) (hr : RowsI w0 a rows rvs) (hk : rows.length = k) (hk63 : k ≤ 17592186043904) :
  Ret Try.prog 62 [.slice a k c] w0 fun v w' => v = .int .i64 (chk rows) ∧ HS w0 w' [] := by
 refine Ret.start fun w hs => ?_
 have hrl := hr.len
 refine calls_of_W Try.func62 rfl rfl rfl ?_
 by_cases hbig : 256 < k
 ·
  have he : chk rows = 3 := by unfold chk; rw [decide_eq_true (by omega), Bool.true_or, if_pos rfl]
  refine W_seq (W_region (L_assign rfl rfl (RL_then (W_seq (W_seq (W_region (L_move rfl rfl (L_len rfl Try.underlying89 rfl (L_gtr rfl rfl rfl (dtrue (by omega)) ?_)))))))))
  refine RL_then (W_if_true rfl (W_seq (W_region (L_assign rfl rfl (RL_then (W_ret' (Ex_then_ret (Ex_done1 rfl rfl ?_))))))))
  exact ⟨_, rfl, by rw [he], hs⟩
 ·
  refine W_seq (W_region (L_assign rfl rfl (RL_then (W_seq (W_seq (W_region (L_move rfl rfl (L_len rfl Try.underlying89 rfl (L_gtr rfl rfl rfl (dfalse (by omega)) ?_)))))))))
  refine RL_then (W_if_false rfl (W_skip' (Nx_then (W_seq (W_seq (W_region (L_move rfl rfl (L_len rfl Try.underlying89 rfl (L_move rfl rfl (RL_then (W_block ?_)))))))))))
  refine W_loop2 (fun (i : Nat) (w : World) => [(0, .slice a k c), (14, .slice a k c), (15, .int .i64 k), (16, .int .i64 i)]) (fun (i : Nat) (w : World) => w) (fun (i : Nat) (w : World) => (i ≤ k) ∧ (∀ q, q < i → wid rows q ≤ 256) ∧ (HS w0 w [])) (fun (i : Nat) (w : World) => k - i) (0) (w) (is := [0, 14, 15, 16]) rfl rfl ?_ ?_
  ·
   exact ⟨Nat.zero_le _, fun _ h => absurd h (Nat.not_lt_zero _), hs⟩
  ·
   clear hs
   intro i w hI
   show W _ _ _ _ [(0, .slice a k c), (14, .slice a k c), (15, .int .i64 k), (16, .int .i64 i)] w
   obtain ⟨hi, hA, hs⟩ := hI
   by_cases hlt : i < k
   ·
    obtain ⟨ai, ci, g1, g2, g3, g4⟩ := hr.row i (by omega)
    by_cases hw : 256 < (rows.getD i []).length
    ·
     have he : chk rows = 3 := by
      unfold chk
      rw [any_idx (p := fun r : List Int => decide (256 < r.length)).2 ⟨i, by omega, show (fun r : List Int => decide (256 < r.length)) (rows.getD i []) = true from decide_eq_true hw⟩, Bool.or_true, if_pos rfl]
     refine W_seq (W_region (L_lss rfl rfl rfl (dtrue (by omega)) ?_))
     refine RL_then (W_seq (W_if_true rfl (W_skip' (Nx_then (W_seq (W_block (W_seq (W_region (L_idx1 rfl Try.underlying89 Try.ti93 rfl rfl (natc_k _) (by omega) (hr.sl.ao (by omega)) ?_)))))))))
     refine L_load rfl Try.one93 rfl (by exact (hr.sl.old hs Own.nil).get g1) ?_
     refine L_assign rfl rfl (RL_then (W_seq (W_region (L_move rfl rfl (L_len rfl Try.underlying93 rfl (L_gtr rfl rfl rfl (dtrue (by omega)) ?_))))))
     refine RL_then (W_if_true rfl (W_seq (W_region (L_assign rfl rfl (RL_then (W_ret' (Ex_block_ret (Ex_then_ret (Ex_loop_ret (Ex_block_ret (Ex_then_ret (Ex_done1 rfl rfl ?_))))))))))))
     exact ⟨_, rfl, by rw [he], hs⟩
    ·
     refine W_seq (W_region (L_lss rfl rfl rfl (dtrue (by omega)) ?_))
     refine RL_then (W_seq (W_if_true rfl (W_skip' (Nx_then (W_seq (W_block (W_seq (W_region (L_idx1 rfl Try.underlying89 Try.ti93 rfl rfl (natc_k _) (by omega) (hr.sl.ao (by omega)) ?_)))))))))
     refine L_load rfl Try.one93 rfl (by exact (hr.sl.old hs Own.nil).get g1) ?_
     refine L_assign rfl rfl (RL_then (W_seq (W_region (L_move rfl rfl (L_len rfl Try.underlying93 rfl (L_gtr rfl rfl rfl (dfalse (by omega)) ?_))))))
     refine RL_then (W_if_false rfl (W_skip' (Nx_block (Nx_then (W_region (L_add rfl rfl rfl (wrp_i64 (by omega)) ?_))))))
     refine L_move rfl rfl (RL_nil' ?_)
     refine Nx_loopP (i + 1, w) (is := [0, 14, 15, 16]) (I' := (fun (i : Nat) (w : World) => (i ≤ k) ∧ (∀ q, q < i → wid rows q ≤ 256) ∧ (HS w0 w [])) (i + 1) (w)) rfl rfl rfl ?_ ?_
     ·
      refine ⟨by omega, fun q hq => ?_, hs⟩
      by_cases hqi : q = i
      ·
       rw [hqi]; simp only [wid]; omega
      ·
       exact hA q (by omega)
     ·
      omega
   ·
    obtain rfl : k = i := by omega
    have h1 : (decide (256 < rows.length) || rows.any (fun r => decide (256 < r.length))) = false := by
     rw [decide_eq_false (by omega), Bool.false_or]
     exact any_no fun q hq => decide_eq_false (by have := hA q (by omega); simp only [wid] at this; omega)
    refine W_seq (W_region (L_lss rfl rfl rfl (dfalse (by omega)) ?_))
    refine RL_then (W_seq (W_if_false rfl (W_exit' (Ex_then_exit (Ex_loop_exit (Ex_block_hit (Nx_then (W_seq (W_seq (W_region (L_move rfl rfl (L_len rfl Try.underlying89 rfl ?_))))))))))))
    refine L_move rfl rfl (RL_then (W_block ?_))
    refine W_loop2 (fun (i : Nat) (w : World) => [(0, .slice a k c), (24, .slice a k c), (25, .int .i64 k), (26, .int .i64 i)]) (fun (i : Nat) (w : World) => w) (fun (i : Nat) (w : World) => (i ≤ k) ∧ (∀ q, q < i → wid rows q = wid rows 0) ∧ (HS w0 w [])) (fun (i : Nat) (w : World) => k - i) (0) (w) (is := [0, 24, 25, 26]) rfl rfl ?_ ?_
    ·
     exact ⟨Nat.zero_le _, fun _ h => absurd h (Nat.not_lt_zero _), hs⟩
    ·
     clear hs hi
     intro i w hI
     show W _ _ _ _ [(0, .slice a k c), (24, .slice a k c), (25, .int .i64 k), (26, .int .i64 i)] w
     obtain ⟨hi, hB, hs⟩ := hI
     by_cases hlt : i < k
     ·
      obtain ⟨ai, ci, g1, g2, g3, g4⟩ := hr.row i (by omega)
      obtain ⟨a0, c0, k1, k2, k3, k4⟩ := hr.row 0 (by omega)
      by_cases hw : (rows.getD i []).length ≠ (rows.getD 0 []).length
      ·
       have he : chk rows = 5 := by
        unfold chk
        rw [h1, any_idx (p := fun r : List Int => decide (r.length ≠ wid rows 0)).2 ⟨i, by omega, show (fun r : List Int => decide (r.length ≠ wid rows 0)) (rows.getD i []) = true from decide_eq_true hw⟩]
        rfl
       refine W_seq (W_region (L_lss rfl rfl rfl (dtrue (by omega)) ?_))
       refine RL_then (W_seq (W_if_true rfl (W_skip' (Nx_then (W_seq (W_block (W_seq (W_region (L_idx1 rfl Try.underlying89 Try.ti93 rfl rfl (natc_k _) (by omega) (hr.sl.ao (by omega)) ?_)))))))))
       refine L_load rfl Try.one93 rfl (by exact (hr.sl.old hs Own.nil).get g1) ?_
       refine L_assign rfl rfl (RL_then (W_seq (W_region (L_move rfl rfl (L_len rfl Try.underlying93 rfl (L_move rfl rfl (L_idx1 rfl Try.underlying89 Try.ti93 rfl rfl natc_0 (by omega) (hr.sl.ao (by omega)) ?_)))))))
       skip
       refine L_load rfl Try.one93 rfl ((hr.sl.old hs Own.nil).get k1) (L_len rfl Try.underlying93 rfl (L_neq rfl rfl rfl (dtrue (by omega)) ?_))
       refine RL_then (W_if_true rfl (W_seq (W_region (L_assign rfl rfl (RL_then (W_ret' (Ex_block_ret (Ex_then_ret (Ex_loop_ret (Ex_block_ret (Ex_then_ret (Ex_done1 rfl rfl ?_))))))))))))
       exact ⟨_, rfl, by rw [he], hs⟩
      ·
       rw [Classical.not_not] at hw
       refine W_seq (W_region (L_lss rfl rfl rfl (dtrue (by omega)) ?_))
       refine RL_then (W_seq (W_if_true rfl (W_skip' (Nx_then (W_seq (W_block (W_seq (W_region (L_idx1 rfl Try.underlying89 Try.ti93 rfl rfl (natc_k _) (by omega) (hr.sl.ao (by omega)) ?_)))))))))
       refine L_load rfl Try.one93 rfl (by exact (hr.sl.old hs Own.nil).get g1) ?_
       refine L_assign rfl rfl (RL_then (W_seq (W_region (L_move rfl rfl (L_len rfl Try.underlying93 rfl (L_move rfl rfl (L_idx1 rfl Try.underlying89 Try.ti93 rfl rfl natc_0 (by omega) (hr.sl.ao (by omega)) ?_)))))))
       skip
       refine L_load rfl Try.one93 rfl ((hr.sl.old hs Own.nil).get k1) (L_len rfl Try.underlying93 rfl (L_neq rfl rfl rfl (dfalse (by omega)) ?_))
       refine RL_then (W_if_false rfl (W_skip' (Nx_block (Nx_then (W_region (L_add rfl rfl rfl (wrp_i64 (by omega)) ?_))))))
       refine L_move rfl rfl (RL_nil' ?_)
       refine Nx_loopP (i + 1, w) (is := [0, 24, 25, 26]) (I' := (fun (i : Nat) (w : World) => (i ≤ k) ∧ (∀ q, q < i → wid rows q = wid rows 0) ∧ (HS w0 w [])) (i + 1) (w)) rfl rfl rfl ?_ ?_
       ·
        refine ⟨by omega, fun q hq => ?_, hs⟩
        by_cases hqi : q = i
        ·
         rw [hqi]; exact hw
        ·
         exact hB q (by omega)
       ·
        omega
     ·
      obtain rfl : k = i := by omega
      have h2 : rows.any (fun r => decide (r.length ≠ wid rows 0)) = false := any_no fun q hq => decide_eq_false fun hn => hn (hB q (by omega))
      refine W_seq (W_region (L_lss rfl rfl rfl (dfalse (by omega)) ?_))
      refine RL_then (W_seq (W_if_false rfl (W_exit' (Ex_then_exit (Ex_loop_exit (Ex_block_hit (Nx_then (W_seq (W_seq (W_region (L_move rfl rfl (L_len rfl Try.underlying89 rfl ?_))))))))))))
      refine L_move rfl rfl (RL_then (W_block ?_))
      refine W_loop2 (fun (i : Nat) (w : World) => [(0, .slice a k c), (38, .slice a k c), (39, .int .i64 k), (40, .int .i64 i)]) (fun (i : Nat) (w : World) => w) (fun (i : Nat) (w : World) => (i ≤ k) ∧ (∀ q j, q < i → j < wid rows q → el rows q j ≤ 1099511627776) ∧ (HS w0 w [])) (fun (i : Nat) (w : World) => k - i) (0) (w) (is := [0, 38, 39, 40]) rfl rfl ?_ ?_
      ·
       exact ⟨Nat.zero_le _, fun _ _ h => absurd h (Nat.not_lt_zero _), hs⟩
      ·
       clear hs hi
       intro i w hI
       show W _ _ _ _ [(0, .slice a k c), (38, .slice a k c), (39, .int .i64 k), (40, .int .i64 i)] w
       obtain ⟨hi, hD, hs⟩ := hI
       by_cases hlt : i < k
       ·
        obtain ⟨ai, ci, g1, g2, g3, g4⟩ := hr.row i (by omega)
        obtain ⟨m, hm⟩ : ∃ m, m = (rows.getD i []).length := ⟨_, rfl⟩
        rw [← hm] at g1 g2 g3
        refine W_seq (W_region (L_lss rfl rfl rfl (dtrue (by omega)) ?_))
        refine RL_then (W_seq (W_if_true rfl (W_skip' (Nx_then (W_seq (W_block (W_seq (W_region (L_idx1 rfl Try.underlying89 Try.ti93 rfl rfl (natc_k _) (by omega) (hr.sl.ao (by omega)) ?_)))))))))
        refine L_load rfl Try.one93 rfl (by exact (hr.sl.old hs Own.nil).get g1) ?_
        refine L_assign rfl rfl (RL_then (W_seq (W_region (L_move rfl rfl (L_len rfl Try.underlying93 rfl (L_move rfl rfl (RL_then (W_block ?_))))))))
        refine W_loop2 (fun (j : Nat) (w : World) => [(0, .slice a k c), (38, .slice a k c), (39, .int .i64 k), (40, .int .i64 i), (44, .slice ai m ci), (45, .int .i64 m), (46, .int .i64 j)]) (fun (j : Nat) (w : World) => w) (fun (j : Nat) (w : World) => (j ≤ m) ∧ (∀ q, q < j → el rows i q ≤ 1099511627776) ∧ (HS w0 w [])) (fun (j : Nat) (w : World) => m - j) (0) (w) (is := [0, 38, 39, 40, 44, 45, 46]) rfl rfl ?_ ?_
        ·
         exact ⟨Nat.zero_le _, fun _ h => absurd h (Nat.not_lt_zero _), hs⟩
        ·
         clear hs
         intro j w hI
         show W _ _ _ _ [(0, .slice a k c), (38, .slice a k c), (39, .int .i64 k), (40, .int .i64 i), (44, .slice ai m ci), (45, .int .i64 m), (46, .int .i64 j)] w
         obtain ⟨hj, hE, hs⟩ := hI
         by_cases hlt2 : j < m
         ·
          skip
          by_cases hw : 1099511627776 < (rows.getD i []).getD j 0
          ·
           have he : chk rows = 2 := by
            unfold chk
            rw [h1, h2, any_idx (p := fun r : List Int => r.any fun c => decide (1099511627776 < c)).2 ⟨i, by omega, show (fun r : List Int => r.any fun c => decide (1099511627776 < c)) (rows.getD i []) = true from anyI.2 ⟨j, by omega, decide_eq_true hw⟩⟩]
            rfl
           refine W_seq (W_region (L_lss rfl rfl rfl (dtrue (by omega)) ?_))
           refine RL_then (W_seq (W_if_true rfl (W_skip' (Nx_then (W_seq (W_block (W_seq (W_region ?_))))))))
           refine L_idx1 rfl Try.underlying93 Try.ti2 rfl rfl (natc_k _) (by omega) (g4.ao (by rw [il_length]; omega)) ?_
           refine L_load rfl Try.one2 rfl (by exact (g4.old hs Own.nil).get (il_get (by omega))) ?_
           refine L_assign rfl rfl (RL_then (W_seq (W_region (L_move rfl rfl (L_gtr rfl rfl rfl (dtrue (by omega)) ?_)))))
           refine RL_then (W_if_true rfl (W_seq (W_region (L_assign rfl rfl (RL_then (W_ret' (Ex_block_ret (Ex_then_ret (Ex_loop_ret (Ex_block_ret (Ex_block_ret (Ex_then_ret ?_))))))))))))
           refine Ex_loop_ret (Ex_block_ret (Ex_then_ret (Ex_done1 rfl rfl ?_)))
           exact ⟨_, rfl, by rw [he], hs⟩
          ·
           refine W_seq (W_region (L_lss rfl rfl rfl (dtrue (by omega)) ?_))
           refine RL_then (W_seq (W_if_true rfl (W_skip' (Nx_then (W_seq (W_block (W_seq (W_region ?_))))))))
           refine L_idx1 rfl Try.underlying93 Try.ti2 rfl rfl (natc_k _) (by omega) (g4.ao (by rw [il_length]; omega)) ?_
           refine L_load rfl Try.one2 rfl (by exact (g4.old hs Own.nil).get (il_get (by omega))) ?_
           refine L_assign rfl rfl (RL_then (W_seq (W_region (L_move rfl rfl (L_gtr rfl rfl rfl (dfalse (by omega)) ?_)))))
           refine RL_then (W_if_false rfl (W_skip' (Nx_block (Nx_then (W_region (L_add rfl rfl rfl (wrp_i64 (by omega)) ?_))))))
           refine L_move rfl rfl (RL_nil' ?_)
           refine Nx_loopP (j + 1, w) (is := [0, 38, 39, 40, 44, 45, 46]) (I' := (fun (j : Nat) (w : World) => (j ≤ m) ∧ (∀ q, q < j → el rows i q ≤ 1099511627776) ∧ (HS w0 w [])) (j + 1) (w)) rfl rfl rfl ?_ ?_
           ·
            refine ⟨by omega, fun q hq => ?_, hs⟩
            by_cases hqj : q = j
            ·
             rw [hqj]; simp only [el]; omega
            ·
             exact hE q (by omega)
           ·
            omega
         ·
          refine W_seq (W_region (L_lss rfl rfl rfl (dfalse (by omega)) ?_))
          refine RL_then (W_seq (W_if_false rfl (W_exit' (Ex_then_exit (Ex_loop_exit (Ex_block_hit (Nx_block (Nx_then (W_region (L_add rfl rfl rfl (wrp_i64 (by omega)) ?_))))))))))
          refine L_move rfl rfl (RL_nil' ?_)
          refine Nx_loopP (i + 1, w) (is := [0, 38, 39, 40]) (I' := (fun (i : Nat) (w : World) => (i ≤ k) ∧ (∀ q j, q < i → j < wid rows q → el rows q j ≤ 1099511627776) ∧ (HS w0 w [])) (i + 1) (w)) rfl rfl rfl ?_ ?_
          ·
           refine ⟨by omega, fun q j2 hq hj2 => ?_, hs⟩
           by_cases hqi : q = i
           ·
            rw [hqi] at hj2 ⊢; exact hE j2 (by simp only [wid] at hj2; omega)
           ·
            exact hD q j2 (by omega) hj2
          ·
           omega
       ·
        obtain rfl : k = i := by omega
        have he : chk rows = 0 := by
         unfold chk
         rw [h1, h2, any_no fun q hq => anyI_no fun j hj => decide_eq_false (by have := hD q j (by omega) hj; simp only [el] at this; omega)]
         rfl
        refine W_seq (W_region (L_lss rfl rfl rfl (dfalse (by omega)) ?_))
        refine RL_then (W_seq (W_if_false rfl (W_exit' (Ex_then_exit (Ex_loop_exit (Ex_block_hit (Nx_then (W_seq (W_region (L_assign rfl rfl (RL_then (W_ret' ?_))))))))))))
        refine Ex_done1 rfl rfl ?_
        exact ⟨_, rfl, by rw [he], hs⟩
end Go.Proofs.Ytknpoemkmcdgcaa

namespace Go.Proofs.Ytknpoemkmcdgcaa
open Go Go.Lk Go.Pr
theorem idx_inj {n r q i j : Nat} (hq : q < n) (hj : j < n) (h : r * n + q = i * n + j) : r = i ∧ q = j := by
 have h1 : (r * n + q) / n = r := by
  rw [Nat.mul_comm, Nat.mul_add_div (by omega), Nat.div_eq_of_lt hq, Nat.add_zero]
 have h2 : (i * n + j) / n = i := by
  rw [Nat.mul_comm, Nat.mul_add_div (by omega), Nat.div_eq_of_lt hj, Nat.add_zero]
 have h3 : r = i := by rw [← h1, h, h2]
 subst h3
 exact ⟨rfl, by omega⟩
theorem cf_set {n : Nat} {C : List Int} (hC : C.length = n * n) {i j : Nat} (hi : i < n) (hj : j < n) (x : Int) {r q : Nat} (hq : q < n) : cf n (C.set (i * n + j) x) r q = if r = i ∧ q = j then x else cf n C r q := by
 have h1 := idx_lt hi hj
 unfold cf
 rw [gset (by omega)]
 by_cases h : r = i ∧ q = j
 ·
  rw [if_pos h, if_pos (by rw [h.1, h.2])]
 ·
  rw [if_neg h, if_neg fun he => h (idx_inj hq hj he)]
theorem Best.congr {n rows : Nat} {C C' : Nat → Nat → Int} {f : Nat → Nat} (h : Best n rows C f) (he : ∀ r j, r < n → j < n → C r j = C' r j) : Best n rows C' f := by
 have e : ∀ g, Bij n g → cst n C g = cst n C' g := fun g hg => tot_congr fun r hr => he r _ hr (hg.lt r hr)
 exact ⟨h.bij, fun g hg => by rw [← e f h.bij, ← e g hg]; exact h.least g hg, fun g hg hc => h.first g hg (by rw [e f h.bij, e g hg]; exact hc)⟩
end Go.Proofs.Ytknpoemkmcdgcaa
