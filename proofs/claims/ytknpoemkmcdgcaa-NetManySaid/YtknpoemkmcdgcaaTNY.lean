/-
 A part of the proof: laws for walks, and plain laws, over any program of the model. Each theorem holds under its own premises alone.
-/
import Derived.Test.YtknpoemkmcdgcaaTNX
import Derived.Test.YtknpoemkmcdgcaaTNM
namespace Go.Proofs.Ytknpoemkmcdgcaa
open Go Go.Lk
/-! ### NetPlays -/
structure Mv where
 d : Int
 x : Nat
 y : Nat
 t : Nat
 q : Int
 a : Option Addr
 c : Nat
 ts : List Tk
def Mv.cells (m : Mv) : List Value := [.int .i64 m.d, .float .f64 m.x, .float .f64 m.y, .float .f64 m.t, .int .i64 m.q, .slice m.a m.ts.length m.c]
structure MvOk (w : World) (m : Mv) : Prop where
 x : m.x < 18446744073709551616
 y : m.y < 18446744073709551616
 t : m.t < 18446744073709551616
 sl : SlC w m.a (tcs m.ts)
 lt : ∀ i, i < m.ts.length → TkLt (m.ts.getD i tk0)
 len : m.ts.length ≤ 1000000000000000
end Go.Proofs.Ytknpoemkmcdgcaa

namespace Go.Proofs.Ytknpoemkmcdgcaa
open Go Go.Lk
theorem PN.fresh {w0 : World} {B D : Nat} (h1 : NetOk w0 B (.slice none 0 0) [] []) (h2 : DOk w0 D (.slice none 0 0) [] (.slice none 0 0) [] []) : PN.Ok w0 ⟨B, D, .slice none 0 0, [], [], .slice none 0 0, [], .slice none 0 0, [], []⟩ := ⟨h1, h2, rfl⟩
end Go.Proofs.Ytknpoemkmcdgcaa

namespace Go.Proofs.Ytknpoemkmcdgcaa
open Go Go.Lk
/-! ### NetMany -/
theorem near_lt : ∀ m : Nat, m < 2500 → FloatKind.f64.nearest (m : Int) < 18446744073709551616 := by decide +kernel
theorem quart : ∀ i, i < 4 → isnan (fop .mul 4598175219545276416 (FloatKind.f64.nearest ((i : Nat) : Int))) = false ∧ fop .mul 4598175219545276416 (FloatKind.f64.nearest ((i : Nat) : Int)) < 18446744073709551616 := by decide +kernel
def tkm (m : Nat) : Tk := trk (FloatKind.f64.nearest (m : Int)) 0
theorem tkm_lt {m : Nat} (h : m < 2500) : TkLt (tkm m) := ⟨near_lt m h, (show (0 : Nat) < 18446744073709551616 by decide), (show (0 : Nat) < 18446744073709551616 by decide), (show (0 : Nat) < 18446744073709551616 by decide)⟩
def many (i k : Nat) : List Tk := (List.range k).map fun k => tkm (3 * k + 700 * (i % 3))
theorem many_len (i k : Nat) : (many i k).length = k := by simp [many]
theorem many_snoc (i k : Nat) : many i (k + 1) = many i k ++ [tkm (3 * k + 700 * (i % 3))] := by unfold many; rw [List.range_succ, List.map_append]; rfl
theorem many_get {i k j : Nat} (h : j < k) : (many i k).getD j tk0 = tkm (3 * j + 700 * (i % 3)) := by
 unfold many
 rw [List.getD_eq_getElem?_getD, List.getElem?_map, List.getElem?_range h]; rfl
set_option maxHeartbeats 1000000 in
theorem many_law (w0 : World) : Ret Try.prog 4 [] w0 fun v w' => v = .bool true ∧ HS w0 w' [] := by
 refine Ret.start fun w hs => ?_
 have h0 : newE 4607182418800017408 = 0 := by decide +kernel
 have hf : FarOk 4607182418800017408 := FarOk.of (by decide) h0
 obtain ⟨far, hfar⟩ : ∃ far, far = 4607182418800017408 := ⟨_, rfl⟩
 refine calls_of_W Try.func4 rfl rfl rfl (W_seq (W_region (L_assign rfl rfl (RL_then (W_seq (W_region (L_call rfl Try.fun12 rfl (newG 4607182418800017408 w (by decide)) ?_)))))))
 rintro _ w2 (⟨_, B1, rfl, hs2, hB1⟩ | ⟨h, _⟩)
 case inr => exact absurd h0 h
 have hB1' := Nat.le_trans hs.size hB1
 have h1 : HS w0 w2 ([] ++ [(B1, Row 76 [.float .f64 4607182418800017408, .slice none 0 0])]) := hs.call hs2 (Own.cons hB1 Own.nil)
 clear hs hs2 hB1
 refine L_move rfl rfl (L_extract rfl rfl rfl (L_extract rfl rfl rfl (L_assign rfl rfl (L_assign rfl rfl (RL_then (W_seq (W_region (L_call rfl Try.fun13 rfl (rnewN 4607182418800017408 w2 (by decide)) ?_))))))))
 rintro _ w3 (⟨_, D1, rfl, hs3, hD1⟩ | ⟨h, _⟩)
 case inr => exact absurd h0 h
 have hD1' := Nat.le_trans h1.size hD1.own
 have h2 := h1.call hs3 hD1.owns
 clear h1 hs3 hD1
 have hN1 : NetOk w0 B1 (.slice none 0 0) [] [] := ⟨hB1', .nil, fun _ h => absurd h List.not_mem_nil, by decide⟩
 have hE1 : DOk w0 D1 (.slice none 0 0) [] (.slice none 0 0) [] [] := ⟨hD1', .nil, .nil, fun _ h => absurd h List.not_mem_nil, by decide⟩
 have hs : HS w0 w3 ((PN.mk B1 D1 (.slice none 0 0) [] [] (.slice none 0 0) [] (.slice none 0 0) [] []).bks far ++ []) := by
  rw [hfar]
  exact h2
 clear h2
 rw [← hfar] at hf
 refine L_move rfl rfl (L_extract rfl rfl rfl (L_extract rfl rfl rfl (L_assign rfl rfl (L_assign rfl rfl (RL_then (W_seq (W_seq (W_region (L_move rfl rfl (L_neq rfl rfl rfl (dfalse (by omega)) ?_))))))))))
 refine L_move rfl rfl (RL_want rfl rfl (L_move rfl rfl (RL_want rfl rfl (L_ptrNil rfl Try.underlying26 rfl rfl (L_pick_f rfl rfl rfl (RL_then (W_if_false rfl (W_skip' (Nx_then (W_seq (W_seq (W_region ?_))))))))))))
 refine L_assign rfl rfl (RL_then (W_block ?_))
 refine W_loop3 (fun (i : Nat) (p : PN) (w : World) => [(1, .pointer (some ⟨p.B, 0, none⟩)), (3, .pointer (some ⟨p.D, 0, none⟩)), (5, .int .i64 i)]) (fun (i : Nat) (p : PN) (w : World) => w) (fun (i : Nat) (p : PN) (w : World) => (i ≤ 4) ∧ (p.Ok w0) ∧ (HS w0 w (p.bks far ++ []))) (fun (i : Nat) (p : PN) (w : World) => 4 - i) (0) (⟨B1, D1, .slice none 0 0, [], [], .slice none 0 0, [], .slice none 0 0, [], []⟩) (_) (is := [1, 3, 5]) rfl rfl ?_ ?_
 ·
  exact ⟨Nat.zero_le _, PN.fresh hN1 hE1, hs⟩
 ·
  clear hs
  intro i p w hI
  show W _ _ _ _ [(1, .pointer (some ⟨p.B, 0, none⟩)), (3, .pointer (some ⟨p.D, 0, none⟩)), (5, .int .i64 i)] w
  obtain ⟨hi, hp, hs⟩ := hI
  by_cases hlt : i < 4
  ·
   skip
   refine W_seq (W_seq (W_region (L_move rfl rfl (L_lss rfl rfl rfl (dtrue (by omega)) ?_))))
   refine RL_then (W_if_true rfl (W_skip' (Nx_then (W_seq (W_block (W_seq (W_seq (W_region (L_move rfl rfl (L_move rfl rfl (L_move rfl rfl (L_itof rfl Try.underlying3 Try.underlying22 rfl ?_))))))))))))
   refine L_farith rfl (op := .mul) rfl rfl rfl ?_
   intro r30 k30 hr30
   replace hs := hs.drewN k30
   refine L_build rfl rfl (Pl.builtN Try.pl35 rfl) (L_build rfl rfl (Pl.builtN Try.pl37 rfl) (L_build rfl rfl (Pl.builtN Try.pl40 rfl) ?_))
   obtain ⟨hq1, hq2⟩ := quart i hlt
   obtain rfl : r30 = fop .mul 4598175219545276416 (FloatKind.f64.nearest (i : Int)) := cn_same ((Fs.cn hr30).trans (cn_fop ..).symm) hq1
   refine L_call rfl Try.fun14 rfl (move_ok w0 _ far p [] 0 0 (fop .mul 4598175219545276416 (FloatKind.f64.nearest (i : Int))) 0 0 none 0 0 [] hs hp Own.nil (by decide) hq2 (by decide) (fun _ _ _ _ _ => slc_nil _) rfl (by decide) (fun _ h => absurd h (Nat.not_lt_zero _))) ?_
   rintro _ w ⟨rfl, p2, hpB, hpD, h2, hp2, _⟩
   rw [← hpB, ← hpD]
   clear hs
   refine L_not rfl rfl (RL_then (W_if_false rfl (W_skip' (Nx_then (W_seq (W_region (L_assign rfl rfl (RL_then (W_seq (W_seq (W_region (L_assign rfl rfl ?_))))))))))))
   refine RL_then (W_block ?_)
   refine W_loop4 (fun (k : Nat) (v : Value) (M : Bks) (w : World) => [(1, .pointer (some ⟨p2.B, 0, none⟩)), (3, .pointer (some ⟨p2.D, 0, none⟩)), (5, .int .i64 i), (6, v), (7, .int .i64 k)]) (fun (k : Nat) (v : Value) (M : Bks) (w : World) => w) (fun (k : Nat) (v : Value) (M : Bks) (w : World) => (k ≤ 256) ∧ (Bl w0 48 15 v k (tcs (many i k)) M) ∧ (HS w0 w (p2.bks far ++ M))) (fun (k : Nat) (v : Value) (M : Bks) (w : World) => 256 - k) (0) (.slice none 0 0) ([]) (_) (is := [1, 3, 5, 6, 7]) rfl rfl ?_ ?_
   ·
    exact ⟨Nat.zero_le _, .nil, h2⟩
   ·
    clear h2
    intro k v M w hI
    show W _ _ _ _ [(1, .pointer (some ⟨p2.B, 0, none⟩)), (3, .pointer (some ⟨p2.D, 0, none⟩)), (5, .int .i64 i), (6, v), (7, .int .i64 k)] w
    obtain ⟨hk, hb, hs⟩ := hI
    obtain ⟨a, c, rfl, hc⟩ := hb.slice
    by_cases hlk : k < 256
    ·
     skip
     refine W_seq (W_seq (W_region (L_move rfl rfl (L_lss rfl rfl rfl (dtrue (by omega)) ?_))))
     refine RL_then (W_if_true rfl (W_skip' (Nx_then (W_seq (W_block (W_region (L_move rfl rfl (L_move rfl rfl (L_mul rfl rfl rfl (wrp_i64 (by omega)) ?_)))))))))
     refine L_move rfl rfl (L_rem rfl rfl rfl (by omega) ?_)
     rw [show ((i : Int).tmod 3) = ((i % 3 : Nat) : Int) from rfl]
     have hi3 : i % 3 < 3 := Nat.mod_lt _ (by decide)
     refine L_mul rfl rfl rfl (wrp_i64 (by omega)) ?_
     refine L_add rfl rfl rfl (wrp_i64 (by omega)) ?_
     refine L_itof rfl Try.underlying3 Try.underlying22 rfl ?_
     rw [show (3 * (k : Int) + 700 * ((i % 3 : Nat) : Int)) = ((3 * k + 700 * (i % 3) : Nat) : Int) by omega]
     refine L_call rfl Try.fun16 rfl (track_ok (FloatKind.f64.nearest ((3 * k + 700 * (i % 3) : Nat) : Int)) 0 w) ?_
     rintro _ w' ⟨rfl, hs'⟩
     have h3 := hs.nil hs'
     clear hs hs'
     have hs := h3
     clear h3
     refine L_buildSlice rfl hs Try.underlying38 Try.ti48 rfl (by decide) rfl (by simp [Value.cells, Tk.cells]) ?_
     intro b49 w hb49 hnb49 hs
     skip
     have h3 : HS w0 w ((p2.bks far ++ M) ++ [(b49, Row 48 (tkm (3 * k + 700 * (i % 3))).cells)]) := by simpa [Value.cells, tkm] using hs
     clear hs
     refine L_appendT (L := p2.bks far) (M := M) (news := (tkm (3 * k + 700 * (i % 3))).cells) rfl Try.underlying38 Try.ti48 rfl h3 (by assumption) hb rfl rfl rfl (Tk.one _) (by omega) (by omega) ?_
     clear h3
     intro v' w M' hs hb'
     refine L_assign rfl rfl (RL_nil' (Nx_block (Nx_then (W_region (L_move rfl rfl (L_add rfl rfl rfl (wrp_i64 (by omega)) ?_))))))
     refine L_assign rfl rfl (RL_nil' ?_)
     refine Nx_loopP (k + 1, v', M', w) (is := [1, 3, 5, 6, 7]) (I' := (fun (k : Nat) (v : Value) (M : Bks) (w : World) => (k ≤ 256) ∧ (Bl w0 48 15 v k (tcs (many i k)) M) ∧ (HS w0 w (p2.bks far ++ M))) (k + 1) (v') (M') (w)) rfl rfl rfl ?_ ?_
     ·
      exact ⟨by omega, by rw [many_snoc, tcs_app, tcs_one']; exact hb', hs⟩
     ·
      omega
    ·
     obtain rfl : k = 256 := by omega
     have hml := many_len i 256
     refine W_seq (W_seq (W_region (L_move rfl rfl (L_lss rfl rfl rfl (dfalse (by omega)) ?_))))
     refine RL_then (W_if_false rfl (W_exit' (Ex_then_exit (Ex_loop_exit (Ex_block_hit (Nx_then (W_seq (W_region (L_move rfl rfl (L_move rfl rfl (L_move rfl rfl (L_move rfl rfl ?_))))))))))))
     refine L_build rfl rfl (Pl.builtN Try.pl40 rfl) ?_
     refine L_call rfl Try.fun14 rfl (move_ok w0 w far p2 M 1 0 0 0 i a 256 c (many i 256) hs hp2 hb.own (by decide) (by decide) (by decide) (fun w' L' h1 _ h3 => Bl.slcM hb h1 h3) hml (by decide) (fun j hj => by rw [many_get hj]; exact tkm_lt (by omega))) ?_
     rintro _ w ⟨rfl, p3, hpB3, hpD3, h2, hp3, _⟩
     rw [← hpB3, ← hpD3]
     clear hs
     have hs := h2
     clear h2
     have hsl : SlC w a (tcs (many i 256)) := Bl.slcM hb hs (fun p hp => List.mem_append_right _ hp)
     obtain ⟨t0, ht0⟩ : ∃ t0, t0 = (many i 256).getD 0 tk0 := ⟨_, rfl⟩
     refine L_not rfl rfl (L_move rfl rfl (RL_want rfl rfl (L_move rfl rfl (RL_want rfl rfl (L_move rfl rfl (RL_want rfl rfl (L_move rfl rfl (RL_want rfl rfl (L_move rfl rfl (RL_want rfl rfl (L_move rfl rfl (RL_want rfl rfl ?_))))))))))))
     refine L_idxN rfl Try.underlying38 Try.ti48 rfl rfl natc_0 (by omega) (hsl.ao (by rw [tcs_len, hml]; decide)) ?_
     refine RL_want rfl rfl ?_
     refine L_loadA rfl Try.agg48 Try.ti48 rfl (by exact tk_at hsl (i := 0) (by rw [hml]; decide)) ?_
     refine RL_want rfl rfl (L_buildSlice rfl hs Try.underlying38 Try.ti48 rfl (by decide) rfl (by simp [Value.cells, Tk.cells]) ?_)
     intro b66 w hb66 hnb66 hs
     skip
     have h3 : HS w0 w ((p3.bks far ++ M) ++ [(b66, Row 48 t0.cells)]) := by rw [ht0]; simpa [Value.cells] using hs
     clear hs
     refine RL_want rfl rfl (L_appendT (L := p3.bks far) (M := M) (news := t0.cells) rfl Try.underlying38 Try.ti48 rfl h3 (by assumption) hb rfl rfl rfl (Tk.one _) (by omega) (by omega) ?_)
     clear h3
     intro v' w M' hs hb'
     have hml2 : (many i 256 ++ [t0]).length = 257 := by rw [List.length_append, hml]; rfl
     have hT : ∀ j, j < 257 → TkLt ((many i 256 ++ [t0]).getD j tk0) := fun j hj => by
      by_cases hj2 : j < 256
      ·
       rw [List.getD_eq_getElem?_getD, List.getElem?_append_left (by omega), ← List.getD_eq_getElem?_getD, many_get hj2]; exact tkm_lt (by omega)
      ·
       obtain rfl : j = 256 := by omega
       rw [List.getD_eq_getElem?_getD, List.getElem?_append_right (by omega), hml]
       show TkLt t0
       rw [ht0, many_get (by decide)]; exact tkm_lt (by omega)
     rw [← tcs_one' t0, ← tcs_app] at hb'
     obtain ⟨a', c', rfl, hc'⟩ := hb'.slice
     refine RL_want rfl rfl (L_build rfl rfl (Pl.builtN Try.pl40 rfl) (RL_want rfl rfl (L_call rfl Try.fun14 rfl (move_ok w0 w far p3 M' 1 0 0 0 i a' 257 c' (many i 256 ++ [t0]) hs hp3 hb'.own (by decide) (by decide) (by decide) (fun w' L' h1 _ h3 => Bl.slcM hb' h1 h3) hml2 (by decide) hT) ?_)))
     rintro _ w ⟨rfl, p4, hpB4, hpD4, h2, hp4, _⟩
     rw [← hpB4, ← hpD4]
     clear hs
     refine RL_want rfl rfl (L_not rfl rfl (L_pick_f rfl rfl rfl (RL_then (W_if_false rfl (W_skip' (Nx_block (Nx_then (W_region (L_move rfl rfl (L_add rfl rfl rfl (wrp_i64 (by omega)) ?_))))))))))
     refine L_assign rfl rfl (RL_nil' ?_)
     refine Nx_loopP (i + 1, p4, w) (is := [1, 3, 5]) (I' := (fun (i : Nat) (p : PN) (w : World) => (i ≤ 4) ∧ (p.Ok w0) ∧ (HS w0 w (p.bks far ++ []))) (i + 1) (p4) (w)) rfl rfl rfl ?_ ?_
     ·
      exact ⟨by omega, hp4, by rw [List.append_nil]; exact HS.dropR h2 hb'.own⟩
     ·
      omega
  ·
   obtain rfl : i = 4 := by omega
   refine W_seq (W_seq (W_region (L_move rfl rfl (L_lss rfl rfl rfl (dfalse (by omega)) ?_))))
   refine RL_then (W_if_false rfl (W_exit' (Ex_then_exit (Ex_loop_exit (Ex_block_hit (Nx_then (W_seq (W_region (L_move rfl rfl (L_move rfl rfl (L_call rfl Try.fun15 rfl (fused2_ok w0 w far p [] hs hp Own.nil hf) ?_)))))))))))
   rintro _ w ⟨rfl, h4⟩
   clear hs
   refine L_move rfl rfl (RL_want rfl rfl (L_call rfl Try.fun11 rfl (wakes_ok _) ?_))
   rintro _ w2 ⟨rfl, hs'⟩
   have hs := h4.nil hs'
   clear hs' h4
   refine L_pick_t rfl rfl rfl (L_assign rfl rfl (RL_then (W_ret' (Ex_done1 rfl rfl ?_))))
   exact ⟨_, rfl, rfl, hs.forget ((hp.own far).app Own.nil)⟩
end Go.Proofs.Ytknpoemkmcdgcaa
