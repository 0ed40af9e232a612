/-
  A part of the proof: what functions that the statement reaches do, or a plain law on what they do. Each theorem holds under its own premises alone.
-/
import Derived.Test.YtknpoemkmcdgcaaTNO
import Derived.Test.YtknpoemkmcdgcaaKitY
import Derived.Test.YtknpoemkmcdgcaaKitQ
namespace Go.Proofs.Ytknpoemkmcdgcaa
open Go Go.Lk
/-! ### One radar alone -/
def bitsF (x : Nat) : Nat := if isnan x then 18446744073709551615 else x
theorem bitsF_congr {x y : Nat} (h : cn x = cn y) : bitsF x = bitsF y := by
  have hn : isnan x = isnan y := by rw [← isnan_cn x, h, isnan_cn]
  unfold bitsF
  rw [hn]
  split
  · rfl
  · next h2 =>
    have h3 : isnan y = false := by simpa using h2
    rw [cn_num (hn ▸ h3), cn_num h3] at h
    exact h
theorem bits_ok (x : Nat) (w0 : World) : Ret Try.prog 69 [.float .f64 x] w0 fun v w' => v = .int .u64 (bitsF x : Nat) ∧ w' = w0 := by
  refine calls_of_W Try.func69 rfl rfl rfl ?_
  cases hx : isnan x
  · have h1 : (FloatKind.f64.format.order x x != some .eq) = false := by rw [order_self hx]; rfl
    have e : bitsF x = x := by unfold bitsF; rw [hx, if_neg (by decide)]
    refine W_seq ?_
    refine W_region ?_
    refine L_assign rfl rfl ?_
    refine RL_then ?_
    refine W_seq ?_
    refine W_seq ?_
    refine W_region ?_
    refine L_move rfl rfl ?_
    refine L_move rfl rfl ?_
    refine L_fcmp rfl rfl rfl (fun _ => by rw [binOp_float_cmp_neq, h1]; rfl) ?_
    refine RL_then ?_
    refine W_if_false rfl ?_
    refine W_skip' ?_
    refine Nx_then ?_
    refine W_seq ?_
    refine W_region ?_
    refine L_move rfl rfl ?_
    refine RL_val rfl (R_f64bits Try.ext27 rfl) ?_
    refine L_assign rfl rfl ?_
    refine RL_then ?_
    refine W_ret' ?_
    refine Ex_done1 rfl rfl ?_
    exact ⟨_, rfl, by rw [e], rfl⟩
  · have h1 : (FloatKind.f64.format.order x x != some .eq) = true := by rw [order_nanL hx]; rfl
    have e : bitsF x = 18446744073709551615 := by unfold bitsF; rw [hx, if_pos rfl]
    refine W_seq ?_
    refine W_region ?_
    refine L_assign rfl rfl ?_
    refine RL_then ?_
    refine W_seq ?_
    refine W_seq ?_
    refine W_region ?_
    refine L_move rfl rfl ?_
    refine L_move rfl rfl ?_
    refine L_fcmp rfl rfl rfl (fun _ => by rw [binOp_float_cmp_neq, h1]; rfl) ?_
    refine RL_then ?_
    refine W_if_true rfl ?_
    refine W_seq ?_
    refine W_region ?_
    refine L_assign rfl rfl ?_
    refine RL_then ?_
    refine W_ret' ?_
    refine Ex_then_ret ?_
    refine Ex_done1 rfl rfl ?_
    exact ⟨_, rfl, by rw [e]; rfl, rfl⟩
theorem sizeU64 (w : World) : (sizeOf 69).run Try.prog w = .ok 1 w := Try.ti69.sizeOf w
theorem cSame_ok (a b c d : Nat) (h1 : cn a = cn c) (h2 : cn b = cn d) (w0 : World) : Ret Try.prog 51 [.complex .f64 a b, .complex .f64 c d] w0 fun v w' => v = .bool true ∧ w' = w0 := by
  refine calls_of_W Try.func51 rfl rfl rfl ?_
  refine W_seq ?_
  refine W_region ?_
  refine L_assign rfl rfl ?_
  refine RL_then ?_
  refine W_seq ?_
  refine W_region ?_
  refine L_move rfl rfl ?_
  refine L_real rfl rfl ?_
  refine L_call rfl Try.fun69 rfl (bits_ok a w0) ?_
  rintro _ _ ⟨rfl, rfl⟩
  refine L_move rfl rfl ?_
  refine L_imag rfl rfl ?_
  refine L_call rfl Try.fun69 rfl (bits_ok b _) ?_
  rintro _ _ ⟨rfl, rfl⟩
  refine L_build rfl rfl (by exact builtA2 (z0 := .int .u64 0) (z1 := .int .u64 0) (by kernel_rfl) Try.underlying121 (by kernel_rfl) .u64 _ _) ?_
  refine L_move rfl rfl ?_
  refine L_real rfl rfl ?_
  refine L_call rfl Try.fun69 rfl (bits_ok c _) ?_
  rintro _ _ ⟨rfl, rfl⟩
  refine L_move rfl rfl ?_
  refine L_imag rfl rfl ?_
  refine L_call rfl Try.fun69 rfl (bits_ok d _) ?_
  rintro _ _ ⟨rfl, rfl⟩
  refine L_build rfl rfl (by exact builtA2 (z0 := .int .u64 0) (z1 := .int .u64 0) (by kernel_rfl) Try.underlying121 (by kernel_rfl) .u64 _ _) ?_
  refine RL_val rfl (R_eqA2 Try.underlying121 Try.underlying69 sizeU64 (by kernel_rfl) rfl rfl) ?_
  refine L_assign rfl rfl ?_
  refine RL_then ?_
  refine W_ret' ?_
  refine Ex_done1 rfl rfl ?_
  exact ⟨_, rfl, by rw [bitsF_congr h1, bitsF_congr h2]; simp, rfl⟩
theorem floatS_ok (x y : Nat) (h : cn x = cn y) (w0 : World) : Ret Try.prog 29 [.float .f64 x, .float .f64 y] w0 fun v w' => v = .bool true ∧ w' = w0 := by
  refine calls_of_W Try.func29 rfl rfl rfl ?_
  refine W_seq ?_
  refine W_region ?_
  refine L_assign rfl rfl ?_
  refine RL_then ?_
  refine W_seq ?_
  refine W_region ?_
  refine L_move rfl rfl ?_
  refine L_complex rfl rfl rfl ?_
  refine L_move rfl rfl ?_
  refine L_complex rfl rfl rfl ?_
  refine L_call rfl Try.fun51 rfl (cSame_ok x 0 y 0 h rfl w0) ?_
  rintro _ _ ⟨rfl, rfl⟩
  refine L_assign rfl rfl ?_
  refine RL_then ?_
  refine W_ret' ?_
  refine Ex_done1 rfl rfl ?_
  exact ⟨_, rfl, rfl, rfl⟩
theorem foldl_neg (i : Nat) : ∀ (own : List ST) (ms : List Int) (S : List ST), ms.length = own.length → (∀ k, k < ms.length → ms.getD k 0 < 0) → (own.zip ms).foldl (stp i) S = S ++ own
  | [], _, S, _, _ => by simp
  | x :: own, m :: ms, S, hl, hm => by
    have h0 : m < 0 := hm 0 (by simp)
    rw [List.zip_cons_cons, List.foldl_cons, foldl_neg i own ms _ (by simpa using hl) (fun k hk => hm (k + 1) (by simpa using hk))]
    unfold stp
    rw [if_neg (by omega)]
    simp
  | _ :: _, [], _, hl, _ => by simp at hl
theorem fus_one {far : Nat} {rs : List Rd} {S : List ST} (hf : FarOk far) (hn : (rs.getD 0 rd0).ts.length ≤ 256) (h : FusTo far rs 1 S) : S = ownS rs 0 := by
  cases h with
  | step h hi hm =>
    cases h
    obtain ⟨h1, h2⟩ := mates_ok hf hn hm
    rw [foldl_neg 0 _ _ _ (by rw [h1]; simp [ownS]) (fun k hk => by have := (h2 k hk).1; simpa using this)]
    rfl
theorem fop_lt (op : BinOp) (x y : Nat) : fop op x y < 18446744073709551616 := by
  unfold fop
  cases h : floatBits op .f64 x y with
  | none => exact (by decide : qnan < 18446744073709551616)
  | some r => exact floatBits_lt h
theorem quo_mv (op : BinOp) (x y : Nat) : fop .quo (fop op x y) (FloatKind.f64.nearest 1) = fop op x y := by
  rw [show FloatKind.f64.nearest 1 = 4607182418800017408 by decide +kernel, quo_one (fop_lt ..), cn_fop]
theorem prt_new (r : Rd) (i : Nat) (k : Tk) : prt (newS r i k) = newS r i k := by
  show ST.mk (fop .quo (mvX r.x r.t k.xx k.yx) (FloatKind.f64.nearest 1)) (fop .quo (mvY r.y r.t k.xx k.yx) (FloatKind.f64.nearest 1)) (fop .quo (mvX 0 r.t k.xv k.yv) (FloatKind.f64.nearest 1)) (fop .quo (mvY 0 r.t k.xv k.yv) (FloatKind.f64.nearest 1)) _ = _
  unfold mvX mvY newS
  rw [quo_mv, quo_mv, quo_mv, quo_mv]; rfl
theorem fcs_len (fs : List Th) : (fcs fs).length = fs.length * 5 := by
  induction fs with
  | nil => rfl
  | cons t ts ih =>
    show (t.cells ++ fcs ts).length = _
    rw [List.length_append, ih, List.length_cons]
    show 5 + _ = _
    omega
theorem fcs_get : ∀ {ts : List Th} {i q : Nat} {v : Value}, i < ts.length → (ts.getD i th0).cells[q]? = some v → (fcs ts)[i * 5 + q]? = some v
  | t :: ts, 0, q, v, _, h => by
    show (t.cells ++ fcs ts)[0 * 5 + q]? = some v
    rw [Nat.zero_mul, Nat.zero_add]
    have hq : q < t.cells.length := (List.getElem?_eq_some_iff.1 h).1
    rw [List.getElem?_append_left hq]; exact h
  | t :: ts, i + 1, q, v, hi, h => by
    show (t.cells ++ fcs ts)[(i + 1) * 5 + q]? = some v
    have hl : t.cells.length = 5 := rfl
    rw [List.getElem?_append_right (by omega), show (i + 1) * 5 + q - t.cells.length = i * 5 + q by omega]
    exact fcs_get (by simpa using hi) h
theorem firm_mem_len (ts : List Tk) (i : Nat) : (firm (ts.take i)).length ≤ (firm ts).length := by
  have := congrArg List.length (congrArg firm (List.take_append_drop i ts))
  unfold firm at *
  rw [List.filter_append, List.length_append] at this
  omega
/-- the firm one at a place -/
theorem firm_at {ts : List Tk} {i : Nat} (hi : i < ts.length) (hk : (ts.getD i tk0).kind = 1) : (firm ts)[(firm (ts.take i)).length]? = some (ts.getD i tk0) := by
  have e : firm ts = firm (ts.take i) ++ (ts.getD i tk0 :: firm (ts.drop (i + 1))) := by
    have h1 := congrArg firm (split_at (d := tk0) hi)
    rw [h1]
    unfold firm
    rw [List.filter_append, List.filter_cons, if_pos (decide_eq_true hk)]
  rw [e]
  exact get_mid _ _ _ _ rfl
def SPA (f : FuncId) (args : Array Value) (v : Value) : Prop := match f, args.toList with
  | 28, [.agg s, .agg p] => (match s.toList, p.toList with
    | [.float .f64 sx, .float .f64 sy, .float .f64 st], [.float .f64 px, .float .f64 py] => MovR sx sy st px py v
    | _, _ => False)
  | 29, _ => v = .bool true
  | _, _ => False
theorem movedA {w0 w : World} {L : Bks} (hs : HS w0 w L) (sx sy st px py : Nat) (ht : st < 18446744073709551616) : Ret Try.prog 28 [.agg #[.float .f64 sx, .float .f64 sy, .float .f64 st], .agg #[.float .f64 px, .float .f64 py]] w fun v w' => SPA 28 [.agg #[.float .f64 sx, .float .f64 sy, .float .f64 st], .agg #[.float .f64 px, .float .f64 py]].toArray v ∧ HS w0 w' L :=
  Calls.mono (moved_ok sx sy st px py ht w) fun e w' => by
    rintro ⟨v, rfl, hv, hs'⟩
    exact ⟨_, rfl, hv, hs.nil hs'⟩
theorem floatA {w0 w : World} {L : Bks} (hs : HS w0 w L) (x y : Nat) (h : cn x = cn y) : Ret Try.prog 29 [.float .f64 x, .float .f64 y] w fun v w' => SPA 29 [.float .f64 x, .float .f64 y].toArray v ∧ HS w0 w' L :=
  Calls.mono (floatS_ok x y h w) fun e w' => by
    rintro ⟨v, rfl, rfl, rfl⟩
    exact ⟨_, rfl, rfl, hs⟩
theorem wakesL {w0 w : World} {L : Bks} (hs : HS w0 w L) : Ret Try.prog 11 [] w fun v w' => v = .bool true ∧ HS w0 w' L :=
  Calls.mono (wakes_ok w) fun e w' => by
    rintro ⟨v, rfl, rfl, hs'⟩
    exact ⟨_, rfl, rfl, hs.nil hs'⟩
set_option maxHeartbeats 1000000 in
theorem alone_law (far sx sy st : Nat) (a1 a2 : Option Addr) (n1 c1 n2 c2 : Nat) (t1 t2 : List Tk) (w0 : World) (hfl : far < 18446744073709551616) (hx : sx < 18446744073709551616) (hy : sy < 18446744073709551616) (ht : st < 18446744073709551616)
    (h1 : SlC w0 a1 (tcs t1)) (hn1 : t1.length = n1) (hm1 : n1 ≤ 1000000000000000) (hl1 : ∀ i, i < n1 → TkLt (t1.getD i tk0)) (h2 : SlC w0 a2 (tcs t2)) (hn2 : t2.length = n2) (hm2 : n2 ≤ 1000000000000000) (hl2 : ∀ i, i < n2 → TkLt (t2.getD i tk0)) :
    Ret Try.prog 9 [.float .f64 far, .agg #[.float .f64 sx, .float .f64 sy, .float .f64 st], .slice a1 n1 c1, .slice a2 n2 c2] w0 fun v w' => v = .bool true ∧ HS w0 w' [] := by
  refine Ret.start fun w hs => ?_
  refine calls_of_W Try.func9 rfl rfl rfl ?_
  refine W_seq ?_
  refine W_region ?_
  refine L_box rfl hs rfl ?_
  intro b5 w hb5 hnb5 hs
  try dsimp only [List.set_cons_succ, List.set_cons_zero, List.cons_append, List.nil_append] at hs
  refine L_assign rfl rfl ?_
  refine RL_then ?_
  refine W_seq ?_
  refine W_seq ?_
  refine W_region ?_
  obtain ⟨R, hR⟩ : ∃ R : Bks, R = [(b5, Row 37 [.float .f64 sx, .float .f64 sy, .float .f64 st])] := ⟨_, rfl⟩
  have hoR : Own w0 R := by rw [hR]; exact Own.cons hb5 Own.nil
  replace hs : HS w0 w R := by rw [hR]; exact hs
  by_cases hg : 40 < n1 ∨ 40 < n2
  · by_cases hg1 : 40 < n1
    · refine L_move rfl rfl ?_
      refine L_len rfl Try.underlying38 rfl ?_
      first | refine L_gtr rfl rfl rfl (dtrue (by omega)) ?_ | refine L_gtr rfl rfl rfl (dfalse (by omega)) ?_ | refine L_gtr rfl rfl rfl rfl ?_
      refine L_move rfl rfl ?_
      first | (refine RL_want rfl rfl ?_; refine L_move rfl rfl ?_) | refine RL_skip rfl rfl rfl rfl ?_ | refine RL_skipU rfl rfl rfl ?_
      first | (refine RL_want rfl rfl ?_; refine L_len rfl Try.underlying38 rfl ?_) | refine RL_skip rfl rfl rfl rfl ?_ | refine RL_skipU rfl rfl rfl ?_
      first | (refine RL_want rfl rfl ?_; (first | refine L_gtr rfl rfl rfl (dtrue (by omega)) ?_ | refine L_gtr rfl rfl rfl (dfalse (by omega)) ?_ | refine L_gtr rfl rfl rfl rfl ?_)) | refine RL_skip rfl rfl rfl rfl ?_ | refine RL_skipU rfl rfl rfl ?_
      first | refine L_pick_t rfl rfl rfl ?_ | refine L_pick_f rfl rfl rfl ?_
      refine RL_then ?_
      refine W_if_true rfl ?_
      refine W_seq ?_
      refine W_region ?_
      refine L_call rfl Try.fun11 rfl (wakesL hs) ?_
      rintro _ w1 ⟨rfl, hs'⟩
      refine L_assign rfl rfl ?_
      refine RL_then ?_
      refine W_ret' ?_
      refine Ex_then_ret ?_
      refine Ex_done1 rfl rfl ?_
      exact ⟨_, rfl, rfl, hs'.forget hoR⟩
    · refine L_move rfl rfl ?_
      refine L_len rfl Try.underlying38 rfl ?_
      first | refine L_gtr rfl rfl rfl (dtrue (by omega)) ?_ | refine L_gtr rfl rfl rfl (dfalse (by omega)) ?_ | refine L_gtr rfl rfl rfl rfl ?_
      refine L_move rfl rfl ?_
      first | (refine RL_want rfl rfl ?_; refine L_move rfl rfl ?_) | refine RL_skip rfl rfl rfl rfl ?_ | refine RL_skipU rfl rfl rfl ?_
      first | (refine RL_want rfl rfl ?_; refine L_len rfl Try.underlying38 rfl ?_) | refine RL_skip rfl rfl rfl rfl ?_ | refine RL_skipU rfl rfl rfl ?_
      first | (refine RL_want rfl rfl ?_; (first | refine L_gtr rfl rfl rfl (dtrue (by omega)) ?_ | refine L_gtr rfl rfl rfl (dfalse (by omega)) ?_ | refine L_gtr rfl rfl rfl rfl ?_)) | refine RL_skip rfl rfl rfl rfl ?_ | refine RL_skipU rfl rfl rfl ?_
      first | refine L_pick_t rfl rfl rfl ?_ | refine L_pick_f rfl rfl rfl ?_
      refine RL_then ?_
      refine W_if_true rfl ?_
      refine W_seq ?_
      refine W_region ?_
      refine L_call rfl Try.fun11 rfl (wakesL hs) ?_
      rintro _ w1 ⟨rfl, hs'⟩
      refine L_assign rfl rfl ?_
      refine RL_then ?_
      refine W_ret' ?_
      refine Ex_then_ret ?_
      refine Ex_done1 rfl rfl ?_
      exact ⟨_, rfl, rfl, hs'.forget hoR⟩
  · rw [not_or] at hg
    refine L_move rfl rfl ?_
    refine L_len rfl Try.underlying38 rfl ?_
    first | refine L_gtr rfl rfl rfl (dtrue (by omega)) ?_ | refine L_gtr rfl rfl rfl (dfalse (by omega)) ?_ | refine L_gtr rfl rfl rfl rfl ?_
    refine L_move rfl rfl ?_
    first | (refine RL_want rfl rfl ?_; refine L_move rfl rfl ?_) | refine RL_skip rfl rfl rfl rfl ?_ | refine RL_skipU rfl rfl rfl ?_
    first | (refine RL_want rfl rfl ?_; refine L_len rfl Try.underlying38 rfl ?_) | refine RL_skip rfl rfl rfl rfl ?_ | refine RL_skipU rfl rfl rfl ?_
    first | (refine RL_want rfl rfl ?_; (first | refine L_gtr rfl rfl rfl (dtrue (by omega)) ?_ | refine L_gtr rfl rfl rfl (dfalse (by omega)) ?_ | refine L_gtr rfl rfl rfl rfl ?_)) | refine RL_skip rfl rfl rfl rfl ?_ | refine RL_skipU rfl rfl rfl ?_
    first | refine L_pick_t rfl rfl rfl ?_ | refine L_pick_f rfl rfl rfl ?_
    refine RL_then ?_
    refine W_if_false rfl ?_
    refine W_skip' ?_
    refine Nx_then ?_
    refine W_seq ?_
    refine W_region ?_
    refine L_move rfl rfl ?_
    refine L_call rfl Try.fun12 rfl (newG far w hfl) ?_
    rintro _ w1 (⟨hE, B, rfl, hs', hB⟩ | ⟨hE, rfl, hs'⟩)
    · have hf := FarOk.of hfl hE
      have hBw := hB
      replace hB := Nat.le_trans hs.size hB
      replace hs : HS w0 w1 (nbs B far (.slice none 0 0) [] [] ++ R) := (show HS w0 w1 ([(B, Row 76 [.float .f64 far, .slice none 0 0])] ++ R) from HS.rot (hs.call hs' (Own.cons hBw Own.nil)))
      clear hs' hBw
      have hN : NetOk w0 B (.slice none 0 0) [] [] := ⟨hB, .nil, fun _ h => absurd h List.not_mem_nil, by decide⟩
      refine L_move rfl rfl ?_
      refine L_extract rfl rfl rfl ?_
      refine L_extract rfl rfl rfl ?_
      refine L_assign rfl rfl ?_
      refine L_assign rfl rfl ?_
      refine RL_then ?_
      refine W_seq ?_
      refine W_seq ?_
      refine W_region ?_
      refine L_move rfl rfl ?_
      first | refine L_neq rfl rfl rfl (dtrue (by omega)) ?_ | refine L_neq rfl rfl rfl (dfalse (by omega)) ?_ | refine L_neq rfl rfl rfl rfl ?_
      refine L_move rfl rfl ?_
      first | (refine RL_want rfl rfl ?_; refine L_move rfl rfl ?_) | refine RL_skip rfl rfl rfl rfl ?_ | refine RL_skipU rfl rfl rfl ?_
      first | (refine RL_want rfl rfl ?_; refine L_ptrNil rfl Try.underlying26 rfl rfl ?_) | refine RL_skip rfl rfl rfl rfl ?_ | refine RL_skipU rfl rfl rfl ?_
      first | refine L_pick_t rfl rfl rfl ?_ | refine L_pick_f rfl rfl rfl ?_
      refine RL_then ?_
      refine W_if_false rfl ?_
      refine W_skip' ?_
      refine Nx_then ?_
      refine W_seq ?_
      refine W_seq ?_
      refine W_region ?_
      refine L_move rfl rfl ?_
      refine L_loadA rfl Try.agg37 Try.ti37 rfl (by exact cellsAt_whole (cs := [.float .f64 sx, .float .f64 sy, .float .f64 st]) (hs.has (b5, Row 37 [.float .f64 sx, .float .f64 sy, .float .f64 st]) (List.mem_append_right _ (by rw [hR]; exact List.mem_singleton.2 rfl)))) ?_
      refine L_call rfl Try.fun20 rfl (addG w0 w1 B far (.slice none 0 0) [] R [] sx sy st hs hN hx hy ht) ?_
      rintro _ w2 (⟨_, v1, M1, rfl, hs2, hN1⟩ | ⟨hA, rfl, hs2⟩)
      · clear hs hN; have hs := hs2; clear hs2
        obtain ⟨ms, hms⟩ : ∃ ms, ms = [] ++ [RM.mk ⟨sx, sy, st, none, 0, []⟩ []] := ⟨_, rfl⟩
        rw [← hms] at hs hN1
        have hml : ms.length = 1 := by rw [hms]; rfl
        have hmr : rds ms = [⟨sx, sy, st, none, 0, []⟩] := by rw [hms]; rfl
        refine L_move rfl rfl ?_
        refine L_extract rfl rfl rfl ?_
        refine L_extract rfl rfl rfl ?_
        refine L_assign rfl rfl ?_
        refine L_assign rfl rfl ?_
        refine RL_then ?_
        refine W_seq ?_
        refine W_region ?_
        refine L_move rfl rfl ?_
        first | refine L_neq rfl rfl rfl (dtrue (by omega)) ?_ | refine L_neq rfl rfl rfl (dfalse (by omega)) ?_ | refine L_neq rfl rfl rfl rfl ?_
        refine RL_then ?_
        refine W_if_false rfl ?_
        refine W_skip' ?_
        refine Nx_then ?_
        refine W_seq ?_
        refine W_region ?_
        refine L_move rfl rfl ?_
        refine L_move rfl rfl ?_
        have hoA : ∀ {v M ms}, NetOk w0 B v M ms → Own w0 (nbs B far v M ms ++ R) := fun h => h.owns.app hoR
        refine L_call rfl Try.fun21 rfl (tellG w0 w2 B far v1 M1 R ms 0 a1 n1 c1 t1 hs hN1 hoR (fun w' L' hs' ho _ => h1.old hs' ho) hn1 (by omega) hl1) ?_
        rintro _ w3 ⟨rfl, hT⟩
        obtain ⟨M2, ms2, T1, ar, cr, hs2, hN2, hr2⟩ : ∃ M2 ms2 T1 ar cr, HS w0 w3 (nbs B far v1 M2 ms2 ++ R) ∧ NetOk w0 B v1 M2 ms2 ∧ rds ms2 = [⟨sx, sy, st, ar, cr, T1⟩] := by
          rcases hT with ⟨_, h⟩ | ⟨_, q', a3, c3, M', ms', hq, hql, h, hN', hr'⟩
          · exact ⟨M1, ms, _, _, _, h, hN1, hmr⟩
          · obtain rfl : q' = 0 := by omega
            rw [hmr] at hr'
            exact ⟨M', ms', _, _, _, h, hN', hr'⟩
        clear hs hN1 hT; have hs := hs2; clear hs2
        have hml2 : ms2.length = 1 := by have := congrArg List.length hr2; rwa [rds_len] at this
        refine RL_then ?_
        refine W_seq ?_
        refine W_region ?_
        refine L_move rfl rfl ?_
        refine L_call rfl Try.fun22 rfl (fusedG w0 w3 B far v1 M2 R ms2 hs hN2 hf) ?_
        rintro v9 w4 ⟨S, fs, Mo, hF, hfm, hbo, hfb, hs2, hfl, _⟩
        have hoF : ∀ {fs : List Th}, (∀ t ∈ fs, Bl w0 3 1 t.v t.seen.length (il t.seen) t.M) → Own w0 (fms fs) := fun h p hp => by
          obtain ⟨t, ht, hp⟩ := List.mem_flatMap.1 hp
          exact (h t ht).own p hp
        have one : ∀ {ms : List RM} {T : List Tk} {S : List ST} {fs : List Th} {ar : Option Addr} {cr : Nat}, rds ms = [⟨sx, sy, st, ar, cr, T⟩] → T.length ≤ 256 → FusTo far (rds ms) 1 S → fs.map Th.s = S.map prt → fs.map Th.s = T.map (newS ⟨sx, sy, st, ar, cr, T⟩ 0) := fun hr hT hF hm => by
          rw [hr] at hF
          have := fus_one hf (by exact hT) hF
          rw [hm, this]
          show (List.map _ _).map _ = _
          rw [List.map_map]
          exact List.map_congr_left fun k _ => prt_new _ _ _
        have tl : ∀ {M} {ms : List RM} {T : List Tk} {ar : Option Addr} {cr : Nat}, rds ms = [⟨sx, sy, st, ar, cr, T⟩] → NetOk w0 B v1 M ms → T.length ≤ 256 := fun {M ms T ar cr} hr h => by
          have hl : 0 < ms.length := by have := congrArg List.length hr; rw [rds_len] at this; simp at this; omega
          have := (h.each _ (getD_mem (d := rm0) hl)).len
          rw [← rds_get hl, hr] at this
          exact this
        rw [hml2] at hF
        have hfm1 := one hr2 (tl hr2 hN2) hF hfm
        have hfl1 : fs.length = T1.length := by have := congrArg List.length hfm1; simpa using this
        replace hs := HS.dropR hs2 (hbo.own.app (hoF hfb))
        obtain ⟨ao9, co9, rfl, hco9⟩ := hbo.slice
        refine L_assign rfl rfl ?_
        refine RL_then ?_
        refine W_seq ?_
        refine W_seq ?_
        refine W_region ?_
        refine L_move rfl rfl ?_
        refine L_move rfl rfl ?_
        refine L_call rfl Try.fun21 rfl (tellG w0 w4 B far v1 M2 R ms2 0 a2 n2 c2 t2 hs hN2 hoR (fun w' L' hs' ho _ => h2.old hs' ho) hn2 (by omega) hl2) ?_
        rintro _ w5 ⟨rfl, ⟨hE2, hs3⟩ | ⟨hE2, q', a3, c3, M3, ms3, hq', _, hs3, hN3, hr3⟩⟩
        · have hs := hs3
          first | refine L_neq rfl rfl rfl (dtrue (by omega)) ?_ | refine L_neq rfl rfl rfl (dfalse (by omega)) ?_ | refine L_neq rfl rfl rfl rfl ?_
          refine RL_then ?_
          refine W_if_true rfl ?_
          refine W_seq ?_
          refine W_region ?_
          refine L_move rfl rfl ?_
          refine L_call rfl Try.fun22 rfl (fusedG w0 w5 B far v1 M2 R ms2 hs hN2 hf) ?_
          rintro vx w6 ⟨S2, fs2, Mo2, hF2, hfm2, hbo2, hfb2, hs4, hfl2, _⟩
          rw [hml2] at hF2
          have hfm3 := one hr2 (tl hr2 hN2) hF2 hfm2
          have hfl3 : fs2.length = T1.length := by have := congrArg List.length hfm3; simpa using this
          obtain ⟨ao7, co7, rfl, hco7⟩ := hbo2.slice
          refine L_len rfl Try.underlying55 rfl ?_
          refine L_move rfl rfl ?_
          refine L_len rfl Try.underlying55 rfl ?_
          first | refine L_eql rfl rfl rfl (dtrue (by omega)) ?_ | refine L_eql rfl rfl rfl (dfalse (by omega)) ?_ | refine L_eql rfl rfl rfl rfl ?_
          refine L_move rfl rfl ?_
          refine RL_want rfl rfl ?_
          refine L_call rfl Try.fun11 rfl (wakesL hs4) ?_
          rintro _ w7 ⟨rfl, hs5⟩
          first | refine L_pick_t rfl rfl rfl ?_ | refine L_pick_f rfl rfl rfl ?_
          refine L_assign rfl rfl ?_
          refine RL_then ?_
          refine W_ret' ?_
          refine Ex_then_ret ?_
          refine Ex_done1 rfl rfl ?_
          exact ⟨_, rfl, rfl, hs5.forget ((hoA hN2).app (hbo2.own.app (hoF hfb2)))⟩
        · obtain rfl : q' = 0 := by omega
          rw [hr2] at hr3
          replace hr3 : rds ms3 = [⟨sx, sy, st, a3, c3, firm t2⟩] := hr3
          have hs := hs3
          have hml3 : ms3.length = 1 := by have := congrArg List.length hr3; rwa [rds_len] at this
          first | refine L_neq rfl rfl rfl (dtrue (by omega)) ?_ | refine L_neq rfl rfl rfl (dfalse (by omega)) ?_ | refine L_neq rfl rfl rfl rfl ?_
          refine RL_then ?_
          refine W_if_false rfl ?_
          refine W_skip' ?_
          refine Nx_then ?_
          refine W_seq ?_
          refine W_region ?_
          refine L_move rfl rfl ?_
          refine L_call rfl Try.fun22 rfl (fusedG w0 w5 B far v1 M3 R ms3 hs hN3 hf) ?_
          rintro vx w6 ⟨S2, fs2, Mo2, hF2, hfm2, hbo2, hfb2, hs4, hfl2, _⟩
          rw [hml3] at hF2
          have hfm3 := one hr3 (tl hr3 hN3) hF2 hfm2
          have hfl3 : fs2.length = (firm t2).length := by have := congrArg List.length hfm3; simpa using this
          obtain ⟨ao7, co7, rfl, hco7⟩ := hbo2.slice
          obtain ⟨L, hL⟩ : ∃ L, L = (nbs B far v1 M3 ms3 ++ R) ++ (Mo2 ++ fms fs2) := ⟨_, rfl⟩
          have hoL : Own w0 L := by rw [hL]; exact (hoA hN3).app (hbo2.own.app (hoF hfb2))
          have hb5L : (b5, Row 37 [.float .f64 sx, .float .f64 sy, .float .f64 st]) ∈ L := by rw [hL, hR]; simp
          have hMoL : ∀ p ∈ Mo2, p ∈ L := fun p hp => by rw [hL]; simp [hp]
          rw [← hL] at hs4
          clear hs hs3; have hs := hs4; clear hs4
          refine L_assign rfl rfl ?_
          refine RL_then ?_
          refine W_seq ?_
          refine W_region ?_
          refine L_assign rfl rfl ?_
          refine RL_then ?_
          refine W_seq ?_
          refine W_seq ?_
          refine W_region ?_
          refine L_assign rfl rfl ?_
          refine RL_then ?_
          refine W_block ?_
          refine W_loop3 (fun (i : Nat) (k : Nat) (w : World) => [(3, .slice a2 n2 c2), (5, .pointer (some ⟨b5, 0, none⟩)), (14, .slice ao7 fs2.length co7), (15, .int .i64 k), (16, .int .i64 i)]) (fun (i : Nat) (k : Nat) (w : World) => w) (fun (i : Nat) (k : Nat) (w : World) => (i ≤ n2) ∧ (k = (firm (t2.take i)).length) ∧ (HS w0 w L)) (fun (i : Nat) (k : Nat) (w : World) => n2 - i) (0) (0) (_) (is := [3, 5, 14, 15, 16]) rfl rfl ?_ ?_
          · exact ⟨Nat.zero_le _, rfl, hs⟩
          · clear hs
            intro i k w hI
            show W _ _ _ _ [(3, .slice a2 n2 c2), (5, .pointer (some ⟨b5, 0, none⟩)), (14, .slice ao7 fs2.length co7), (15, .int .i64 k), (16, .int .i64 i)] w
            obtain ⟨hi, hk, hs⟩ := hI
            by_cases hin : i < n2
            · have hit : i < t2.length := by omega
              obtain ⟨t, hth⟩ : ∃ t, t = t2.getD i tk0 := ⟨_, rfl⟩
              have hcell : ∀ {w : World} {L' : Bks}, HS w0 w L' → Own w0 L' → ∀ {q : Nat} {v : Value}, t.cells[q]? = some v → w.cell? ((aD a2).add (i * 15 + q)) = some v := fun {w L'} hs ho {q v} hv => (h2.old hs ho).get (tcs_get hit (by rw [← hth]; exact hv))
              have htk := take_tk hit
              rw [← hth] at htk
              by_cases hkd : t.kind = 1
              · have hf1 : (firm (t2.take (i + 1))).length = k + 1 := by rw [htk, firm_snoc_t hkd, List.length_append, ← hk]; rfl
                have hfa := firm_at hit (by rw [← hth]; exact hkd)
                rw [← hk, ← hth] at hfa
                have hkl : k < fs2.length := by rw [hfl3]; exact (List.getElem?_eq_some_iff.1 hfa).1
                obtain ⟨f, hfe⟩ : ∃ f, f = fs2.getD k th0 := ⟨_, rfl⟩
                have hfs : f.s = newS ⟨sx, sy, st, a3, c3, firm t2⟩ 0 t := by
                  have e1 := get_of_map hfm3 (d := th0) hkl
                  rw [List.getElem?_map, hfa, ← hfe] at e1
                  exact (Option.some.inj e1).symm
                have hax : cn f.ax = mvX sx st t.xx t.yx := congrArg ST.ax hfs
                have hay : cn f.ay = mvY sy st t.xx t.yx := congrArg ST.ay hfs
                have hvx : cn f.vx = mvX 0 st t.xv t.yv := congrArg ST.vx hfs
                have hvy : cn f.vy = mvY 0 st t.xv t.yv := congrArg ST.vy hfs
                have hse : f.seen = [0] := congrArg ST.seen hfs
                have hfb1 := hfb2 f (by rw [hfe]; exact getD_mem hkl)
                rw [hse] at hfb1
                obtain ⟨sa, sc, hfv, _⟩ := hfb1.slice
                have hfcell : ∀ {w : World} {L' : Bks}, HS w0 w L' → (∀ p ∈ L, p ∈ L') → ∀ {q : Nat} {v : Value}, f.cells[q]? = some v → w.cell? ((aD ao7).add (k * 5 + q)) = some v := fun {w L'} hs ho {q v} hv => (Bl.slcM hbo2 hs (fun p hp => ho _ (hMoL p hp))).get (fcs_get hkl (by rw [← hfe]; exact hv))
                have hc4 : f.cells[4]? = some (.slice sa 1 sc) := by show some f.v = _; rw [hfv]; rfl
                have haof : ao7 = some (aD ao7) := (Bl.slcM hbo2 hs (fun p hp => hMoL p hp)).ao (by rw [fcs_len]; omega)
                refine W_seq ?_
                refine W_seq ?_
                refine W_region ?_
                refine L_move rfl rfl ?_
                refine L_move rfl rfl ?_
                refine L_len rfl Try.underlying38 rfl ?_
                first | refine L_lss rfl rfl rfl (dtrue (by omega)) ?_ | refine L_lss rfl rfl rfl (dfalse (by omega)) ?_ | refine L_lss rfl rfl rfl rfl ?_
                refine RL_then ?_
                refine W_if_true rfl ?_
                refine W_skip' ?_
                refine Nx_then ?_
                refine W_seq ?_
                refine W_block ?_
                refine W_seq ?_
                refine W_seq ?_
                refine W_region ?_
                refine L_move rfl rfl ?_
                refine L_move rfl rfl ?_
                refine L_idxN rfl Try.underlying38 Try.ti48 rfl rfl (by with_reducible first | exact natc_k _ | exact natc_a1 _ | exact natc_0 | exact natc_1 | exact natc_2 | exact natc_s1 _ (by omega) | exact natc_a2 _ | exact natc_add _ _ | exact natc_mul _ _ | exact natc (by omega)) (by omega) (h2.ao (by rw [tcs_len]; omega)) ?_
                refine L_fieldAddr rfl (off := 1) Try.underlying48 rfl rfl Try.ti43 rfl ?_
                refine L_load rfl Try.one43 rfl (by (rw [add_add]; exact hcell hs hoL (q := 1) rfl)) ?_
                first | refine L_neq rfl rfl rfl (dtrue (by omega)) ?_ | refine L_neq rfl rfl rfl (dfalse (by omega)) ?_ | refine L_neq rfl rfl rfl rfl ?_
                refine RL_then ?_
                refine W_if_false rfl ?_
                refine W_skip' ?_
                refine Nx_then ?_
                refine W_seq ?_
                refine W_sg Try.mixed ?_
                replace hs := hs.drewN 1
                refine SG_stageB [1, 2, 3, 4, 5, 7, 8, 9, 10, 11] [0, 6, 12, 13, 14, 15] [16] (noBk SPA) (g' := 0) (by kernel_rfl) (by kernel_rfl) (fun _ _ _ _ _ h => h) hs ?_
                refine PL_val rfl (fun w => R_move rfl) ?_
                refine PL_val rfl (fun w => R_move rfl) ?_
                refine PL_val rfl (fun w => R_idxN Try.underlying38 Try.ti48 rfl rfl (by with_reducible first | exact natc_k _ | exact natc_a1 _ | exact natc_0 | exact natc_1 | exact natc_2 | exact natc_s1 _ (by omega) | exact natc_a2 _ | exact natc_add _ _ | exact natc_mul _ _ | exact natc (by omega)) (by omega) (h2.ao (by rw [tcs_len]; omega))) ?_
                refine PL_val rfl (fun w => R_fieldAddr (off := 2) Try.underlying48 rfl rfl Try.ti45 rfl) ?_
                refine PL_val rfl (fun w => R_fieldAddr (off := 0) Try.underlying45 rfl rfl Try.ti22 rfl) ?_
                refine PL_val rfl (fun w => R_move rfl) ?_
                refine PL_val rfl (fun w => R_move rfl) ?_
                refine PL_val rfl (fun w => R_idxN Try.underlying38 Try.ti48 rfl rfl (by with_reducible first | exact natc_k _ | exact natc_a1 _ | exact natc_0 | exact natc_1 | exact natc_2 | exact natc_s1 _ (by omega) | exact natc_a2 _ | exact natc_add _ _ | exact natc_mul _ _ | exact natc (by omega)) (by omega) (h2.ao (by rw [tcs_len]; omega))) ?_
                refine PL_val rfl (fun w => R_fieldAddr (off := 7) Try.underlying48 rfl rfl Try.ti45 rfl) ?_
                refine PL_val rfl (fun w => R_fieldAddr (off := 0) Try.underlying45 rfl rfl Try.ti22 rfl) ?_
                refine PL_endB ?_
                refine HB_val rfl (fun w R hR hs => R_loadA Try.agg37 Try.ti37 rfl (by exact cellsAt_whole (cs := [.float .f64 sx, .float .f64 sy, .float .f64 st]) (hs.has (b5, Row 37 [.float .f64 sx, .float .f64 sy, .float .f64 st]) (List.mem_append_left _ hb5L)))) ?_
                refine HB_val rfl (fun w R hR hs => R_load Try.one22 rfl (by (rw [add_add, add_add]; exact hcell hs (hoL.app hR) (q := 2) rfl))) ?_
                refine HB_val rfl (fun w R hR hs => R_load Try.one22 rfl (by (rw [add_add, add_add]; exact hcell hs (hoL.app hR) (q := 7) rfl))) ?_
                refine HB_val rfl (fun w R hR hs => R_build rfl (Pl.built Try.pl35 rfl)) ?_
                refine HB_callH rfl Try.fun28 rfl (fun w R hR hs => movedA hs sx sy st t.xx t.yx ht) ?_
                rintro _ ⟨x1, y1, rfl, hx1, hy1⟩
                refine HB_alloc rfl Try.ti35 ?_
                intro b17 hb17
                refine HB_tail ?_
                intro w hs
                replace hs := HS.push hs
                refine L_storeA hs (i := 0) rfl Try.ti35 rfl rfl (by first | rfl | exact add_lit0 _ _ | exact Addr.add_lit .. | (rw [add_add]; exact add_lit0 _ _)) (by simp) (by first | (simp; done) | simp [Value.oneCell']) ?_
                intro w hs
                try dsimp only [List.set_cons_succ, List.set_cons_zero, List.cons_append, List.nil_append] at hs
                refine RL_sg ?_
                refine SG_end (by kernel_rfl) ?_
                refine Nx_then ?_
                refine W_seq ?_
                replace hs : HS w0 w ((b17, Row 35 [.float .f64 x1, .float .f64 y1]) :: L) := hs
                refine W_sg Try.mixed ?_
                replace hs := hs.drewN 1
                refine SG_stageB [0, 3, 4, 5, 6, 7, 9, 10, 11, 12, 13] [1, 2, 8, 14, 15, 16, 17] [18] (noBk SPA) (g' := 0) (by kernel_rfl) (by kernel_rfl) (fun _ _ _ _ _ h => h) hs ?_
                refine PL_val rfl (fun w => R_fieldAddr (off := 2) Try.underlying37 rfl rfl Try.ti22 rfl) ?_
                refine PL_val rfl (fun w => R_move rfl) ?_
                refine PL_val rfl (fun w => R_move rfl) ?_
                refine PL_val rfl (fun w => R_idxN Try.underlying38 Try.ti48 rfl rfl (by with_reducible first | exact natc_k _ | exact natc_a1 _ | exact natc_0 | exact natc_1 | exact natc_2 | exact natc_s1 _ (by omega) | exact natc_a2 _ | exact natc_add _ _ | exact natc_mul _ _ | exact natc (by omega)) (by omega) (h2.ao (by rw [tcs_len]; omega))) ?_
                refine PL_val rfl (fun w => R_fieldAddr (off := 2) Try.underlying48 rfl rfl Try.ti45 rfl) ?_
                refine PL_val rfl (fun w => R_fieldAddr (off := 1) Try.underlying45 rfl rfl Try.ti22 rfl) ?_
                refine PL_val rfl (fun w => R_move rfl) ?_
                refine PL_val rfl (fun w => R_move rfl) ?_
                refine PL_val rfl (fun w => R_idxN Try.underlying38 Try.ti48 rfl rfl (by with_reducible first | exact natc_k _ | exact natc_a1 _ | exact natc_0 | exact natc_1 | exact natc_2 | exact natc_s1 _ (by omega) | exact natc_a2 _ | exact natc_add _ _ | exact natc_mul _ _ | exact natc (by omega)) (by omega) (h2.ao (by rw [tcs_len]; omega))) ?_
                refine PL_val rfl (fun w => R_fieldAddr (off := 7) Try.underlying48 rfl rfl Try.ti45 rfl) ?_
                refine PL_val rfl (fun w => R_fieldAddr (off := 1) Try.underlying45 rfl rfl Try.ti22 rfl) ?_
                refine PL_endB ?_
                refine HB_val rfl (fun w R hR hs => R_load Try.one22 rfl (by exact Lk.cell_of_row (hs.has (b5, Row 37 [.float .f64 sx, .float .f64 sy, .float .f64 st]) (List.mem_append_left _ (List.mem_cons_of_mem _ hb5L))) rfl)) ?_
                refine HB_val rfl (fun w R hR hs => R_build rfl (Pl.built Try.pl37 rfl)) ?_
                refine HB_val rfl (fun w R hR hs => R_load Try.one22 rfl (by (rw [add_add, add_add]; exact hcell hs ((Own.cons hb17 hoL).app hR) (q := 3) rfl))) ?_
                refine HB_val rfl (fun w R hR hs => R_load Try.one22 rfl (by (rw [add_add, add_add]; exact hcell hs ((Own.cons hb17 hoL).app hR) (q := 8) rfl))) ?_
                refine HB_val rfl (fun w R hR hs => R_build rfl (Pl.built Try.pl35 rfl)) ?_
                refine HB_callH rfl Try.fun28 rfl (fun w R hR hs => movedA hs 0 0 st t.xv t.yv ht) ?_
                rintro _ ⟨x2, y2, rfl, hx2, hy2⟩
                refine HB_alloc rfl Try.ti35 ?_
                intro b18 hb18
                refine HB_tail ?_
                intro w hs
                replace hs := HS.push (L := (b17, Row 35 [.float .f64 x1, .float .f64 y1]) :: L) hs
                refine L_storeA hs (i := 0) rfl Try.ti35 rfl rfl (by first | rfl | exact add_lit0 _ _ | exact Addr.add_lit .. | (rw [add_add]; exact add_lit0 _ _)) (by simp) (by first | (simp; done) | simp [Value.oneCell']) ?_
                intro w hs
                try dsimp only [List.set_cons_succ, List.set_cons_zero, List.cons_append, List.nil_append] at hs
                refine RL_sg ?_
                refine SG_end (by kernel_rfl) ?_
                refine Nx_then ?_
                refine W_seq ?_
                refine W_seq ?_
                replace hs : HS w0 w ((b18, Row 35 [.float .f64 x2, .float .f64 y2]) :: (b17, Row 35 [.float .f64 x1, .float .f64 y1]) :: L) := hs
                refine W_sg Try.mixed ?_
                replace hs := hs.drewN 1
                refine SG_stageB [0, 1, 2, 3, 4, 5, 6, 7, 8] [9, 10, 11, 12, 13, 14, 15, 16, 17, 18, 19, 20, 21, 22, 23, 24, 25, 26, 27, 28, 29, 30, 31, 32, 33, 34, 35, 36, 37, 38, 39, 40, 41, 42, 43, 44, 45, 46, 47, 48, 49, 50, 51, 52, 53, 54, 55, 56, 57, 58, 59, 60] [] (noBk SPA) (g' := 0) (by kernel_rfl) (by kernel_rfl) (fun _ _ _ _ _ h => h) hs ?_
                refine PL_val rfl (fun w => R_move rfl) ?_
                refine PL_val rfl (fun w => R_move rfl) ?_
                refine PL_val rfl (fun w => R_len Try.underlying55 rfl) ?_
                first | refine PL_val rfl (fun w => R_geq rfl rfl (dtrue (by omega))) ?_ | refine PL_val rfl (fun w => R_geq rfl rfl (dfalse (by omega))) ?_ | refine PL_val rfl (fun w => R_geq rfl rfl rfl) ?_
                refine PL_val rfl (fun w => R_move rfl) ?_
                first | refine PL_want rfl rfl rfl (fun w => R_move rfl) ?_ | refine PL_skip rfl rfl rfl rfl ?_ | refine PL_skipU rfl rfl rfl ?_
                first | refine PL_want rfl rfl rfl (fun w => R_move rfl) ?_ | refine PL_skip rfl rfl rfl rfl ?_ | refine PL_skipU rfl rfl rfl ?_
                first | refine PL_want rfl rfl rfl (fun w => R_idxN Try.underlying55 Try.ti64 rfl rfl (by with_reducible first | exact natc_k _ | exact natc_a1 _ | exact natc_0 | exact natc_1 | exact natc_2 | exact natc_s1 _ (by omega) | exact natc_a2 _ | exact natc_add _ _ | exact natc_mul _ _ | exact natc (by omega)) (by omega) haof) ?_ | refine PL_skip rfl rfl rfl rfl ?_ | refine PL_skipU rfl rfl rfl ?_
                first | refine PL_want rfl rfl rfl (fun w => R_fieldAddr (off := 4) Try.underlying64 rfl rfl Try.ti60 rfl) ?_ | refine PL_skip rfl rfl rfl rfl ?_ | refine PL_skipU rfl rfl rfl ?_
                refine PL_endB ?_
                first | (refine HB_want rfl rfl ?_; refine HB_val rfl (fun w R hR hs => R_load Try.one60 rfl (by (rw [add_add]; exact hfcell hs (fun p hp => List.mem_append_left _ (List.mem_cons_of_mem _ (List.mem_cons_of_mem _ hp))) (q := 4) hc4))) ?_) | refine HB_skip rfl rfl rfl rfl ?_
                first | (refine HB_want rfl rfl ?_; refine HB_val rfl (fun w R hR hs => R_len Try.underlying60 rfl) ?_) | refine HB_skip rfl rfl rfl rfl ?_
                first | (refine HB_want rfl rfl ?_; (first | refine HB_val rfl (fun w R hR hs => R_neq rfl rfl (dtrue (by omega))) ?_ | refine HB_val rfl (fun w R hR hs => R_neq rfl rfl (dfalse (by omega))) ?_ | refine HB_val rfl (fun w R hR hs => R_neq rfl rfl rfl) ?_)) | refine HB_skip rfl rfl rfl rfl ?_
                first | refine HB_val rfl (fun w R hR hs => R_pick_t rfl rfl) ?_ | refine HB_val rfl (fun w R hR hs => R_pick_f rfl rfl) ?_
                refine HB_val rfl (fun w R hR hs => R_move rfl) ?_
                first | (refine HB_want rfl rfl ?_; refine HB_val rfl (fun w R hR hs => R_move rfl) ?_) | refine HB_skip rfl rfl rfl rfl ?_
                first | (refine HB_want rfl rfl ?_; refine HB_val rfl (fun w R hR hs => R_move rfl) ?_) | refine HB_skip rfl rfl rfl rfl ?_
                first | (refine HB_want rfl rfl ?_; refine HB_val rfl (fun w R hR hs => R_idxN Try.underlying55 Try.ti64 rfl rfl (by with_reducible first | exact natc_k _ | exact natc_a1 _ | exact natc_0 | exact natc_1 | exact natc_2 | exact natc_s1 _ (by omega) | exact natc_a2 _ | exact natc_add _ _ | exact natc_mul _ _ | exact natc (by omega)) (by omega) haof) ?_) | refine HB_skip rfl rfl rfl rfl ?_
                first | (refine HB_want rfl rfl ?_; refine HB_val rfl (fun w R hR hs => R_fieldAddr (off := 0) Try.underlying64 rfl rfl Try.ti35 rfl) ?_) | refine HB_skip rfl rfl rfl rfl ?_
                first | (refine HB_want rfl rfl ?_; refine HB_val rfl (fun w R hR hs => R_fieldAddr (off := 0) Try.underlying35 rfl rfl Try.ti22 rfl) ?_) | refine HB_skip rfl rfl rfl rfl ?_
                first | (refine HB_want rfl rfl ?_; refine HB_val rfl (fun w R hR hs => R_load Try.one22 rfl (by (rw [add_add, add_add]; exact hfcell hs (fun p hp => List.mem_append_left _ (List.mem_cons_of_mem _ (List.mem_cons_of_mem _ hp))) (q := 0) rfl))) ?_) | refine HB_skip rfl rfl rfl rfl ?_
                first | (refine HB_want rfl rfl ?_; refine HB_val rfl (fun w R hR hs => R_fieldAddr (off := 0) Try.underlying35 rfl rfl Try.ti22 rfl) ?_) | refine HB_skip rfl rfl rfl rfl ?_
                first | (refine HB_want rfl rfl ?_; refine HB_val rfl (fun w R hR hs => R_load Try.one22 rfl (by first | exact hs.cell (i := 0) rfl rfl | exact hs.cell (i := 1) rfl rfl)) ?_) | refine HB_skip rfl rfl rfl rfl ?_
                refine HB_want rfl rfl ?_
                refine HB_callH rfl Try.fun29 rfl (fun w R hR hs => floatA hs f.ax x1 (hax.trans hx1.symm)) ?_
                rintro _ rfl
                first | (refine HB_want rfl rfl ?_; refine HB_val rfl (fun w R hR hs => R_not rfl) ?_) | refine HB_skip rfl rfl rfl rfl ?_
                first | refine HB_val rfl (fun w R hR hs => R_pick_t rfl rfl) ?_ | refine HB_val rfl (fun w R hR hs => R_pick_f rfl rfl) ?_
                refine HB_val rfl (fun w R hR hs => R_move rfl) ?_
                first | (refine HB_want rfl rfl ?_; refine HB_val rfl (fun w R hR hs => R_move rfl) ?_) | refine HB_skip rfl rfl rfl rfl ?_
                first | (refine HB_want rfl rfl ?_; refine HB_val rfl (fun w R hR hs => R_move rfl) ?_) | refine HB_skip rfl rfl rfl rfl ?_
                first | (refine HB_want rfl rfl ?_; refine HB_val rfl (fun w R hR hs => R_idxN Try.underlying55 Try.ti64 rfl rfl (by with_reducible first | exact natc_k _ | exact natc_a1 _ | exact natc_0 | exact natc_1 | exact natc_2 | exact natc_s1 _ (by omega) | exact natc_a2 _ | exact natc_add _ _ | exact natc_mul _ _ | exact natc (by omega)) (by omega) haof) ?_) | refine HB_skip rfl rfl rfl rfl ?_
                first | (refine HB_want rfl rfl ?_; refine HB_val rfl (fun w R hR hs => R_fieldAddr (off := 0) Try.underlying64 rfl rfl Try.ti35 rfl) ?_) | refine HB_skip rfl rfl rfl rfl ?_
                first | (refine HB_want rfl rfl ?_; refine HB_val rfl (fun w R hR hs => R_fieldAddr (off := 1) Try.underlying35 rfl rfl Try.ti22 rfl) ?_) | refine HB_skip rfl rfl rfl rfl ?_
                first | (refine HB_want rfl rfl ?_; refine HB_val rfl (fun w R hR hs => R_load Try.one22 rfl (by (rw [add_add, add_add]; exact hfcell hs (fun p hp => List.mem_append_left _ (List.mem_cons_of_mem _ (List.mem_cons_of_mem _ hp))) (q := 1) rfl))) ?_) | refine HB_skip rfl rfl rfl rfl ?_
                first | (refine HB_want rfl rfl ?_; refine HB_val rfl (fun w R hR hs => R_fieldAddr (off := 1) Try.underlying35 rfl rfl Try.ti22 rfl) ?_) | refine HB_skip rfl rfl rfl rfl ?_
                first | (refine HB_want rfl rfl ?_; refine HB_val rfl (fun w R hR hs => R_load Try.one22 rfl (by first | exact hs.cell (i := 0) rfl rfl | exact hs.cell (i := 1) rfl rfl)) ?_) | refine HB_skip rfl rfl rfl rfl ?_
                refine HB_want rfl rfl ?_
                refine HB_callH rfl Try.fun29 rfl (fun w R hR hs => floatA hs f.ay y1 (hay.trans hy1.symm)) ?_
                rintro _ rfl
                first | (refine HB_want rfl rfl ?_; refine HB_val rfl (fun w R hR hs => R_not rfl) ?_) | refine HB_skip rfl rfl rfl rfl ?_
                first | refine HB_val rfl (fun w R hR hs => R_pick_t rfl rfl) ?_ | refine HB_val rfl (fun w R hR hs => R_pick_f rfl rfl) ?_
                refine HB_val rfl (fun w R hR hs => R_move rfl) ?_
                first | (refine HB_want rfl rfl ?_; refine HB_val rfl (fun w R hR hs => R_move rfl) ?_) | refine HB_skip rfl rfl rfl rfl ?_
                first | (refine HB_want rfl rfl ?_; refine HB_val rfl (fun w R hR hs => R_move rfl) ?_) | refine HB_skip rfl rfl rfl rfl ?_
                first | (refine HB_want rfl rfl ?_; refine HB_val rfl (fun w R hR hs => R_idxN Try.underlying55 Try.ti64 rfl rfl (by with_reducible first | exact natc_k _ | exact natc_a1 _ | exact natc_0 | exact natc_1 | exact natc_2 | exact natc_s1 _ (by omega) | exact natc_a2 _ | exact natc_add _ _ | exact natc_mul _ _ | exact natc (by omega)) (by omega) haof) ?_) | refine HB_skip rfl rfl rfl rfl ?_
                first | (refine HB_want rfl rfl ?_; refine HB_val rfl (fun w R hR hs => R_fieldAddr (off := 2) Try.underlying64 rfl rfl Try.ti35 rfl) ?_) | refine HB_skip rfl rfl rfl rfl ?_
                first | (refine HB_want rfl rfl ?_; refine HB_val rfl (fun w R hR hs => R_fieldAddr (off := 0) Try.underlying35 rfl rfl Try.ti22 rfl) ?_) | refine HB_skip rfl rfl rfl rfl ?_
                first | (refine HB_want rfl rfl ?_; refine HB_val rfl (fun w R hR hs => R_load Try.one22 rfl (by (rw [add_add, add_add]; exact hfcell hs (fun p hp => List.mem_append_left _ (List.mem_cons_of_mem _ (List.mem_cons_of_mem _ hp))) (q := 2) rfl))) ?_) | refine HB_skip rfl rfl rfl rfl ?_
                first | (refine HB_want rfl rfl ?_; refine HB_val rfl (fun w R hR hs => R_fieldAddr (off := 0) Try.underlying35 rfl rfl Try.ti22 rfl) ?_) | refine HB_skip rfl rfl rfl rfl ?_
                first | (refine HB_want rfl rfl ?_; refine HB_val rfl (fun w R hR hs => R_load Try.one22 rfl (by first | exact hs.cell (i := 0) rfl rfl | exact hs.cell (i := 1) rfl rfl)) ?_) | refine HB_skip rfl rfl rfl rfl ?_
                refine HB_want rfl rfl ?_
                refine HB_callH rfl Try.fun29 rfl (fun w R hR hs => floatA hs f.vx x2 (hvx.trans hx2.symm)) ?_
                rintro _ rfl
                first | (refine HB_want rfl rfl ?_; refine HB_val rfl (fun w R hR hs => R_not rfl) ?_) | refine HB_skip rfl rfl rfl rfl ?_
                first | refine HB_val rfl (fun w R hR hs => R_pick_t rfl rfl) ?_ | refine HB_val rfl (fun w R hR hs => R_pick_f rfl rfl) ?_
                refine HB_val rfl (fun w R hR hs => R_move rfl) ?_
                first | (refine HB_want rfl rfl ?_; refine HB_val rfl (fun w R hR hs => R_move rfl) ?_) | refine HB_skip rfl rfl rfl rfl ?_
                first | (refine HB_want rfl rfl ?_; refine HB_val rfl (fun w R hR hs => R_move rfl) ?_) | refine HB_skip rfl rfl rfl rfl ?_
                first | (refine HB_want rfl rfl ?_; refine HB_val rfl (fun w R hR hs => R_idxN Try.underlying55 Try.ti64 rfl rfl (by with_reducible first | exact natc_k _ | exact natc_a1 _ | exact natc_0 | exact natc_1 | exact natc_2 | exact natc_s1 _ (by omega) | exact natc_a2 _ | exact natc_add _ _ | exact natc_mul _ _ | exact natc (by omega)) (by omega) haof) ?_) | refine HB_skip rfl rfl rfl rfl ?_
                first | (refine HB_want rfl rfl ?_; refine HB_val rfl (fun w R hR hs => R_fieldAddr (off := 2) Try.underlying64 rfl rfl Try.ti35 rfl) ?_) | refine HB_skip rfl rfl rfl rfl ?_
                first | (refine HB_want rfl rfl ?_; refine HB_val rfl (fun w R hR hs => R_fieldAddr (off := 1) Try.underlying35 rfl rfl Try.ti22 rfl) ?_) | refine HB_skip rfl rfl rfl rfl ?_
                first | (refine HB_want rfl rfl ?_; refine HB_val rfl (fun w R hR hs => R_load Try.one22 rfl (by (rw [add_add, add_add]; exact hfcell hs (fun p hp => List.mem_append_left _ (List.mem_cons_of_mem _ (List.mem_cons_of_mem _ hp))) (q := 3) rfl))) ?_) | refine HB_skip rfl rfl rfl rfl ?_
                first | (refine HB_want rfl rfl ?_; refine HB_val rfl (fun w R hR hs => R_fieldAddr (off := 1) Try.underlying35 rfl rfl Try.ti22 rfl) ?_) | refine HB_skip rfl rfl rfl rfl ?_
                first | (refine HB_want rfl rfl ?_; refine HB_val rfl (fun w R hR hs => R_load Try.one22 rfl (by first | exact hs.cell (i := 0) rfl rfl | exact hs.cell (i := 1) rfl rfl)) ?_) | refine HB_skip rfl rfl rfl rfl ?_
                refine HB_want rfl rfl ?_
                refine HB_callH rfl Try.fun29 rfl (fun w R hR hs => floatA hs f.vy y2 (hvy.trans hy2.symm)) ?_
                rintro _ rfl
                first | (refine HB_want rfl rfl ?_; refine HB_val rfl (fun w R hR hs => R_not rfl) ?_) | refine HB_skip rfl rfl rfl rfl ?_
                first | refine HB_val rfl (fun w R hR hs => R_pick_t rfl rfl) ?_ | refine HB_val rfl (fun w R hR hs => R_pick_f rfl rfl) ?_
                refine HB_tail ?_
                intro w hs
                refine RL_sg ?_
                refine SG_end (by kernel_rfl) ?_
                refine Nx_then ?_
                refine W_if_false rfl ?_
                refine W_skip' ?_
                refine Nx_then ?_
                refine W_region ?_
                refine L_move rfl rfl ?_
                first | refine L_add rfl rfl rfl (wrp_i64 (by omega)) ?_ | refine L_add rfl rfl rfl rfl ?_
                refine L_assign rfl rfl ?_
                refine RL_nil' ?_
                refine Nx_block ?_
                refine Nx_then ?_
                refine W_region ?_
                refine L_move rfl rfl ?_
                first | refine L_add rfl rfl rfl (wrp_i64 (by omega)) ?_ | refine L_add rfl rfl rfl rfl ?_
                refine L_assign rfl rfl ?_
                refine RL_nil' ?_
                refine Nx_loopP (i + 1, k + 1, _) (is := [3, 5, 14, 15, 16]) (I' := (fun (i : Nat) (k : Nat) (w : World) => (i ≤ n2) ∧ (k = (firm (t2.take i)).length) ∧ (HS w0 w L)) (i + 1) (k + 1) (_)) rfl rfl rfl ?_ ?_
                · rw [List.append_nil] at hs
                  exact ⟨by omega, hf1.symm, HS.pop (HS.pop hs hb18) hb17⟩
                · omega
              · have hf1 : (firm (t2.take (i + 1))).length = k := by rw [htk, firm_snoc_f hkd, ← hk]
                refine W_seq ?_
                refine W_seq ?_
                refine W_region ?_
                refine L_move rfl rfl ?_
                refine L_move rfl rfl ?_
                refine L_len rfl Try.underlying38 rfl ?_
                first | refine L_lss rfl rfl rfl (dtrue (by omega)) ?_ | refine L_lss rfl rfl rfl (dfalse (by omega)) ?_ | refine L_lss rfl rfl rfl rfl ?_
                refine RL_then ?_
                refine W_if_true rfl ?_
                refine W_skip' ?_
                refine Nx_then ?_
                refine W_seq ?_
                refine W_block ?_
                refine W_seq ?_
                refine W_seq ?_
                refine W_region ?_
                refine L_move rfl rfl ?_
                refine L_move rfl rfl ?_
                refine L_idxN rfl Try.underlying38 Try.ti48 rfl rfl (by with_reducible first | exact natc_k _ | exact natc_a1 _ | exact natc_0 | exact natc_1 | exact natc_2 | exact natc_s1 _ (by omega) | exact natc_a2 _ | exact natc_add _ _ | exact natc_mul _ _ | exact natc (by omega)) (by omega) (h2.ao (by rw [tcs_len]; omega)) ?_
                refine L_fieldAddr rfl (off := 1) Try.underlying48 rfl rfl Try.ti43 rfl ?_
                refine L_load rfl Try.one43 rfl (by (rw [add_add]; exact hcell hs hoL (q := 1) rfl)) ?_
                first | refine L_neq rfl rfl rfl (dtrue (by omega)) ?_ | refine L_neq rfl rfl rfl (dfalse (by omega)) ?_ | refine L_neq rfl rfl rfl rfl ?_
                refine RL_then ?_
                refine W_if_true rfl ?_
                refine W_exit' ?_
                refine Ex_then_exit ?_
                refine Ex_block_hit ?_
                refine Nx_then ?_
                refine W_region ?_
                refine L_move rfl rfl ?_
                first | refine L_add rfl rfl rfl (wrp_i64 (by omega)) ?_ | refine L_add rfl rfl rfl rfl ?_
                refine L_assign rfl rfl ?_
                refine RL_nil' ?_
                refine Nx_loopP (i + 1, k, _) (is := [3, 5, 14, 15, 16]) (I' := (fun (i : Nat) (k : Nat) (w : World) => (i ≤ n2) ∧ (k = (firm (t2.take i)).length) ∧ (HS w0 w L)) (i + 1) (k) (_)) rfl rfl rfl ?_ ?_
                · exact ⟨by omega, hf1.symm, hs⟩
                · omega
            · obtain rfl : i = n2 := by omega
              rw [List.take_of_length_le (by omega)] at hk
              refine W_seq ?_
              refine W_seq ?_
              refine W_region ?_
              refine L_move rfl rfl ?_
              refine L_move rfl rfl ?_
              refine L_len rfl Try.underlying38 rfl ?_
              first | refine L_lss rfl rfl rfl (dtrue (by omega)) ?_ | refine L_lss rfl rfl rfl (dfalse (by omega)) ?_ | refine L_lss rfl rfl rfl rfl ?_
              refine RL_then ?_
              refine W_if_false rfl ?_
              refine W_exit' ?_
              refine Ex_then_exit ?_
              refine Ex_loop_exit ?_
              refine Ex_block_hit ?_
              refine Nx_then ?_
              refine W_seq ?_
              refine W_region ?_
              refine L_move rfl rfl ?_
              refine L_move rfl rfl ?_
              refine L_len rfl Try.underlying55 rfl ?_
              first | refine L_eql rfl rfl rfl (dtrue (by omega)) ?_ | refine L_eql rfl rfl rfl (dfalse (by omega)) ?_ | refine L_eql rfl rfl rfl rfl ?_
              refine L_move rfl rfl ?_
              refine RL_want rfl rfl ?_
              refine L_call rfl Try.fun11 rfl (wakesL hs) ?_
              rintro _ w7 ⟨rfl, hs5⟩
              have he : decide ((k : Int) = (fs2.length : Int)) = true := decide_eq_true (by omega)
              first | refine L_pick_t rfl rfl rfl ?_ | refine L_pick_f rfl rfl rfl ?_
              refine L_assign rfl rfl ?_
              refine RL_then ?_
              refine W_ret' ?_
              refine Ex_done1 rfl rfl ?_
              exact ⟨_, rfl, by rw [← he], hs5.forget hoL⟩
      · clear hs; have hs := hs2; clear hs2
        refine L_move rfl rfl ?_
        refine L_extract rfl rfl rfl ?_
        refine L_extract rfl rfl rfl ?_
        refine L_assign rfl rfl ?_
        refine L_assign rfl rfl ?_
        refine RL_then ?_
        refine W_seq ?_
        refine W_region ?_
        refine L_move rfl rfl ?_
        first | refine L_neq rfl rfl rfl (dtrue (by omega)) ?_ | refine L_neq rfl rfl rfl (dfalse (by omega)) ?_ | refine L_neq rfl rfl rfl rfl ?_
        refine RL_then ?_
        refine W_if_true rfl ?_
        refine W_seq ?_
        refine W_region ?_
        refine L_move rfl rfl ?_
        refine L_call rfl Try.fun22 rfl (fusedG w0 w2 B far (.slice none 0 0) [] R [] hs hN hf) ?_
        rintro v9 w4 ⟨S, fs, Mo, hF, hfm, hbo, hfb, hs2, hfl, _⟩
        cases hF
        have hfl0 : fs.length = 0 := by have := congrArg List.length hfm; simpa using this
        obtain ⟨ao9, co9, rfl, hco9⟩ := hbo.slice
        refine L_len rfl Try.underlying55 rfl ?_
        first | refine L_eql rfl rfl rfl (dtrue (by omega)) ?_ | refine L_eql rfl rfl rfl (dfalse (by omega)) ?_ | refine L_eql rfl rfl rfl rfl ?_
        refine L_move rfl rfl ?_
        refine RL_want rfl rfl ?_
        refine L_call rfl Try.fun11 rfl (wakesL hs2) ?_
        rintro _ w7 ⟨rfl, hs5⟩
        first | refine L_pick_t rfl rfl rfl ?_ | refine L_pick_f rfl rfl rfl ?_
        refine L_assign rfl rfl ?_
        refine RL_then ?_
        refine W_ret' ?_
        refine Ex_then_ret ?_
        refine Ex_done1 rfl rfl ?_
        refine ⟨_, rfl, rfl, hs5.forget ((hN.owns.app hoR).app (hbo.own.app fun p hp => ?_))⟩
        obtain ⟨t, ht, hp⟩ := List.mem_flatMap.1 hp
        exact (hfb t ht).own p hp
    · replace hs := hs.nil hs'
      clear hs'
      refine L_move rfl rfl ?_
      refine L_extract rfl rfl rfl ?_
      refine L_extract rfl rfl rfl ?_
      refine L_assign rfl rfl ?_
      refine L_assign rfl rfl ?_
      refine RL_then ?_
      refine W_seq ?_
      refine W_seq ?_
      refine W_region ?_
      refine L_move rfl rfl ?_
      first | refine L_neq rfl rfl rfl (dtrue (by omega)) ?_ | refine L_neq rfl rfl rfl (dfalse (by omega)) ?_ | refine L_neq rfl rfl rfl rfl ?_
      refine L_move rfl rfl ?_
      first | (refine RL_want rfl rfl ?_; refine L_move rfl rfl ?_) | refine RL_skip rfl rfl rfl rfl ?_ | refine RL_skipU rfl rfl rfl ?_
      first | (refine RL_want rfl rfl ?_; refine L_ptrNil rfl Try.underlying26 rfl rfl ?_) | refine RL_skip rfl rfl rfl rfl ?_ | refine RL_skipU rfl rfl rfl ?_
      first | refine L_pick_t rfl rfl rfl ?_ | refine L_pick_f rfl rfl rfl ?_
      refine RL_then ?_
      refine W_if_true rfl ?_
      refine W_seq ?_
      refine W_region ?_
      refine L_call rfl Try.fun11 rfl (wakesL hs) ?_
      rintro _ w7 ⟨rfl, hs5⟩
      refine L_assign rfl rfl ?_
      refine RL_then ?_
      refine W_ret' ?_
      refine Ex_then_ret ?_
      refine Ex_done1 rfl rfl ?_
      exact ⟨_, rfl, rfl, hs5.forget hoR⟩
end Go.Proofs.Ytknpoemkmcdgcaa
