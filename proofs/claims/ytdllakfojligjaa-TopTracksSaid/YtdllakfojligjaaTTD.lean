/-
  A part of the proof: what functions that the statement reaches do, or a plain law on what they do. Each theorem holds under its own premises alone.
-/
import Derived.Test.YtdllakfojligjaaTTC2
import Derived.Test.YtdllakfojligjaaTTC3
import Derived.Test.YtdllakfojligjaaTTC5
import Derived.Test.YtdllakfojligjaaTKM
namespace Go.Proofs.Ytdllakfojligjaa
open Go Go.Lk Go.Pr
/-! ### TopTracks: the walk -/
def swcs (l : List Sw) : List Value := l.flatMap Sw.cells
theorem swcs_len : ∀ l : List Sw, (swcs l).length = l.length * 3
 | [] => rfl
 | m :: l => by
  show (m.cells ++ swcs l).length = _
  rw [List.length_append, swcs_len l, List.length_cons, show m.cells.length = 3 from rfl]; omega
theorem swcs_get : ∀ {ts : List Sw} {i q : Nat} {v : Value}, i < ts.length → (ts.getD i sw0).cells[q]? = some v → (swcs ts)[i * 3 + q]? = some v
 | [], _, _, _, hi, _ => by simp at hi
 | t :: ts, 0, q, v, _, h => by
  have hq := (List.getElem?_eq_some_iff.1 h).1
  show (t.cells ++ swcs ts)[0 * 3 + q]? = _
  rw [show 0 * 3 + q = q by omega, List.getElem?_append_left (by simpa using hq)]
  simpa using h
 | t :: ts, i + 1, q, v, hi, h => by
  show (t.cells ++ swcs ts)[(i + 1) * 3 + q]? = _
  have hl : t.cells.length = 3 := rfl
  rw [List.getElem?_append_right (by omega), show (i + 1) * 3 + q - t.cells.length = i * 3 + q by omega]
  exact swcs_get (by simpa using hi) h
theorem topP_all {c : Nat} (hc : c = 1074) {p : Plt} (h : TopP p) : AM c (ptX p) (2 ^ 165) ∧ AM c (ptY p) (2 ^ 165) ∧ finP p = true ∧ PltLt p := by
 obtain ⟨a, b, h1, h2, h3, h4⟩ := h
 obtain ⟨g1, g2, g3⟩ := top_pt hc h1 h2 h3 h4
 obtain ⟨v, v1, _⟩ := (quo_int hc (k := 0) (by omega) (by omega) (by decide) (by decide) (fv_4096 c hc) (by omega) : NM c (fop .quo (FloatKind.f64.nearest (b : Int)) 4661225614328463360) (2 ^ 0)).congr h4
 exact ⟨g1, g2, g3, ⟨by rw [h3]; exact fv_lt64 (fv_int hc (by omega)), fv_lt64 v1⟩⟩
theorem andOne (n : Nat) (h : n < 65536) : bits .and .u16 (n : Int) 1 = ((n % 2 : Nat) : Int) := by
 have := u16_and_nat n 1 h (by decide)
 rw [show n &&& 1 = n % 2 from Nat.and_two_pow_sub_one_eq_mod n 1] at this
 exact this
theorem Tst.may {c i : Nat} {s : Stt} (h : Tst c i s) : MayOk s := by
 obtain ⟨x, x1, _⟩ := h.x
 obtain ⟨v, v1, _⟩ := h.v
 obtain ⟨p, p1, p2, _⟩ := h.p
 obtain ⟨q, q1, _⟩ := h.q
 obtain ⟨r, r1, r2, _⟩ := h.r
 refine ⟨fun j hj => ?_, ⟨p, p1, p2⟩, ⟨r, r1, r2⟩⟩
 match j, hj with
 | 0, _ => exact ⟨_, _, rfl, x1⟩
 | 1, _ => exact ⟨_, _, rfl, v1⟩
 | 2, _ => exact ⟨_, _, rfl, p1⟩
 | 3, _ => exact ⟨_, _, rfl, q1⟩
 | 4, _ => exact ⟨_, _, rfl, r1⟩
def SPT (f : FuncId) (args : Array Value) (v : Value) : Prop := match f, args.toList with
 | 17, [_, _] => v = .bool true
 | _, _ => False
theorem sameSH {w0 w : World} {L : Bks} (hs : HS w0 w L) (s : Stt) : Ret Try.prog 17 [.agg s.cells.toArray, .agg s.cells.toArray] w fun v w' => SPT 17 [.agg s.cells.toArray, .agg s.cells.toArray].toArray v ∧ HS w0 w' L :=
 Calls.mono (sameS_ok s w) fun e w' => by
  rintro ⟨v, rfl, rfl, hs'⟩
  exact ⟨_, rfl, rfl, hs.nil hs'⟩
theorem last_at {xs : List Stt} {s : Stt} (h : xs.getLast? = some s) : xs.getD (xs.length - 1) stt0 = s := by
 rw [List.getLast?_eq_getElem?] at h
 rw [List.getD_eq_getElem?_getD, h]; rfl
theorem scs_get : ∀ {ts : List Stt} {i q : Nat} {v : Value}, i < ts.length → (ts.getD i stt0).cells[q]? = some v → (scs ts)[i * 5 + q]? = some v
 | t :: ts, 0, q, v, _, h => by
  show (t.cells ++ scs ts)[0 * 5 + q]? = some v
  rw [Nat.zero_mul, Nat.zero_add]
  have hq : q < t.cells.length := (List.getElem?_eq_some_iff.1 h).1
  rw [List.getElem?_append_left hq]; exact h
 | t :: ts, i + 1, q, v, hi, h => by
  show (t.cells ++ scs ts)[(i + 1) * 5 + q]? = some v
  have hl : t.cells.length = 5 := rfl
  rw [List.getElem?_append_right (by omega), show (i + 1) * 5 + q - t.cells.length = i * 5 + q by omega]
  exact scs_get (by simpa using hi) h
theorem stt_last {w : World} {a : Option Addr} {ts : List Stt} {s : Stt} (h : SlC w a (scs ts)) (hl : ts.getLast? = some s) (h0 : 0 < ts.length) : CellsAt w ((aD a).add ((ts.length - 1) * 5)) s.cells := by
 have := h.sub (off := (ts.length - 1) * 5) (xs := (ts.getD (ts.length - 1) stt0).cells) fun _ _ hv => scs_get (by omega) hv
 rwa [last_at hl] at this
def p10 : Plt := ⟨4621819117588971520, 0, 0, 0, 0⟩
theorem Bok.ok.more {w0 : World} {n m : Nat} {k : Bok} (h : k.ok w0 n) (hnm : n ≤ m) : k.ok w0 m :=
 ⟨h.B, h.mb, h.each, h.ents, h.low, h.next1, h.next2, fun o ho => by have := h.hist o ho; omega, h.rul, h.cnt⟩
theorem On.ok.mono {w0 w : World} {o : On} (h : o.ok w) (hle : w0.heap.size ≤ w.heap.size) : o.ok w0 := ⟨Nat.le_trans hle h.p, h.bx.mono hle, h.by'.mono hle, h.seen⟩
theorem Bok.ok.mono {w0 w : World} {n : Nat} {k : Bok} (h : k.ok w n) (hle : w0.heap.size ≤ w.heap.size) : k.ok w0 n :=
 ⟨Nat.le_trans hle h.B, Nat.le_trans hle h.mb, fun o ho => (h.each o ho).mono hle, h.ents, h.low, h.next1, h.next2, h.hist, h.rul, h.cnt⟩
set_option maxHeartbeats 8000000 in
theorem topTracks_law (no sw ga ne of mi : Int) (a : Option Addr) (n c : Nat) (l : List Sw) (w0 : World) (ha : SlC w0 a (swcs l)) (hn : l.length = n) (hn2 : n ≤ 1000000000000000) (hm : ∀ i, i < n → SwOk w0 (l.getD i sw0)) :
  Ret Try.prog 3 [.slice a n c, .int .i64 no, .int .i64 sw, .int .i64 ga, .int .i64 ne, .int .i64 of, .int .i64 mi] w0 fun v w' => v = .bool true ∧ HS w0 w' [] := by
 obtain ⟨C, hC⟩ : ∃ C, C = 1074 := ⟨_, rfl⟩
 refine Ret.start fun w hs => ?_
 refine calls_of_W Try.func3 rfl rfl rfl ?_
 refine W_seq ?_
 refine W_region ?_
 refine L_assign rfl rfl ?_
 refine RL_then ?_
 refine W_seq ?_
 refine W_region ?_
 refine L_move rfl rfl ?_
 refine L_move rfl rfl ?_
 refine L_move rfl rfl ?_
 refine L_move rfl rfl ?_
 refine L_move rfl rfl ?_
 refine L_move rfl rfl ?_
 refine L_call rfl Try.fun8 rfl (rule_ok no sw ga ne of mi w) ?_
 rintro _ w1 ⟨hs', q, rfl, hq⟩
 replace hs := hs.nil hs'
 clear hs'
 obtain ⟨_, _, _, _, n1, n2⟩ := size_rng (n := no) (m := 1000) (by decide)
 obtain ⟨_, _, _, _, s1, s2⟩ := size_rng (n := sw) (m := 1000) (by decide)
 obtain ⟨_, _, _, _, g1, g2⟩ := size_rng (n := ga) (m := 100) (by decide)
 obtain ⟨_, _, _, _, o1, o2⟩ := size_rng (n := of) (m := 16) (by decide)
 obtain ⟨_, _, _, _, e1, e2⟩ := size_rng (n := ne) (m := sizeF of 16) (by omega)
 obtain ⟨_, _, _, _, m1, m2⟩ := size_rng (n := mi) (m := 16) (by decide)
 obtain ⟨r, hr⟩ : ∃ r, r = topR no ga ne of mi q := ⟨_, rfl⟩
 rw [← hr]
 obtain ⟨hnew, ⟨rl1, rl2, rl3⟩, ⟨N, hN, hN0, hN1⟩, hsw⟩ := top_rule (c := C) (no := (sizeF no 1000).toNat) (sw := (sizeF sw 1000 - 1).toNat) (ga := (sizeF ga 100).toNat) (r := r) hC (by omega) (by omega) (by omega) (by omega) (by omega)
  (by rw [hr, show (((sizeF no 1000).toNat : Nat) : Int) = sizeF no 1000 by omega]; rfl)
  (by rw [hr, show (((sizeF sw 1000 - 1).toNat : Nat) : Int) = sizeF sw 1000 - 1 by omega]; exact hq)
  (by rw [hr, show (((sizeF ga 100).toNat : Nat) : Int) = sizeF ga 100 by omega]; rfl)
  (by rw [hr]; exact o1) (by rw [hr]; exact o2) (by rw [hr]; exact e1) (by rw [hr]; exact e2) (by rw [hr]; exact m1) (by rw [hr]; exact m2)
 refine L_alloc rfl hs Try.ti25 ?_; intro b15 w hb15 _ hs; replace hs := HS.push hs
 refine L_storeA hs (i := 0) rfl Try.ti25 rfl rfl (by first | rfl | exact add_lit0 _ _ | exact Addr.add_lit .. | (rw [add_add]; exact add_lit0 _ _)) (by simp [Rul.cells]) (by simp [Rul.cells, Value.oneCell']) ?_
 intro w hs
 try dsimp only [List.set_cons_succ, List.set_cons_zero, List.cons_append, List.nil_append] at hs
 refine RL_then ?_
 refine W_seq ?_
 refine W_region ?_
 refine L_loadA rfl Try.agg25 Try.ti25 rfl (by exact cellsAt_whole (cs := r.cells) (hs.get (i := 0) rfl)) ?_
 have hs1 : HS w0 w [(b15, Row 25 r.cells)] := hs
 clear hs
 have hs := hs1
 clear hs1
 have hRo : Own w0 [(b15, Row 25 r.cells)] := Own.cons hb15 Own.nil
 refine L_call rfl Try.fun9 rfl (new_ok r rl1 rl2 rl3 w) ?_
 rintro _ w1 (⟨hne, _⟩ | ⟨_, B, mb, rfl, hs', hk'⟩)
 ·
  exact absurd hnew hne
 ·
  have hk0 := hk'.mono hs.size
  obtain ⟨k0, hk0e⟩ : ∃ k0, k0 = bok0 r B mb := ⟨_, rfl⟩
  have hB : B = k0.B := by rw [hk0e]
  rw [← hk0e] at hk0 hs' hk'
  rw [hB]
  have hs1 := hs.call hs' hk'.own
  clear hs hs' hk'
  have hs := hs1
  clear hs1
  refine L_move rfl rfl ?_
  refine L_extract rfl rfl rfl ?_
  refine L_extract rfl rfl rfl ?_
  refine L_assign rfl rfl ?_
  refine L_assign rfl rfl ?_
  refine RL_then ?_
  refine W_seq ?_
  refine W_seq ?_
  refine W_region ?_
  refine L_move rfl rfl ?_
  first | refine L_neq rfl rfl rfl (dtrue (by omega)) ?_ | refine L_neq rfl rfl rfl (dfalse (by omega)) ?_ | refine L_neq rfl rfl rfl rfl ?_
  refine L_move rfl rfl ?_
  first | (refine RL_want rfl rfl ?_; refine L_move rfl rfl ?_) | refine RL_skip rfl rfl rfl rfl ?_ | refine RL_skipU rfl rfl rfl ?_
  first | (refine RL_want rfl rfl ?_; refine L_ptrNil rfl Try.underlying27 rfl rfl ?_) | refine RL_skip rfl rfl rfl rfl ?_ | refine RL_skipU rfl rfl rfl ?_
  first | refine L_pick_t rfl rfl rfl ?_ | refine L_pick_f rfl rfl rfl ?_
  refine RL_then ?_
  refine W_if_false rfl ?_
  refine W_skip' ?_
  refine Nx_then ?_
  refine W_seq ?_
  refine W_region ?_
  refine L_loadA rfl Try.agg25 Try.ti25 rfl (by exact cellsAt_whole (cs := r.cells) (hs.has _ (List.mem_append_left _ (List.mem_cons_self ..)))) ?_
  refine L_call rfl Try.fun9 rfl (new_ok r rl1 rl2 rl3 w1) ?_
  rintro _ w2 (⟨hne, _⟩ | ⟨_, B2, mb2, rfl, hs', hk'⟩)
  ·
   exact absurd hnew hne
  ·
   have hq0 := hk'.mono hs.size
   obtain ⟨q0, hq0e⟩ : ∃ q0, q0 = bok0 r B2 mb2 := ⟨_, rfl⟩
   have hB2 : B2 = q0.B := by rw [hq0e]
   rw [← hq0e] at hq0 hs' hk'
   rw [hB2]
   have hs1 := hs.call hs' hk'.own
   clear hs hs' hk'
   have hs := hs1
   clear hs1
   refine L_move rfl rfl ?_
   refine L_extract rfl rfl rfl ?_
   refine L_extract rfl rfl rfl ?_
   refine L_assign rfl rfl ?_
   refine L_assign rfl rfl ?_
   refine RL_then ?_
   refine W_seq ?_
   refine W_seq ?_
   refine W_region ?_
   refine L_move rfl rfl ?_
   first | refine L_neq rfl rfl rfl (dtrue (by omega)) ?_ | refine L_neq rfl rfl rfl (dfalse (by omega)) ?_ | refine L_neq rfl rfl rfl rfl ?_
   refine L_move rfl rfl ?_
   first | (refine RL_want rfl rfl ?_; refine L_move rfl rfl ?_) | refine RL_skip rfl rfl rfl rfl ?_ | refine RL_skipU rfl rfl rfl ?_
   first | (refine RL_want rfl rfl ?_; refine L_ptrNil rfl Try.underlying27 rfl rfl ?_) | refine RL_skip rfl rfl rfl rfl ?_ | refine RL_skipU rfl rfl rfl ?_
   first | refine L_pick_t rfl rfl rfl ?_ | refine L_pick_f rfl rfl rfl ?_
   refine RL_then ?_
   refine W_if_false rfl ?_
   refine W_skip' ?_
   refine Nx_then ?_
   refine W_seq ?_
   refine W_seq ?_
   refine W_region ?_
   refine L_move rfl rfl ?_
   refine L_build rfl rfl (Pl.builtN Try.pl35 rfl) ?_
   refine L_buildSlice rfl hs Try.underlying36 Try.ti35 rfl (by decide) rfl (by simp [Value.cells]) ?_
   intro b68 w hb68 hnb68 hs
   skip
   obtain ⟨L, hL⟩ : ∃ L, L = (b68, Row 35 p10.cells) :: (b15, Row 25 r.cells) :: k0.bks := ⟨_, rfl⟩
   have hLo : Own w0 L := by rw [hL]; exact Own.cons hb68 (Own.cons hb15 hk0.own)
   have h68 : (b68, Row 35 p10.cells) ∈ L := by rw [hL]; exact List.mem_cons_self ..
   have hs1 : HS w0 w (q0.bks ++ L) := by
    have h1 : HS w0 w (([(b15, Row 25 r.cells)] ++ k0.bks ++ q0.bks) ++ [(b68, Row 35 p10.cells)]) := hs
    rw [hL]; exact HS.re h1 (fun c => by simp only [List.map_append, List.map_cons, List.map_nil, List.sum_append, List.sum_cons, List.sum_nil]; omega)
   clear hs
   have hs := hs1
   clear hs1
   have hlt10 : ∀ i, i < 1 → PltLt ([p10].getD i plt0) := fun i hi => by
    obtain rfl : i = 0 := by omega
    exact ⟨by decide, by decide⟩
   have hnx1 : q0.next + 256 ≤ 1000000 := by rw [hq0e]; show (1 : Int) + 256 ≤ 1000000; decide
   have hS := step_ok w0 w 0 1 q0 0 (some ⟨b68, 0, none⟩) 1 [p10] L hs ⟨hq0, by decide, hLo, fun w' L' h1 h2 h3 => SlC.of_row (sp := []) (by rw [List.append_nil]; exact h1.has _ (h3 _ h68)), rfl, by decide, hlt10, by decide, hnx1⟩
   have hre : refE q0.last 0 [p10] = 0 := ref_top (by decide) fv_0 (fun p hp => by obtain rfl := List.mem_singleton.1 hp; decide +kernel) (.inl (by rw [hq0e]))
   rw [hre] at hS
   refine L_call rfl Try.fun10 rfl (hS) ?_
   rintro _ w3 (⟨hne, _⟩ | ⟨_, q1, vt, M1, told, os2, ps, ms, os3, rfl, hs1, hb1, htl, hq1, hst⟩)
   ·
    exact absurd rfl hne
   ·
    obtain ⟨rfl, hone⟩ := first1 (by rw [hq0e]) (by rw [hq0e]) hst
    clear hs hS
    obtain ⟨a1, c1, rfl, _⟩ := hb1.slice
    have hq1B : q1.B = q0.B := hst.sameB
    obtain ⟨L1, hL1⟩ : ∃ L1, L1 = L ++ M1 := ⟨_, rfl⟩
    have hL1o : Own w0 L1 := by rw [hL1]; exact hLo.app hb1.own
    have hs : HS w0 w3 (q1.bks ++ L1) := by rw [hL1, ← List.append_assoc]; exact hs1
    clear hs1
    have htl1 : SlC w3 a1 (il [1]) := Bl.slcM hb1 hs (fun p hp => List.mem_append_right _ (by rw [hL1]; exact List.mem_append_right _ hp))
    have hao1 : a1 = some (aD a1) := htl1.ao (by decide)
    refine L_move rfl rfl ?_
    refine L_extract rfl rfl rfl ?_
    refine L_extract rfl rfl rfl ?_
    refine L_assign rfl rfl ?_
    refine L_assign rfl rfl ?_
    refine RL_then ?_
    refine W_seq ?_
    refine W_region ?_
    refine L_move rfl rfl ?_
    first | refine L_neq rfl rfl rfl (dtrue (by omega)) ?_ | refine L_neq rfl rfl rfl (dfalse (by omega)) ?_ | refine L_neq rfl rfl rfl rfl ?_
    refine L_move rfl rfl ?_
    first | (refine RL_want rfl rfl ?_; refine L_move rfl rfl ?_) | refine RL_skip rfl rfl rfl rfl ?_ | refine RL_skipU rfl rfl rfl ?_
    first | (refine RL_want rfl rfl ?_; refine L_len rfl Try.underlying31 rfl ?_) | refine RL_skip rfl rfl rfl rfl ?_ | refine RL_skipU rfl rfl rfl ?_
    first | (refine RL_want rfl rfl ?_; (first | refine L_neq rfl rfl rfl (dtrue (by omega)) ?_ | refine L_neq rfl rfl rfl (dfalse (by omega)) ?_ | refine L_neq rfl rfl rfl rfl ?_)) | refine RL_skip rfl rfl rfl rfl ?_ | refine RL_skipU rfl rfl rfl ?_
    first | refine L_pick_t rfl rfl rfl ?_ | refine L_pick_f rfl rfl rfl ?_
    refine L_move rfl rfl ?_
    first | (refine RL_want rfl rfl ?_; refine L_move rfl rfl ?_) | refine RL_skip rfl rfl rfl rfl ?_ | refine RL_skipU rfl rfl rfl ?_
    first | (refine RL_want rfl rfl ?_; refine L_idx1 rfl Try.underlying31 Try.ti3 rfl rfl (by with_reducible first | exact natc_k _ | exact natc_a1 _ | exact natc_0 | exact natc_1 | exact natc_2 | exact natc_s1 _ (by omega) | exact natc_a2 _ | exact natc_add _ _ | exact natc_mul _ _ | exact natc (by omega)) (by omega) hao1 ?_) | refine RL_skip rfl rfl rfl rfl ?_ | refine RL_skipU rfl rfl rfl ?_
    first | (refine RL_want rfl rfl ?_; refine L_load rfl Try.one3 rfl (by exact htl1.2 0 _ rfl) ?_) | refine RL_skip rfl rfl rfl rfl ?_ | refine RL_skipU rfl rfl rfl ?_
    first | (refine RL_want rfl rfl ?_; (first | refine L_neq rfl rfl rfl (dtrue (by omega)) ?_ | refine L_neq rfl rfl rfl (dfalse (by omega)) ?_ | refine L_neq rfl rfl rfl rfl ?_)) | refine RL_skip rfl rfl rfl rfl ?_ | refine RL_skipU rfl rfl rfl ?_
    first | refine L_pick_t rfl rfl rfl ?_ | refine L_pick_f rfl rfl rfl ?_
    refine L_move rfl rfl ?_
    first | (refine RL_want rfl rfl ?_; refine L_move rfl rfl ?_) | refine RL_skip rfl rfl rfl rfl ?_ | refine RL_skipU rfl rfl rfl ?_
    have hT := tracks_ok w0 w3 1 q1 L1 hs hq1 hL1o
    rw [hq1B] at hT
    refine RL_want rfl rfl ?_
    refine L_call rfl Try.fun11 rfl (hT) ?_
    rintro _ w4 ⟨Mt, hs1, hbt⟩
    clear hs hT
    rw [hone] at hbt
    obtain ⟨at', ct, rfl, _⟩ := hbt.slice
    have hs : HS w0 w4 (k0.bks ++ [(b15, Row 25 r.cells)]) := by
     rw [hL1, hL] at hs1
     have h1 : HS w0 w4 ((q1.bks ++ ((b68, Row 35 p10.cells) :: (M1 ++ Mt))) ++ (k0.bks ++ [(b15, Row 25 r.cells)])) := HS.re hs1 (fun c => by simp only [List.map_append, List.map_cons, List.map_nil, List.sum_append, List.sum_cons, List.sum_nil]; omega)
     exact HS.dropL h1 (hq1.own.app (Own.cons hb68 (hb1.own.app hbt.own)))
    clear hs1
    first | (refine RL_want rfl rfl ?_; refine L_len rfl Try.underlying37 rfl ?_) | refine RL_skip rfl rfl rfl rfl ?_ | refine RL_skipU rfl rfl rfl ?_
    first | (refine RL_want rfl rfl ?_; (first | refine L_neq rfl rfl rfl (dtrue (by omega)) ?_ | refine L_neq rfl rfl rfl (dfalse (by omega)) ?_ | refine L_neq rfl rfl rfl rfl ?_)) | refine RL_skip rfl rfl rfl rfl ?_ | refine RL_skipU rfl rfl rfl ?_
    first | refine L_pick_t rfl rfl rfl ?_ | refine L_pick_f rfl rfl rfl ?_
    refine RL_then ?_
    refine W_if_false rfl ?_
    refine W_skip' ?_
    refine Nx_then ?_
    refine W_seq ?_
    refine W_region ?_
    refine L_assign rfl rfl ?_
    refine L_assign rfl rfl ?_
    refine RL_then ?_
    refine W_seq ?_
    refine W_seq ?_
    refine W_region ?_
    refine L_move rfl rfl ?_
    refine L_len rfl Try.underlying22 rfl ?_
    refine L_move rfl rfl ?_
    refine RL_then ?_
    refine W_block ?_
    obtain ⟨K, hK⟩ : ∃ K : Int, K = ((2 ^ C : Nat) : Int) := ⟨_, rfl⟩
    have hK0 : 0 < K := by rw [hK]; exact Int.ofNat_lt.2 (Nat.two_pow_pos C)
    refine W_loop6 (fun (k : Bok) (tm : Nat) (T : Int) (la : Int) (j : Nat) (w : World) => [(15, .pointer (some ⟨b15, 0, none⟩)), (16, bv k0.B), (21, .float .f64 tm), (22, .int .i64 la), (91, .slice a n c), (92, .int .i64 n), (93, .int .i64 j)]) (fun (k : Bok) (tm : Nat) (T : Int) (la : Int) (j : Nat) (w : World) => w) (fun (k : Bok) (tm : Nat) (T : Int) (la : Int) (j : Nat) (w : World) => (j ≤ n ∧ j ≤ 40) ∧ (k.B = k0.B ∧ k.r = r) ∧ (k.ok w0 j) ∧ (∀ o ∈ k.os, Tono C j k.last o) ∧ (FV tm T ∧ 0 ≤ T ∧ T ≤ 11 * (j : Int) * K) ∧ ((k.os = [] ∧ k.last = ninf) ∨ k.last = tm) ∧ (la < k.next ∧ 0 ≤ la ∧ k.next ≤ 1 + 256 * (j : Int)) ∧ (HS w0 w (k.bks ++ [(b15, Row 25 r.cells)]))) (fun (k : Bok) (tm : Nat) (T : Int) (la : Int) (j : Nat) (w : World) => n - j) (k0) (0) (0) (0) (0) (_) (is := [15, 16, 21, 22, 91, 92, 93]) rfl rfl ?_ ?_
    ·
     have hos0 : k0.os = [] := by rw [hk0e]
     have hon0 : ∀ o ∈ k0.os, Tono C 0 k0.last o := by
      rw [hos0]; intro o ho; cases ho
     have hkn : k0.next = 1 := by rw [hk0e]
     have hkl : k0.last = ninf := by rw [hk0e]
     have hkr0 : k0.r = r := by rw [hk0e]
     exact ⟨⟨Nat.zero_le _, Nat.zero_le _⟩, ⟨rfl, hkr0⟩, hk0, hon0, ⟨fv_0, Int.le_refl _, by simp⟩, .inl ⟨hos0, hkl⟩, ⟨by omega, Int.le_refl _, by omega⟩, hs⟩
    ·
     clear hs hk0
     intro k tm T la j w hI
     show W _ _ _ _ [(15, .pointer (some ⟨b15, 0, none⟩)), (16, bv k0.B), (21, .float .f64 tm), (22, .int .i64 la), (91, .slice a n c), (92, .int .i64 n), (93, .int .i64 j)] w
     obtain ⟨⟨hj, hj40⟩, ⟨hkB, hkr⟩, hk, hon, ⟨hT, hT0, hT1⟩, hlast, ⟨hla, hla0, hnx⟩, hs⟩ := hI
     by_cases hlt : j < n
     ·
      obtain ⟨s, hse⟩ : ∃ s, s = l.getD j sw0 := ⟨_, rfl⟩
      have hso : SwOk w0 s := by rw [hse]; exact hm j hlt
      have hAo : Own w0 (k.bks ++ [(b15, Row 25 r.cells)]) := hk.own.app hRo
      have hao : a = some (aD a) := (ha.old hs hAo).ao (by rw [swcs_len]; omega)
      refine W_seq ?_
      refine W_region ?_
      first | refine L_lss rfl rfl rfl (dtrue (by omega)) ?_ | refine L_lss rfl rfl rfl (dfalse (by omega)) ?_ | refine L_lss rfl rfl rfl rfl ?_
      refine RL_then ?_
      refine W_seq ?_
      refine W_if_true rfl ?_
      refine W_skip' ?_
      refine Nx_then ?_
      refine W_seq ?_
      refine W_block ?_
      refine W_seq ?_
      refine W_region ?_
      refine L_move rfl rfl ?_
      refine L_idxN rfl Try.underlying22 Try.ti40 rfl rfl (by with_reducible first | exact natc_k _ | exact natc_a1 _ | exact natc_0 | exact natc_1 | exact natc_2 | exact natc_s1 _ (by omega) | exact natc_a2 _ | exact natc_add _ _ | exact natc_mul _ _ | exact natc (by omega)) (by omega) hao ?_
      refine L_loadA rfl Try.agg40 Try.ti40 rfl (by exact ((ha.old hs hAo).sub fun _ _ hv => swcs_get (ts := l) (i := j) (by omega) (by rw [← hse]; exact hv) : CellsAt _ ((aD a).add (j * 3)) s.cells)) ?_
      refine L_alloc rfl hs Try.ti40 ?_; intro b24 w hb24 _ hs; replace hs := HS.push hs
      refine L_assign rfl rfl ?_
      refine L_storeA hs (i := 0) rfl Try.ti40 rfl rfl (by first | rfl | exact add_lit0 _ _ | exact Addr.add_lit .. | (rw [add_add]; exact add_lit0 _ _)) (by simp [Sw.cells]) (by simp [Sw.cells, Value.oneCell']) ?_
      intro w hs
      try dsimp only [List.set_cons_succ, List.set_cons_zero, List.cons_append, List.nil_append] at hs
      refine RL_then ?_
      refine W_seq ?_
      refine W_seq ?_
      refine W_region ?_
      have hs1 : HS w0 w ((b24, Row 40 s.cells) :: (k.bks ++ [(b15, Row 25 r.cells)])) := hs
      clear hs
      have hs := hs1
      clear hs1
      have hBo : Own w0 ((b24, Row 40 s.cells) :: (k.bks ++ [(b15, Row 25 r.cells)])) := Own.cons hb24 hAo
      by_cases h40 : j < 40
      ·
       skip
       refine L_move rfl rfl ?_
       first | refine L_geq rfl rfl rfl (dtrue (by omega)) ?_ | refine L_geq rfl rfl rfl (dfalse (by omega)) ?_ | refine L_geq rfl rfl rfl rfl ?_
       refine RL_then ?_
       refine W_if_false rfl ?_
       refine W_skip' ?_
       refine Nx_then ?_
       refine W_seq ?_
       refine W_region ?_
       refine L_move rfl rfl ?_
       refine L_fieldAddr rfl (off := 0) Try.underlying40 rfl rfl Try.ti3 rfl ?_
       refine L_load rfl Try.one3 rfl (by exact hs.cellA (i := 0) (j := 0) rfl rfl) ?_
       refine L_call rfl Try.fun12 rfl (size_ok s.wait 10000 (by decide) (by decide) w) ?_
       rintro _ w5 ⟨rfl, rfl⟩
       obtain ⟨_, _, _, _, z1, z2⟩ := size_rng (n := s.wait) (m := 10000) (by decide)
       obtain ⟨zw, hzw, y1, y2⟩ := wait_fv (c := C) (n := (sizeF s.wait 10000).toNat) hC (by omega) (by omega)
       rw [show (((sizeF s.wait 10000).toNat : Nat) : Int) = sizeF s.wait 10000 by omega] at hzw
       refine L_itof rfl Try.underlying3 Try.underlying23 rfl ?_
       refine L_farith rfl (op := .quo) rfl rfl rfl ?_
       intro r105 k105 hr105
       try replace hs := hs.drewN k105
       refine L_farith rfl (op := .add) rfl rfl rfl ?_
       intro r106 k106 hr106
       try replace hs := hs.drewN k106
       refine L_assign rfl rfl ?_
       refine RL_then ?_
       refine W_seq ?_
       refine W_region ?_
       refine L_loadA rfl Try.agg40 Try.ti40 rfl (by exact cellsAt_whole (cs := s.cells) (hs.get (i := 0) rfl)) ?_
       have c105 : cn r105 = cn (fop .quo (FloatKind.f64.nearest (sizeF s.wait 10000)) 4652007308841189376) := (Fs.cn hr105).trans (cn_fop ..).symm
       have f105 := fv_congr hzw c105
       have hjK : (j : Int) * K ≤ 39 * K := Int.mul_le_mul_of_nonneg_right (by omega) (by omega)
       have hT440 : T ≤ 440 * ((2 ^ C : Nat) : Int) := by
        rw [← hK]
        have : 11 * (j : Int) * K = 11 * ((j : Int) * K) := Int.mul_assoc ..
        omega
       obtain ⟨T2, hT2, t1, t2, hdt⟩ := time_step (c := C) hC hT f105 hT0 hT440 y1 y2
       have c106 : cn r106 = cn (fop .add tm r105) := (Fs.cn hr106).trans (cn_fop ..).symm
       have f106 := fv_congr hT2 c106
       rw [← fop_congr c106 rfl] at hdt
       obtain ⟨w6, hw6⟩ : ∃ w6, w6 = (w5.drewN k105).drewN k106 := ⟨_, rfl⟩
       rw [← hw6] at hs ⊢
       refine L_call rfl Try.fun13 rfl (found_ok s w6 ⟨hso.r.old hs hBo, hso.t.old hs hBo, hso.lr, hso.lt⟩) ?_
       rintro _ w7 ⟨lp, Mp, hbp', hs', hlp, htp⟩
       have hs1 := hs.call hs' hbp'.own
       have hbp := hbp'.mono hs.size
       clear hs hs' hbp'
       obtain ⟨ap, cp, rfl, _⟩ := hbp.slice
       obtain ⟨LL, hLL⟩ : ∃ LL, LL = Mp ++ [(b24, Row 40 s.cells), (b15, Row 25 r.cells)] := ⟨_, rfl⟩
       have hLLo : Own w0 LL := by rw [hLL]; exact hbp.own.app (Own.cons hb24 (Own.cons hb15 Own.nil))
       have hs : HS w0 w7 (k.bks ++ LL) := by rw [hLL]; exact HS.re hs1 (fun c => by simp only [List.map_append, List.map_cons, List.map_nil, List.sum_append, List.sum_cons, List.sum_nil]; omega)
       clear hs1
       have hfin : ∀ p ∈ lp, finP p = true := fun p hp => (topP_all hC (htp p hp)).2.2.1
       have hre : refE k.last r106 lp = 0 := ref_top (by omega) f106 hfin (by
        rcases hlast with ⟨_, h⟩ | h
        ·
         exact .inl h
        ·
         exact .inr ⟨T, by rw [h]; exact hT, t1⟩)
       have hltp : ∀ i, i < lp.length → PltLt (lp.getD i plt0) := fun i hi => (topP_all hC (htp _ (getD_mem hi))).2.2.2
       have hS := step_ok w0 w7 j lp.length k r106 ap cp lp LL hs ⟨hk, by omega, hLLo, fun w' L' h1 h2 h3 => Bl.slcM hbp h1 (fun p hp => h3 p (by rw [hLL]; exact List.mem_append_left _ hp)), rfl, by omega, hltp, fv_lt64 f106, by omega⟩
       rw [hre, hkB] at hS
       refine L_assign rfl rfl ?_
       refine RL_then ?_
       refine W_seq ?_
       refine W_region ?_
       refine L_move rfl rfl ?_
       refine L_move rfl rfl ?_
       refine L_move rfl rfl ?_
       refine L_call rfl Try.fun10 rfl (hS) ?_
       rintro _ w8 (⟨hne, _⟩ | ⟨_, k', vt, M1, told, os2, ps, ms, os3, rfl, hs1, hb1, htl, hk', hst⟩)
       ·
        exact absurd rfl hne
       ·
        clear hs hS
        obtain ⟨a1, c1, rfl, _⟩ := hb1.slice
        have hk'B : k'.B = k0.B := hst.sameB.trans hkB
        have hO := step_once hk (by omega) hst
        have hall := top_step hC hk (N := N) (j := j) ⟨by omega, hon, fun o ho => by
         rcases hlast with ⟨h, _⟩ | h
         ·
          rw [h] at ho; cases ho
         ·
          rw [h]; exact hdt, by rw [hkr]; exact hN, hN0, hN1, by rw [hkr]; exact hsw, fun p hp => ⟨(topP_all hC (htp p hp)).1, (topP_all hC (htp p hp)).2.1⟩⟩ (by omega) hst
        refine L_move rfl rfl ?_
        refine L_extract rfl rfl rfl ?_
        refine L_extract rfl rfl rfl ?_
        refine L_assign rfl rfl ?_
        refine L_assign rfl rfl ?_
        refine RL_then ?_
        refine W_seq ?_
        refine W_seq ?_
        refine W_region ?_
        refine L_move rfl rfl ?_
        first | refine L_neq rfl rfl rfl (dtrue (by omega)) ?_ | refine L_neq rfl rfl rfl (dfalse (by omega)) ?_ | refine L_neq rfl rfl rfl rfl ?_
        refine L_move rfl rfl ?_
        first | (refine RL_want rfl rfl ?_; refine L_move rfl rfl ?_) | refine RL_skip rfl rfl rfl rfl ?_ | refine RL_skipU rfl rfl rfl ?_
        first | (refine RL_want rfl rfl ?_; refine L_len rfl Try.underlying31 rfl ?_) | refine RL_skip rfl rfl rfl rfl ?_ | refine RL_skipU rfl rfl rfl ?_
        first | (refine RL_want rfl rfl ?_; refine L_move rfl rfl ?_) | refine RL_skip rfl rfl rfl rfl ?_ | refine RL_skipU rfl rfl rfl ?_
        first | (refine RL_want rfl rfl ?_; refine L_len rfl Try.underlying36 rfl ?_) | refine RL_skip rfl rfl rfl rfl ?_ | refine RL_skipU rfl rfl rfl ?_
        first | (refine RL_want rfl rfl ?_; (first | refine L_neq rfl rfl rfl (dtrue (by omega)) ?_ | refine L_neq rfl rfl rfl (dfalse (by omega)) ?_ | refine L_neq rfl rfl rfl rfl ?_)) | refine RL_skip rfl rfl rfl rfl ?_ | refine RL_skipU rfl rfl rfl ?_
        first | refine L_pick_t rfl rfl rfl ?_ | refine L_pick_f rfl rfl rfl ?_
        refine RL_then ?_
        refine W_if_false rfl ?_
        obtain ⟨Z, hZ⟩ : ∃ Z, Z = k'.bks ++ LL ++ M1 := ⟨_, rfl⟩
        rw [← hZ] at hs1
        have hs := hs1
        clear hs1
        have hZo : Own w0 Z := by rw [hZ]; exact (hk'.own.app hLLo).app hb1.own
        have htS : ∀ {w' : World} {L' : Bks}, HS w0 w' L' → (∀ p ∈ Z, p ∈ L') → SlC w' a1 (il told) := fun h1 h2 => Bl.slcM hb1 h1 (fun p hp => h2 p (by rw [hZ]; exact List.mem_append_right _ hp))
        obtain ⟨m, hmm⟩ : ∃ m, m = lp.length := ⟨_, rfl⟩
        rw [← hmm] at htl hlp hO ⊢
        refine W_skip' ?_
        refine Nx_then ?_
        refine W_seq ?_
        refine W_region ?_
        refine L_makeMap rfl hs ?_; intro b125 w hb125 _ hs; replace hs := HS.push hs
        have hs1 : HS w0 w ((b125, MapO (Value.int .i64) (Value.int .i64) ([] : List (Int × Int × Nat)) 0) :: Z) := hs
        clear hs
        have hs := hs1
        clear hs1
        refine L_assign rfl rfl ?_
        refine RL_then ?_
        refine W_seq ?_
        refine W_seq ?_
        refine W_region ?_
        refine L_move rfl rfl ?_
        refine L_len rfl Try.underlying31 rfl ?_
        refine L_move rfl rfl ?_
        refine RL_then ?_
        refine W_block ?_
        refine W_loop4 (fun (ml : List (Int × Int × Nat)) (mc : Nat) (z : Nat) (w : World) => [(15, .pointer (some ⟨b15, 0, none⟩)), (16, bv k0.B), (21, .float .f64 r106), (22, .int .i64 la), (28, .map (some b125)), (91, .slice a n c), (92, .int .i64 n), (93, .int .i64 j), (126, .slice a1 m c1), (127, .int .i64 m), (128, .int .i64 z)]) (fun (ml : List (Int × Int × Nat)) (mc : Nat) (z : Nat) (w : World) => w) (fun (ml : List (Int × Int × Nat)) (mc : Nat) (z : Nat) (w : World) => (z ≤ m) ∧ (SeenM told z ml) ∧ (HS w0 w ((b125, MapO (Value.int .i64) (Value.int .i64) ml mc) :: Z))) (fun (ml : List (Int × Int × Nat)) (mc : Nat) (z : Nat) (w : World) => m - z) ([]) (0) (0) (_) (is := [15, 16, 21, 22, 28, 91, 92, 93, 126, 127, 128]) rfl rfl ?_ ?_
        ·
         exact ⟨Nat.zero_le _, seenM_nil told, hs⟩
        ·
         clear hs
         intro ml mc z w hI
         show W _ _ _ _ [(15, .pointer (some ⟨b15, 0, none⟩)), (16, bv k0.B), (21, .float .f64 r106), (22, .int .i64 la), (28, .map (some b125)), (91, .slice a n c), (92, .int .i64 n), (93, .int .i64 j), (126, .slice a1 m c1), (127, .int .i64 m), (128, .int .i64 z)] w
         obtain ⟨hz, hSM, hs⟩ := hI
         by_cases hlz : z < m
         ·
          obtain ⟨id, hid⟩ : ∃ id, id = told.getD z 0 := ⟨_, rfl⟩
          have hts := htS hs (fun p hp => List.mem_cons_of_mem _ hp)
          have hao1 : a1 = some (aD a1) := hts.ao (by rw [il_length]; omega)
          obtain ⟨hS1, hS2⟩ := hSM.step (id := id) (ck := mc) (by omega) hid (fun p hp he => hO.inj p z hp he)
          have hrg := hSM.rng id
          obtain ⟨cv, hcv⟩ : ∃ cv, cv = (mget id ml).getD 0 := ⟨_, rfl⟩
          have hlk : ((mget id ml).map (Value.int .i64)).getD (.int .i64 0) = .int .i64 cv := by rw [hcv]; cases mget id ml <;> rfl
          rw [← hcv] at hS1 hS2 hrg
          refine W_seq ?_
          refine W_region ?_
          first | refine L_lss rfl rfl rfl (dtrue (by omega)) ?_ | refine L_lss rfl rfl rfl (dfalse (by omega)) ?_ | refine L_lss rfl rfl rfl rfl ?_
          refine RL_then ?_
          refine W_seq ?_
          refine W_if_true rfl ?_
          refine W_skip' ?_
          refine Nx_then ?_
          refine W_seq ?_
          refine W_block ?_
          refine W_seq ?_
          refine W_region ?_
          refine L_idx1 rfl Try.underlying31 Try.ti3 rfl rfl (by with_reducible first | exact natc_k _ | exact natc_a1 _ | exact natc_0 | exact natc_1 | exact natc_2 | exact natc_s1 _ (by omega) | exact natc_a2 _ | exact natc_add _ _ | exact natc_mul _ _ | exact natc (by omega)) (by omega) hao1 ?_
          refine L_load rfl Try.one3 rfl (by exact (show _ = some (Value.int .i64 id) by rw [hid]; exact hts.2 _ _ (il_get (by omega)))) ?_
          refine L_assign rfl rfl ?_
          refine RL_then ?_
          refine W_seq ?_
          refine W_region ?_
          refine L_move rfl rfl ?_
          refine L_move rfl rfl ?_
          refine L_look1 (k := id) (ev := Value.int .i64) (z := .int .i64 0) rfl K3 Try.underlying43 Try.ti3 (hs.has _ (List.mem_cons_self ..)) rfl rfl ?_; rw [hlk]
          first | refine L_add rfl rfl rfl (wrp_i64 (by omega)) ?_ | refine L_add rfl rfl rfl rfl ?_
          refine L_mput hs (i := 0) (k := id) (v := cv + 1) (ev := Value.int .i64) rfl K3 Try.underlying43 rfl rfl rfl ?_; intro w hs
          refine RL_then ?_
          refine W_seq ?_
          refine W_region ?_
          obtain ⟨ml', hml'⟩ : ∃ ml', ml' = mput id (cv + 1) mc ml := ⟨_, rfl⟩
          obtain ⟨mc', hmc'⟩ : ∃ mc', mc' = mclk id mc ml := ⟨_, rfl⟩
          have hs1 : HS w0 w ((b125, MapO (Value.int .i64) (Value.int .i64) ml' mc') :: Z) := by rw [hml', hmc']; exact hs
          clear hs
          have hs := hs1
          clear hs1
          rw [← hml'] at hS1 hS2
          obtain ⟨cu, hcu⟩ : ∃ cu, cu = (mget id ml').getD 0 := ⟨_, rfl⟩
          have hlu : ((mget id ml').map (Value.int .i64)).getD (.int .i64 0) = .int .i64 cu := by rw [hcu]; cases mget id ml' <;> rfl
          rw [← hcu] at hS2
          by_cases hip : 0 < id
          ·
           have hcu1 := hS2 hip
           refine L_move rfl rfl ?_
           first | refine L_gtr rfl rfl rfl (dtrue (by omega)) ?_ | refine L_gtr rfl rfl rfl (dfalse (by omega)) ?_ | refine L_gtr rfl rfl rfl rfl ?_
           refine L_move rfl rfl ?_
           first | (refine RL_want rfl rfl ?_; refine L_move rfl rfl ?_) | refine RL_skip rfl rfl rfl rfl ?_ | refine RL_skipU rfl rfl rfl ?_
           first | (refine RL_want rfl rfl ?_; refine L_move rfl rfl ?_) | refine RL_skip rfl rfl rfl rfl ?_ | refine RL_skipU rfl rfl rfl ?_
           first | (refine RL_want rfl rfl ?_; refine L_look1 (k := id) (ev := Value.int .i64) (z := .int .i64 0) rfl K3 Try.underlying43 Try.ti3 (hs.has _ (List.mem_cons_self ..)) rfl rfl ?_; rw [hlu]) | refine RL_skip rfl rfl rfl rfl ?_ | refine RL_skipU rfl rfl rfl ?_
           first | (refine RL_want rfl rfl ?_; (first | refine L_gtr rfl rfl rfl (dtrue (by omega)) ?_ | refine L_gtr rfl rfl rfl (dfalse (by omega)) ?_ | refine L_gtr rfl rfl rfl rfl ?_)) | refine RL_skip rfl rfl rfl rfl ?_ | refine RL_skipU rfl rfl rfl ?_
           first | refine L_pick_t rfl rfl rfl ?_ | refine L_pick_f rfl rfl rfl ?_
           refine RL_then ?_
           refine W_if_false rfl ?_
           refine W_skip' ?_
           refine Nx_block ?_
           refine Nx_then ?_
           refine W_region ?_
           first | refine L_add rfl rfl rfl (wrp_i64 (by omega)) ?_ | refine L_add rfl rfl rfl rfl ?_
           refine L_move rfl rfl ?_
           refine RL_nil' ?_
           refine Nx_loopP (ml', mc', z + 1, _) (is := [15, 16, 21, 22, 28, 91, 92, 93, 126, 127, 128]) (I' := (fun (ml : List (Int × Int × Nat)) (mc : Nat) (z : Nat) (w : World) => (z ≤ m) ∧ (SeenM told z ml) ∧ (HS w0 w ((b125, MapO (Value.int .i64) (Value.int .i64) ml mc) :: Z))) (ml') (mc') (z + 1) (_)) rfl rfl rfl ?_ ?_
           ·
            exact ⟨by omega, hS1, hs⟩
           ·
            show m - (z + 1) < m - z; omega
          ·
           skip
           refine L_move rfl rfl ?_
           first | refine L_gtr rfl rfl rfl (dtrue (by omega)) ?_ | refine L_gtr rfl rfl rfl (dfalse (by omega)) ?_ | refine L_gtr rfl rfl rfl rfl ?_
           refine L_move rfl rfl ?_
           first | (refine RL_want rfl rfl ?_; refine L_move rfl rfl ?_) | refine RL_skip rfl rfl rfl rfl ?_ | refine RL_skipU rfl rfl rfl ?_
           first | (refine RL_want rfl rfl ?_; refine L_move rfl rfl ?_) | refine RL_skip rfl rfl rfl rfl ?_ | refine RL_skipU rfl rfl rfl ?_
           first | refine RL_skip rfl rfl rfl rfl ?_ | refine RL_skipU rfl rfl rfl ?_
           first | (refine RL_want rfl rfl ?_; (first | refine L_gtr rfl rfl rfl (dtrue (by omega)) ?_ | refine L_gtr rfl rfl rfl (dfalse (by omega)) ?_ | refine L_gtr rfl rfl rfl rfl ?_)) | refine RL_skip rfl rfl rfl rfl ?_ | refine RL_skipU rfl rfl rfl ?_
           first | refine L_pick_t rfl rfl rfl ?_ | refine L_pick_f rfl rfl rfl ?_
           refine RL_then ?_
           refine W_if_false rfl ?_
           refine W_skip' ?_
           refine Nx_block ?_
           refine Nx_then ?_
           refine W_region ?_
           first | refine L_add rfl rfl rfl (wrp_i64 (by omega)) ?_ | refine L_add rfl rfl rfl rfl ?_
           refine L_move rfl rfl ?_
           refine RL_nil' ?_
           refine Nx_loopP (ml', mc', z + 1, _) (is := [15, 16, 21, 22, 28, 91, 92, 93, 126, 127, 128]) (I' := (fun (ml : List (Int × Int × Nat)) (mc : Nat) (z : Nat) (w : World) => (z ≤ m) ∧ (SeenM told z ml) ∧ (HS w0 w ((b125, MapO (Value.int .i64) (Value.int .i64) ml mc) :: Z))) (ml') (mc') (z + 1) (_)) rfl rfl rfl ?_ ?_
           ·
            exact ⟨by omega, hS1, hs⟩
           ·
            show m - (z + 1) < m - z; omega
         ·
          obtain rfl : z = told.length := by omega
          skip
          refine W_seq ?_
          refine W_region ?_
          first | refine L_lss rfl rfl rfl (dtrue (by omega)) ?_ | refine L_lss rfl rfl rfl (dfalse (by omega)) ?_ | refine L_lss rfl rfl rfl rfl ?_
          refine RL_then ?_
          refine W_seq ?_
          refine W_if_false rfl ?_
          obtain ⟨L2, hL2⟩ : ∃ L2, L2 = LL ++ (M1 ++ [(b125, MapO (Value.int .i64) (Value.int .i64) ml mc)]) := ⟨_, rfl⟩
          have hL2o : Own w0 L2 := by rw [hL2]; exact hLLo.app (hb1.own.app (Own.cons hb125 Own.nil))
          have hs1 : HS w0 w (k'.bks ++ L2) := by rw [hZ] at hs; rw [hL2]; exact HS.re hs (fun c => by simp only [List.map_append, List.map_cons, List.map_nil, List.sum_append, List.sum_cons, List.sum_nil]; omega)
          clear hs
          have hs := hs1
          clear hs1
          have hmapL : (b125, MapO (Value.int .i64) (Value.int .i64) ml mc) ∈ L2 := by rw [hL2]; exact List.mem_append_right _ (List.mem_append_right _ (List.mem_singleton.2 rfl))
          have hrL : (b15, Row 25 r.cells) ∈ L2 := by rw [hL2, hLL]; exact List.mem_append_left _ (List.mem_append_right _ (List.mem_cons_of_mem _ (List.mem_cons_self ..)))
          have hT' := tracks_ok w0 w (j + 1) k' L2 hs hk' hL2o
          rw [hk'B] at hT'
          refine W_exit' ?_
          refine Ex_then_exit ?_
          refine Ex_loop_exit ?_
          refine Ex_block_hit ?_
          refine Nx_then ?_
          refine W_seq ?_
          refine W_region ?_
          refine L_move rfl rfl ?_
          refine L_assign rfl rfl ?_
          refine RL_then ?_
          refine W_seq ?_
          refine W_seq ?_
          refine W_region ?_
          refine L_move rfl rfl ?_
          refine L_call rfl Try.fun11 rfl (hT') ?_
          rintro _ w9 ⟨Mt, hs1, hbt2⟩
          clear hs hT'
          obtain ⟨nt, hnt⟩ : ∃ nt, nt = k'.os.length := ⟨_, rfl⟩
          have hcnt' := hk'.cnt
          rw [← hnt] at hbt2
          obtain ⟨at2, ct2, rfl, _⟩ := hbt2.slice
          obtain ⟨L3, hL3⟩ : ∃ L3, L3 = L2 ++ Mt := ⟨_, rfl⟩
          have hL3o : Own w0 L3 := by rw [hL3]; exact hL2o.app hbt2.own
          have hs : HS w0 w9 (k'.bks ++ L3) := by rw [hL3, ← List.append_assoc]; exact hs1
          clear hs1
          have hts2 : ∀ {w' : World} {L' : Bks}, HS w0 w' L' → (∀ p ∈ L3, p ∈ L') → SlC w' at2 (tcs (k'.os.map On.t)) := fun h1 h2 => Bl.slcM hbt2 h1 (fun p hp => h2 p (by rw [hL3]; exact List.mem_append_right _ hp))
          have hmap3 : (b125, MapO (Value.int .i64) (Value.int .i64) ml mc) ∈ L3 := by rw [hL3]; exact List.mem_append_left _ hmapL
          have hr3 : (b15, Row 25 r.cells) ∈ L3 := by rw [hL3]; exact List.mem_append_left _ hrL
          have hnx1 : k.next ≤ k'.next ∧ k'.next ≤ k.next + (lp.length : Int) := ⟨(hst.news.facts hk.next1).2.1, (hst.news.facts hk.next1).2.2.1⟩
          refine L_len rfl Try.underlying37 rfl ?_
          refine L_move rfl rfl ?_
          refine RL_then ?_
          refine W_block ?_
          refine W_loop3 (fun (hgh : Int) (i : Nat) (w : World) => [(15, .pointer (some ⟨b15, 0, none⟩)), (16, bv k0.B), (21, .float .f64 r106), (22, .int .i64 la), (28, .map (some b125)), (31, .int .i64 hgh), (91, .slice a n c), (92, .int .i64 n), (93, .int .i64 j), (147, .slice at2 nt ct2), (148, .int .i64 nt), (149, .int .i64 i)]) (fun (hgh : Int) (i : Nat) (w : World) => w) (fun (hgh : Int) (i : Nat) (w : World) => (i ≤ nt) ∧ (0 ≤ hgh ∧ hgh < k'.next) ∧ (HS w0 w (k'.bks ++ L3))) (fun (hgh : Int) (i : Nat) (w : World) => nt - i) (la) (0) (_) (is := [15, 16, 21, 22, 28, 31, 91, 92, 93, 147, 148, 149]) rfl rfl ?_ ?_
          ·
           exact ⟨Nat.zero_le _, ⟨hla0, by omega⟩, hs⟩
          ·
           clear hs
           intro hgh i w hI
           show W _ _ _ _ [(15, .pointer (some ⟨b15, 0, none⟩)), (16, bv k0.B), (21, .float .f64 r106), (22, .int .i64 la), (28, .map (some b125)), (31, .int .i64 hgh), (91, .slice a n c), (92, .int .i64 n), (93, .int .i64 j), (147, .slice at2 nt ct2), (148, .int .i64 nt), (149, .int .i64 i)] w
           obtain ⟨hi, ⟨hg0, hg1⟩, hs⟩ := hI
           by_cases hli : i < nt
           ·
            obtain ⟨o, hoe⟩ : ∃ o, o = k'.os.getD i on0 := ⟨_, rfl⟩
            have ho : o ∈ k'.os := by rw [hoe]; exact getD_mem (by omega)
            obtain ⟨hTo, hSe, hSt⟩ := hall o ho
            obtain ⟨_, _, hTx, hTy⟩ := hTo.ex
            have hlow := hk'.low o ho
            have hse6 := (hk'.each o ho).seen
            have hst1 := (hk'.hist o ho).2.2
            have hbit := seen_bit hk' hO hSM ho hSe
            have hts3 := hts2 hs (fun p hp => List.mem_append_right _ hp)
            have hao2 : at2 = some (aD at2) := hts3.ao (by rw [tcs_len, List.length_map]; omega)
            have hotg : (k'.os.map On.t).getD i trk0 = o.t := by
             rw [hoe, List.getD_eq_getElem?_getD, List.getElem?_map, List.getD_eq_getElem?_getD, List.getElem?_eq_getElem (by omega)]; rfl
            refine W_seq ?_
            refine W_region ?_
            first | refine L_lss rfl rfl rfl (dtrue (by omega)) ?_ | refine L_lss rfl rfl rfl (dfalse (by omega)) ?_ | refine L_lss rfl rfl rfl rfl ?_
            refine RL_then ?_
            refine W_seq ?_
            refine W_if_true rfl ?_
            refine W_skip' ?_
            refine Nx_then ?_
            refine W_seq ?_
            refine W_block ?_
            refine W_seq ?_
            refine W_region ?_
            refine L_idxN rfl Try.underlying37 Try.ti49 rfl rfl (by with_reducible first | exact natc_k _ | exact natc_a1 _ | exact natc_0 | exact natc_1 | exact natc_2 | exact natc_s1 _ (by omega) | exact natc_a2 _ | exact natc_add _ _ | exact natc_mul _ _ | exact natc (by omega)) (by omega) hao2 ?_
            refine L_loadA rfl Try.agg49 Try.ti49 rfl (by exact (hts3.sub fun _ _ hv => tcs_get (ts := k'.os.map On.t) (i := i) (by rw [List.length_map]; omega) (by rw [hotg]; exact hv) : CellsAt _ ((aD at2).add (i * 15)) o.t.cells)) ?_
            refine L_alloc rfl hs Try.ti49 ?_; intro b33 w hb33 _ hs; replace hs := HS.push hs
            refine L_storeA hs (i := 0) rfl Try.ti49 rfl rfl (by first | rfl | exact add_lit0 _ _ | exact Addr.add_lit .. | (rw [add_add]; exact add_lit0 _ _)) (by simp [Trk.cells]) (by exact Trk.one _) ?_
            intro w hs
            try dsimp only [List.set_cons_succ, List.set_cons_zero, List.cons_append, List.nil_append] at hs
            refine RL_then ?_
            refine W_seq ?_
            refine W_seq ?_
            refine W_region ?_
            have hs1 : HS w0 w ((b33, Row 49 o.t.cells) :: (k'.bks ++ L3)) := hs
            clear hs
            have hs := hs1
            clear hs1
            refine L_fieldAddr rfl (off := 2) Try.underlying49 rfl rfl Try.ti46 rfl ?_
            refine L_loadA rfl Try.agg46 Try.ti46 rfl (by exact cellsAt_part (n := 5) (cs := o.t.x.cells) (hs.get (i := 0) rfl) rfl) ?_
            refine L_call rfl Try.fun14 rfl (may_ok o.t.x hTx.may w) ?_
            rintro _ w10 ⟨rfl, hs'⟩
            replace hs := hs.nil hs'
            clear hs'
            refine L_not rfl rfl ?_
            refine L_move rfl rfl ?_
            first | (refine RL_want rfl rfl ?_; refine L_fieldAddr rfl (off := 7) Try.underlying49 rfl rfl Try.ti46 rfl ?_) | refine RL_skip rfl rfl rfl rfl ?_ | refine RL_skipU rfl rfl rfl ?_
            first | (refine RL_want rfl rfl ?_; refine L_loadA rfl Try.agg46 Try.ti46 rfl (by exact cellsAt_part (n := 5) (cs := o.t.y.cells) (hs.get (i := 0) rfl) rfl) ?_) | refine RL_skip rfl rfl rfl rfl ?_ | refine RL_skipU rfl rfl rfl ?_
            refine RL_want rfl rfl ?_
            refine L_call rfl Try.fun14 rfl (may_ok o.t.y hTy.may w10) ?_
            rintro _ w11 ⟨rfl, hs'⟩
            replace hs := hs.nil hs'
            clear hs'
            first | (refine RL_want rfl rfl ?_; refine L_not rfl rfl ?_) | refine RL_skip rfl rfl rfl rfl ?_ | refine RL_skipU rfl rfl rfl ?_
            first | refine L_pick_t rfl rfl rfl ?_ | refine L_pick_f rfl rfl rfl ?_
            refine L_move rfl rfl ?_
            first | (refine RL_want rfl rfl ?_; refine L_fieldAddr rfl (off := 14) Try.underlying49 rfl rfl Try.ti23 rfl ?_) | refine RL_skip rfl rfl rfl rfl ?_ | refine RL_skipU rfl rfl rfl ?_
            first | (refine RL_want rfl rfl ?_; refine L_load rfl Try.one23 rfl (by exact (show _ = some (Value.float .f64 r106) by rw [← hTo.last]; exact hs.cellA (i := 0) (j := 14) rfl rfl)) ?_) | refine RL_skip rfl rfl rfl rfl ?_ | refine RL_skipU rfl rfl rfl ?_
            first | (refine RL_want rfl rfl ?_; refine L_move rfl rfl ?_) | refine RL_skip rfl rfl rfl rfl ?_ | refine RL_skipU rfl rfl rfl ?_
            refine RL_want rfl rfl ?_
            refine L_call rfl Try.fun15 rfl (sameF_ok r106 w11) ?_
            rintro _ w12 ⟨rfl, rfl⟩
            obtain ⟨cq, hcq⟩ : ∃ cq, cq = (mget o.t.id ml).getD 0 := ⟨_, rfl⟩
            have hlq : ((mget o.t.id ml).map (Value.int .i64)).getD (.int .i64 0) = .int .i64 cq := by rw [hcq]; cases mget o.t.id ml <;> rfl
            rw [← hcq] at hbit
            have hm33 : (b125, MapO (Value.int .i64) (Value.int .i64) ml mc) ∈ (b33, Row 49 o.t.cells) :: (k'.bks ++ L3) := List.mem_cons_of_mem _ (List.mem_append_right _ hmap3)
            have hr33 : (b15, Row 25 r.cells) ∈ (b33, Row 49 o.t.cells) :: (k'.bks ++ L3) := List.mem_cons_of_mem _ (List.mem_append_right _ hr3)
            rcases hbit with ⟨hb, hq1⟩ | ⟨hb, hq1⟩
            ·
             obtain ⟨_, ⟨zx, zx1, zx2⟩, ⟨zy, zy1, zy2⟩⟩ := hSe hb
             have gx : (FloatKind.f64.format.order o.t.x.p r.noise == some .gt) = false := (zx1.gtt hN).trans (decide_eq_false (by omega))
             have gy : (FloatKind.f64.format.order o.t.y.p r.noise == some .gt) = false := (zy1.gtt hN).trans (decide_eq_false (by omega))
             first | (refine RL_want rfl rfl ?_; refine L_not rfl rfl ?_) | refine RL_skip rfl rfl rfl rfl ?_ | refine RL_skipU rfl rfl rfl ?_
             first | refine L_pick_t rfl rfl rfl ?_ | refine L_pick_f rfl rfl rfl ?_
             refine L_move rfl rfl ?_
             first | (refine RL_want rfl rfl ?_; refine L_fieldAddr rfl (off := 12) Try.underlying49 rfl rfl Try.ti47 rfl ?_) | refine RL_skip rfl rfl rfl rfl ?_ | refine RL_skipU rfl rfl rfl ?_
             first | (refine RL_want rfl rfl ?_; refine L_load rfl Try.one47 rfl (by exact hs.cellA (i := 0) (j := 12) rfl rfl) ?_) | refine RL_skip rfl rfl rfl rfl ?_ | refine RL_skipU rfl rfl rfl ?_
             first | (refine RL_want rfl rfl ?_; refine RL_val rfl (R_ibits (by simp) rfl rfl (andOne o.t.seen hse6)) ?_) | refine RL_skip rfl rfl rfl rfl ?_ | refine RL_skipU rfl rfl rfl ?_
             first | (refine RL_want rfl rfl ?_; (first | refine L_eql rfl rfl rfl (dtrue (by omega)) ?_ | refine L_eql rfl rfl rfl (dfalse (by omega)) ?_ | refine L_eql rfl rfl rfl rfl ?_)) | refine RL_skip rfl rfl rfl rfl ?_ | refine RL_skipU rfl rfl rfl ?_
             first | (refine RL_want rfl rfl ?_; refine L_move rfl rfl ?_) | refine RL_skip rfl rfl rfl rfl ?_ | refine RL_skipU rfl rfl rfl ?_
             first | (refine RL_want rfl rfl ?_; refine L_fieldAddr rfl (off := 0) Try.underlying49 rfl rfl Try.ti3 rfl ?_) | refine RL_skip rfl rfl rfl rfl ?_ | refine RL_skipU rfl rfl rfl ?_
             first | (refine RL_want rfl rfl ?_; refine L_load rfl Try.one3 rfl (by exact hs.cellA (i := 0) (j := 0) rfl rfl) ?_) | refine RL_skip rfl rfl rfl rfl ?_ | refine RL_skipU rfl rfl rfl ?_
             first | (refine RL_want rfl rfl ?_; refine L_look1 (k := o.t.id) (ev := Value.int .i64) (z := .int .i64 0) rfl K3 Try.underlying43 Try.ti3 (hs.has _ hm33) rfl rfl ?_; rw [hlq]) | refine RL_skip rfl rfl rfl rfl ?_ | refine RL_skipU rfl rfl rfl ?_
             first | (refine RL_want rfl rfl ?_; (first | refine L_eql rfl rfl rfl (dtrue (by omega)) ?_ | refine L_eql rfl rfl rfl (dfalse (by omega)) ?_ | refine L_eql rfl rfl rfl rfl ?_)) | refine RL_skip rfl rfl rfl rfl ?_ | refine RL_skipU rfl rfl rfl ?_
             first | (refine RL_want rfl rfl ?_; refine RL_val rfl (R_bneq Try.underlying4 rfl rfl) ?_) | refine RL_skip rfl rfl rfl rfl ?_ | refine RL_skipU rfl rfl rfl ?_
             first | refine L_pick_t rfl rfl rfl ?_ | refine L_pick_f rfl rfl rfl ?_
             refine RL_then ?_
             refine W_if_false rfl ?_
             by_cases hst1 : o.t.steps = 1
             ·
              have hnew1 := hSt hst1
              refine W_skip' ?_
              refine Nx_then ?_
              refine W_seq ?_
              refine W_seq ?_
              refine W_region ?_
              refine L_fieldAddr rfl (off := 12) Try.underlying49 rfl rfl Try.ti47 rfl ?_
              refine L_load rfl Try.one47 rfl (by exact hs.cellA (i := 0) (j := 12) rfl rfl) ?_
              refine RL_val rfl (R_ibits (by simp) rfl rfl (andOne o.t.seen hse6)) ?_
              first | refine L_eql rfl rfl rfl (dtrue (by omega)) ?_ | refine L_eql rfl rfl rfl (dfalse (by omega)) ?_ | refine L_eql rfl rfl rfl rfl ?_
              refine L_move rfl rfl ?_
              first | (refine RL_want rfl rfl ?_; refine L_fieldAddr rfl (off := 2) Try.underlying49 rfl rfl Try.ti46 rfl ?_) | refine RL_skip rfl rfl rfl rfl ?_ | refine RL_skipU rfl rfl rfl ?_
              first | (refine RL_want rfl rfl ?_; refine L_fieldAddr rfl (off := 2) Try.underlying46 rfl rfl Try.ti23 rfl ?_) | refine RL_skip rfl rfl rfl rfl ?_ | refine RL_skipU rfl rfl rfl ?_
              first | (refine RL_want rfl rfl ?_; refine L_load rfl Try.one23 rfl (by (rw [add_add]; exact hs.cellA (i := 0) (j := 4) rfl rfl)) ?_) | refine RL_skip rfl rfl rfl rfl ?_ | refine RL_skipU rfl rfl rfl ?_
              first | (refine RL_want rfl rfl ?_; refine L_fieldAddr rfl (off := 0) Try.underlying25 rfl rfl Try.ti23 rfl ?_) | refine RL_skip rfl rfl rfl rfl ?_ | refine RL_skipU rfl rfl rfl ?_
              first | (refine RL_want rfl rfl ?_; refine L_load rfl Try.one23 rfl (by exact cellAM hs hr33 (j := 0) rfl) ?_) | refine RL_skip rfl rfl rfl rfl ?_ | refine RL_skipU rfl rfl rfl ?_
              first | (refine RL_want rfl rfl ?_; refine L_fcmp rfl rfl rfl (fun _ => by rw [binOp_float_cmp_gtr, gx]; rfl) ?_) | refine RL_skip rfl rfl rfl rfl ?_ | refine RL_skipU rfl rfl rfl ?_
              first | (refine RL_want rfl rfl ?_; refine L_move rfl rfl ?_) | refine RL_skip rfl rfl rfl rfl ?_ | refine RL_skipU rfl rfl rfl ?_
              first | (refine RL_want rfl rfl ?_; refine L_fieldAddr rfl (off := 7) Try.underlying49 rfl rfl Try.ti46 rfl ?_) | refine RL_skip rfl rfl rfl rfl ?_ | refine RL_skipU rfl rfl rfl ?_
              first | (refine RL_want rfl rfl ?_; refine L_fieldAddr rfl (off := 2) Try.underlying46 rfl rfl Try.ti23 rfl ?_) | refine RL_skip rfl rfl rfl rfl ?_ | refine RL_skipU rfl rfl rfl ?_
              first | (refine RL_want rfl rfl ?_; refine L_load rfl Try.one23 rfl (by (rw [add_add]; exact hs.cellA (i := 0) (j := 9) rfl rfl)) ?_) | refine RL_skip rfl rfl rfl rfl ?_ | refine RL_skipU rfl rfl rfl ?_
              first | (refine RL_want rfl rfl ?_; refine L_fieldAddr rfl (off := 0) Try.underlying25 rfl rfl Try.ti23 rfl ?_) | refine RL_skip rfl rfl rfl rfl ?_ | refine RL_skipU rfl rfl rfl ?_
              first | (refine RL_want rfl rfl ?_; refine L_load rfl Try.one23 rfl (by exact cellAM hs hr33 (j := 0) rfl) ?_) | refine RL_skip rfl rfl rfl rfl ?_ | refine RL_skipU rfl rfl rfl ?_
              first | (refine RL_want rfl rfl ?_; refine L_fcmp rfl rfl rfl (fun _ => by rw [binOp_float_cmp_gtr, gy]; rfl) ?_) | refine RL_skip rfl rfl rfl rfl ?_ | refine RL_skipU rfl rfl rfl ?_
              first | (refine RL_want rfl rfl ?_; (first | refine L_pick_t rfl rfl rfl ?_ | refine L_pick_f rfl rfl rfl ?_)) | refine RL_skip rfl rfl rfl rfl ?_ | refine RL_skipU rfl rfl rfl ?_
              first | refine L_pick_t rfl rfl rfl ?_ | refine L_pick_f rfl rfl rfl ?_
              refine L_move rfl rfl ?_
              first | (refine RL_want rfl rfl ?_; refine L_fieldAddr rfl (off := 13) Try.underlying49 rfl rfl Try.ti3 rfl ?_) | refine RL_skip rfl rfl rfl rfl ?_ | refine RL_skipU rfl rfl rfl ?_
              first | (refine RL_want rfl rfl ?_; refine L_load rfl Try.one3 rfl (by exact hs.cellA (i := 0) (j := 13) rfl rfl) ?_) | refine RL_skip rfl rfl rfl rfl ?_ | refine RL_skipU rfl rfl rfl ?_
              first | (refine RL_want rfl rfl ?_; (first | refine L_eql rfl rfl rfl (dtrue (by omega)) ?_ | refine L_eql rfl rfl rfl (dfalse (by omega)) ?_ | refine L_eql rfl rfl rfl rfl ?_)) | refine RL_skip rfl rfl rfl rfl ?_ | refine RL_skipU rfl rfl rfl ?_
              first | (refine RL_want rfl rfl ?_; refine L_move rfl rfl ?_) | refine RL_skip rfl rfl rfl rfl ?_ | refine RL_skipU rfl rfl rfl ?_
              first | (refine RL_want rfl rfl ?_; refine L_fieldAddr rfl (off := 0) Try.underlying49 rfl rfl Try.ti3 rfl ?_) | refine RL_skip rfl rfl rfl rfl ?_ | refine RL_skipU rfl rfl rfl ?_
              first | (refine RL_want rfl rfl ?_; refine L_load rfl Try.one3 rfl (by exact hs.cellA (i := 0) (j := 0) rfl rfl) ?_) | refine RL_skip rfl rfl rfl rfl ?_ | refine RL_skipU rfl rfl rfl ?_
              first | (refine RL_want rfl rfl ?_; refine L_move rfl rfl ?_) | refine RL_skip rfl rfl rfl rfl ?_ | refine RL_skipU rfl rfl rfl ?_
              first | (refine RL_want rfl rfl ?_; (first | refine L_leq rfl rfl rfl (dtrue (by omega)) ?_ | refine L_leq rfl rfl rfl (dfalse (by omega)) ?_ | refine L_leq rfl rfl rfl rfl ?_)) | refine RL_skip rfl rfl rfl rfl ?_ | refine RL_skipU rfl rfl rfl ?_
              first | (refine RL_want rfl rfl ?_; (first | refine L_pick_t rfl rfl rfl ?_ | refine L_pick_f rfl rfl rfl ?_)) | refine RL_skip rfl rfl rfl rfl ?_ | refine RL_skipU rfl rfl rfl ?_
              first | refine L_pick_t rfl rfl rfl ?_ | refine L_pick_f rfl rfl rfl ?_
              refine RL_then ?_
              refine W_if_false rfl ?_
              refine W_skip' ?_
              refine Nx_then ?_
              refine W_seq ?_
              refine W_region ?_
              refine L_move rfl rfl ?_
              refine L_fieldAddr rfl (off := 0) Try.underlying49 rfl rfl Try.ti3 rfl ?_
              refine L_load rfl Try.one3 rfl (by exact hs.cellA (i := 0) (j := 0) rfl rfl) ?_
              refine RL_val rfl (R_maxI rfl rfl rfl) ?_
              refine L_assign rfl rfl ?_
              refine RL_then ?_
              refine W_seq ?_
              refine W_region ?_
              refine L_move rfl rfl ?_
              refine L_fieldAddr rfl (off := 0) Try.underlying49 rfl rfl Try.ti3 rfl ?_
              refine L_load rfl Try.one3 rfl (by exact hs.cellA (i := 0) (j := 0) rfl rfl) ?_
              obtain ⟨X4, hX4⟩ : ∃ X4, X4 = (b33, Row 49 o.t.cells) :: L3 := ⟨_, rfl⟩
              have hX4o : Own w0 X4 := by rw [hX4]; exact Own.cons hb33 hL3o
              have h33 : (b33, Row 49 o.t.cells) ∈ X4 := by rw [hX4]; exact List.mem_cons_self ..
              have hs1 : HS w0 w12 (k'.bks ++ X4) := by rw [hX4]; exact HS.re hs (fun c => by simp only [List.map_append, List.map_cons, List.map_nil, List.sum_append, List.sum_cons, List.sum_nil]; omega)
              have hP := past_some w0 w12 (j + 1) k' X4 o hs1 hk' ho hX4o (by omega)
              rw [hk'B] at hP
              refine L_call rfl Try.fun16 rfl (hP) ?_
              rintro _ w13 ⟨vx, Mx, vy, My, rfl, hs2, hbx, hby⟩
              clear hs hs1 hP
              obtain ⟨ax, cx, rfl, _⟩ := hbx.slice
              obtain ⟨ay, cy, rfl, _⟩ := hby.slice
              have hxl := hTo.xs
              have hyl := hTo.ys
              have hs1w := hTo.steps
              obtain ⟨Y, hY⟩ : ∃ Y, Y = k'.bks ++ X4 ++ (Mx ++ My) := ⟨_, rfl⟩
              have hYo : Own w0 Y := by rw [hY]; exact (hk'.own.app hX4o).app (hbx.own.app hby.own)
              have hs : HS w0 w13 Y := by rw [hY]; exact hs2
              clear hs2
              have h33Y : (b33, Row 49 o.t.cells) ∈ Y := by rw [hY]; exact List.mem_append_left _ (List.mem_append_right _ h33)
              have hMxY : ∀ p ∈ Mx, p ∈ Y := fun p hp => by rw [hY]; exact List.mem_append_right _ (List.mem_append_left _ hp)
              have hMyY : ∀ p ∈ My, p ∈ Y := fun p hp => by rw [hY]; exact List.mem_append_right _ (List.mem_append_right _ hp)
              have haox : ax = some (aD ax) := (Bl.slcM hbx hs hMxY).ao (by rw [scs_len]; omega)
              have haoy : ay = some (aD ay) := (Bl.slcM hby hs hMyY).ao (by rw [scs_len]; omega)
              refine L_move rfl rfl ?_
              refine L_extract rfl rfl rfl ?_
              refine L_extract rfl rfl rfl ?_
              refine L_assign rfl rfl ?_
              refine L_assign rfl rfl ?_
              refine RL_then ?_
              refine W_seq ?_
              refine W_sg Try.mixed ?_
              replace hs := hs.drewN 1
              refine SG_stageB [0, 1, 2] [3, 4, 5, 6, 7, 8, 9, 10, 11, 12, 13, 14, 15, 16, 17, 18, 19, 20, 21, 22, 23, 24, 25, 26, 27, 28, 29, 30, 31, 32, 33, 34, 35, 36] [] (noBk SPT) (g' := 0) (by kernel_rfl) (by kernel_rfl) (fun _ _ _ _ _ h => h) hs ?_
              refine PL_val rfl (fun w => R_move rfl) ?_
              refine PL_val rfl (fun w => R_len Try.underlying52 rfl) ?_
              refine PL_val rfl (fun w => R_fieldAddr (off := 13) Try.underlying49 rfl rfl Try.ti3 rfl) ?_
              refine PL_endB ?_
              refine HB_val rfl (fun w R hR hs => R_load Try.one3 rfl (by exact cellAM hs (List.mem_append_left _ h33Y) (j := 13) rfl)) ?_
              refine HB_val rfl (fun w R hR hs => R_minI rfl rfl (if_neg (by omega))) ?_
              first | refine HB_val rfl (fun w R hR hs => R_neq rfl rfl (dtrue (by omega))) ?_ | refine HB_val rfl (fun w R hR hs => R_neq rfl rfl (dfalse (by omega))) ?_ | refine HB_val rfl (fun w R hR hs => R_neq rfl rfl rfl) ?_
              refine HB_val rfl (fun w R hR hs => R_move rfl) ?_
              first | (refine HB_want rfl rfl ?_; refine HB_val rfl (fun w R hR hs => R_move rfl) ?_) | refine HB_skip rfl rfl rfl rfl ?_
              first | (refine HB_want rfl rfl ?_; refine HB_val rfl (fun w R hR hs => R_len Try.underlying52 rfl) ?_) | refine HB_skip rfl rfl rfl rfl ?_
              first | (refine HB_want rfl rfl ?_; refine HB_val rfl (fun w R hR hs => R_move rfl) ?_) | refine HB_skip rfl rfl rfl rfl ?_
              first | (refine HB_want rfl rfl ?_; refine HB_val rfl (fun w R hR hs => R_len Try.underlying52 rfl) ?_) | refine HB_skip rfl rfl rfl rfl ?_
              first | (refine HB_want rfl rfl ?_; (first | refine HB_val rfl (fun w R hR hs => R_neq rfl rfl (dtrue (by omega))) ?_ | refine HB_val rfl (fun w R hR hs => R_neq rfl rfl (dfalse (by omega))) ?_ | refine HB_val rfl (fun w R hR hs => R_neq rfl rfl rfl) ?_)) | refine HB_skip rfl rfl rfl rfl ?_
              first | refine HB_val rfl (fun w R hR hs => R_pick_t rfl rfl) ?_ | refine HB_val rfl (fun w R hR hs => R_pick_f rfl rfl) ?_
              refine HB_val rfl (fun w R hR hs => R_move rfl) ?_
              first | (refine HB_want rfl rfl ?_; refine HB_val rfl (fun w R hR hs => R_move rfl) ?_) | refine HB_skip rfl rfl rfl rfl ?_
              first | (refine HB_want rfl rfl ?_; refine HB_val rfl (fun w R hR hs => R_move rfl) ?_) | refine HB_skip rfl rfl rfl rfl ?_
              first | (refine HB_want rfl rfl ?_; refine HB_val rfl (fun w R hR hs => R_len Try.underlying52 rfl) ?_) | refine HB_skip rfl rfl rfl rfl ?_
              first | (refine HB_want rfl rfl ?_; (first | refine HB_val rfl (fun w R hR hs => R_sub rfl rfl (wrp_i64 (by omega))) ?_ | refine HB_val rfl (fun w R hR hs => R_sub rfl rfl rfl) ?_)) | refine HB_skip rfl rfl rfl rfl ?_
              first | (refine HB_want rfl rfl ?_; refine HB_val rfl (fun w R hR hs => R_idxN Try.underlying52 Try.ti46 rfl rfl (show ((o.xs.length : Int) - 1) = ((o.xs.length - 1 : Nat) : Int) by omega) (by omega) haox) ?_) | refine HB_skip rfl rfl rfl rfl ?_
              first | (refine HB_want rfl rfl ?_; refine HB_val rfl (fun w R hR hs => R_loadA Try.agg46 Try.ti46 rfl (by exact stt_last (Bl.slcM hbx hs (fun p hp => List.mem_append_left _ (hMxY p hp))) hTo.lx (by omega))) ?_) | refine HB_skip rfl rfl rfl rfl ?_
              first | (refine HB_want rfl rfl ?_; refine HB_val rfl (fun w R hR hs => R_fieldAddr (off := 2) Try.underlying49 rfl rfl Try.ti46 rfl) ?_) | refine HB_skip rfl rfl rfl rfl ?_
              first | (refine HB_want rfl rfl ?_; refine HB_val rfl (fun w R hR hs => R_loadA Try.agg46 Try.ti46 rfl (by exact cellsAt_part (n := 5) (cs := o.t.x.cells) (hs.has _ (List.mem_append_left _ h33Y)) rfl)) ?_) | refine HB_skip rfl rfl rfl rfl ?_
              refine HB_want rfl rfl ?_
              refine HB_callH rfl Try.fun17 rfl (fun w R hR hs => sameSH hs o.t.x) ?_
              rintro _ hd
              obtain rfl := hd
              first | (refine HB_want rfl rfl ?_; refine HB_val rfl (fun w R hR hs => R_not rfl) ?_) | refine HB_skip rfl rfl rfl rfl ?_
              first | refine HB_val rfl (fun w R hR hs => R_pick_t rfl rfl) ?_ | refine HB_val rfl (fun w R hR hs => R_pick_f rfl rfl) ?_
              refine HB_val rfl (fun w R hR hs => R_move rfl) ?_
              first | (refine HB_want rfl rfl ?_; refine HB_val rfl (fun w R hR hs => R_move rfl) ?_) | refine HB_skip rfl rfl rfl rfl ?_
              first | (refine HB_want rfl rfl ?_; refine HB_val rfl (fun w R hR hs => R_move rfl) ?_) | refine HB_skip rfl rfl rfl rfl ?_
              first | (refine HB_want rfl rfl ?_; refine HB_val rfl (fun w R hR hs => R_len Try.underlying52 rfl) ?_) | refine HB_skip rfl rfl rfl rfl ?_
              first | (refine HB_want rfl rfl ?_; (first | refine HB_val rfl (fun w R hR hs => R_sub rfl rfl (wrp_i64 (by omega))) ?_ | refine HB_val rfl (fun w R hR hs => R_sub rfl rfl rfl) ?_)) | refine HB_skip rfl rfl rfl rfl ?_
              first | (refine HB_want rfl rfl ?_; refine HB_val rfl (fun w R hR hs => R_idxN Try.underlying52 Try.ti46 rfl rfl (show ((o.ys.length : Int) - 1) = ((o.ys.length - 1 : Nat) : Int) by omega) (by omega) haoy) ?_) | refine HB_skip rfl rfl rfl rfl ?_
              first | (refine HB_want rfl rfl ?_; refine HB_val rfl (fun w R hR hs => R_loadA Try.agg46 Try.ti46 rfl (by exact stt_last (Bl.slcM hby hs (fun p hp => List.mem_append_left _ (hMyY p hp))) hTo.ly (by omega))) ?_) | refine HB_skip rfl rfl rfl rfl ?_
              first | (refine HB_want rfl rfl ?_; refine HB_val rfl (fun w R hR hs => R_fieldAddr (off := 7) Try.underlying49 rfl rfl Try.ti46 rfl) ?_) | refine HB_skip rfl rfl rfl rfl ?_
              first | (refine HB_want rfl rfl ?_; refine HB_val rfl (fun w R hR hs => R_loadA Try.agg46 Try.ti46 rfl (by exact cellsAt_part (n := 5) (cs := o.t.y.cells) (hs.has _ (List.mem_append_left _ h33Y)) rfl)) ?_) | refine HB_skip rfl rfl rfl rfl ?_
              refine HB_want rfl rfl ?_
              refine HB_callH rfl Try.fun17 rfl (fun w R hR hs => sameSH hs o.t.y) ?_
              rintro _ hd
              obtain rfl := hd
              first | (refine HB_want rfl rfl ?_; refine HB_val rfl (fun w R hR hs => R_not rfl) ?_) | refine HB_skip rfl rfl rfl rfl ?_
              first | refine HB_val rfl (fun w R hR hs => R_pick_t rfl rfl) ?_ | refine HB_val rfl (fun w R hR hs => R_pick_f rfl rfl) ?_
              refine HB_tail ?_
              intro w hs
              refine RL_sg ?_
              refine SG_end (by kernel_rfl) ?_
              refine Nx_then ?_
              refine W_if_false rfl ?_
              refine W_skip' ?_
              refine Nx_block ?_
              refine Nx_then ?_
              refine W_region ?_
              first | refine L_add rfl rfl rfl (wrp_i64 (by omega)) ?_ | refine L_add rfl rfl rfl rfl ?_
              refine L_move rfl rfl ?_
              refine RL_nil' ?_
              have hsE : ∀ {w' : World}, HS w0 w' Y → HS w0 w' (k'.bks ++ L3) := fun {w'} h => by
               rw [hY, hX4] at h
               have h1 : HS w0 w' (((b33, Row 49 o.t.cells) :: (Mx ++ My)) ++ (k'.bks ++ L3)) := HS.re h (fun c => by simp only [List.map_append, List.map_cons, List.map_nil, List.sum_append, List.sum_cons, List.sum_nil]; omega)
               exact HS.dropL h1 (Own.cons hb33 (hbx.own.app hby.own))
              refine Nx_loopP ((if o.t.id > hgh then o.t.id else hgh), i + 1, _) (is := [15, 16, 21, 22, 28, 31, 91, 92, 93, 147, 148, 149]) (I' := (fun (hgh : Int) (i : Nat) (w : World) => (i ≤ nt) ∧ (0 ≤ hgh ∧ hgh < k'.next) ∧ (HS w0 w (k'.bks ++ L3))) ((if o.t.id > hgh then o.t.id else hgh)) (i + 1) (_)) rfl rfl rfl ?_ ?_
              ·
               exact ⟨by omega, by split <;> omega, hsE (by rw [List.append_nil] at hs; exact hs)⟩
              ·
               show nt - (i + 1) < nt - i; omega
             ·
              skip
              refine W_skip' ?_
              refine Nx_then ?_
              refine W_seq ?_
              refine W_seq ?_
              refine W_region ?_
              refine L_fieldAddr rfl (off := 12) Try.underlying49 rfl rfl Try.ti47 rfl ?_
              refine L_load rfl Try.one47 rfl (by exact hs.cellA (i := 0) (j := 12) rfl rfl) ?_
              refine RL_val rfl (R_ibits (by simp) rfl rfl (andOne o.t.seen hse6)) ?_
              first | refine L_eql rfl rfl rfl (dtrue (by omega)) ?_ | refine L_eql rfl rfl rfl (dfalse (by omega)) ?_ | refine L_eql rfl rfl rfl rfl ?_
              refine L_move rfl rfl ?_
              first | (refine RL_want rfl rfl ?_; refine L_fieldAddr rfl (off := 2) Try.underlying49 rfl rfl Try.ti46 rfl ?_) | refine RL_skip rfl rfl rfl rfl ?_ | refine RL_skipU rfl rfl rfl ?_
              first | (refine RL_want rfl rfl ?_; refine L_fieldAddr rfl (off := 2) Try.underlying46 rfl rfl Try.ti23 rfl ?_) | refine RL_skip rfl rfl rfl rfl ?_ | refine RL_skipU rfl rfl rfl ?_
              first | (refine RL_want rfl rfl ?_; refine L_load rfl Try.one23 rfl (by (rw [add_add]; exact hs.cellA (i := 0) (j := 4) rfl rfl)) ?_) | refine RL_skip rfl rfl rfl rfl ?_ | refine RL_skipU rfl rfl rfl ?_
              first | (refine RL_want rfl rfl ?_; refine L_fieldAddr rfl (off := 0) Try.underlying25 rfl rfl Try.ti23 rfl ?_) | refine RL_skip rfl rfl rfl rfl ?_ | refine RL_skipU rfl rfl rfl ?_
              first | (refine RL_want rfl rfl ?_; refine L_load rfl Try.one23 rfl (by exact cellAM hs hr33 (j := 0) rfl) ?_) | refine RL_skip rfl rfl rfl rfl ?_ | refine RL_skipU rfl rfl rfl ?_
              first | (refine RL_want rfl rfl ?_; refine L_fcmp rfl rfl rfl (fun _ => by rw [binOp_float_cmp_gtr, gx]; rfl) ?_) | refine RL_skip rfl rfl rfl rfl ?_ | refine RL_skipU rfl rfl rfl ?_
              first | (refine RL_want rfl rfl ?_; refine L_move rfl rfl ?_) | refine RL_skip rfl rfl rfl rfl ?_ | refine RL_skipU rfl rfl rfl ?_
              first | (refine RL_want rfl rfl ?_; refine L_fieldAddr rfl (off := 7) Try.underlying49 rfl rfl Try.ti46 rfl ?_) | refine RL_skip rfl rfl rfl rfl ?_ | refine RL_skipU rfl rfl rfl ?_
              first | (refine RL_want rfl rfl ?_; refine L_fieldAddr rfl (off := 2) Try.underlying46 rfl rfl Try.ti23 rfl ?_) | refine RL_skip rfl rfl rfl rfl ?_ | refine RL_skipU rfl rfl rfl ?_
              first | (refine RL_want rfl rfl ?_; refine L_load rfl Try.one23 rfl (by (rw [add_add]; exact hs.cellA (i := 0) (j := 9) rfl rfl)) ?_) | refine RL_skip rfl rfl rfl rfl ?_ | refine RL_skipU rfl rfl rfl ?_
              first | (refine RL_want rfl rfl ?_; refine L_fieldAddr rfl (off := 0) Try.underlying25 rfl rfl Try.ti23 rfl ?_) | refine RL_skip rfl rfl rfl rfl ?_ | refine RL_skipU rfl rfl rfl ?_
              first | (refine RL_want rfl rfl ?_; refine L_load rfl Try.one23 rfl (by exact cellAM hs hr33 (j := 0) rfl) ?_) | refine RL_skip rfl rfl rfl rfl ?_ | refine RL_skipU rfl rfl rfl ?_
              first | (refine RL_want rfl rfl ?_; refine L_fcmp rfl rfl rfl (fun _ => by rw [binOp_float_cmp_gtr, gy]; rfl) ?_) | refine RL_skip rfl rfl rfl rfl ?_ | refine RL_skipU rfl rfl rfl ?_
              first | (refine RL_want rfl rfl ?_; (first | refine L_pick_t rfl rfl rfl ?_ | refine L_pick_f rfl rfl rfl ?_)) | refine RL_skip rfl rfl rfl rfl ?_ | refine RL_skipU rfl rfl rfl ?_
              first | refine L_pick_t rfl rfl rfl ?_ | refine L_pick_f rfl rfl rfl ?_
              refine L_move rfl rfl ?_
              first | (refine RL_want rfl rfl ?_; refine L_fieldAddr rfl (off := 13) Try.underlying49 rfl rfl Try.ti3 rfl ?_) | refine RL_skip rfl rfl rfl rfl ?_ | refine RL_skipU rfl rfl rfl ?_
              first | (refine RL_want rfl rfl ?_; refine L_load rfl Try.one3 rfl (by exact hs.cellA (i := 0) (j := 13) rfl rfl) ?_) | refine RL_skip rfl rfl rfl rfl ?_ | refine RL_skipU rfl rfl rfl ?_
              first | (refine RL_want rfl rfl ?_; (first | refine L_eql rfl rfl rfl (dtrue (by omega)) ?_ | refine L_eql rfl rfl rfl (dfalse (by omega)) ?_ | refine L_eql rfl rfl rfl rfl ?_)) | refine RL_skip rfl rfl rfl rfl ?_ | refine RL_skipU rfl rfl rfl ?_
              first | (refine RL_want rfl rfl ?_; refine L_move rfl rfl ?_) | refine RL_skip rfl rfl rfl rfl ?_ | refine RL_skipU rfl rfl rfl ?_
              first | (refine RL_want rfl rfl ?_; refine L_fieldAddr rfl (off := 0) Try.underlying49 rfl rfl Try.ti3 rfl ?_) | refine RL_skip rfl rfl rfl rfl ?_ | refine RL_skipU rfl rfl rfl ?_
              first | (refine RL_want rfl rfl ?_; refine L_load rfl Try.one3 rfl (by exact hs.cellA (i := 0) (j := 0) rfl rfl) ?_) | refine RL_skip rfl rfl rfl rfl ?_ | refine RL_skipU rfl rfl rfl ?_
              first | (refine RL_want rfl rfl ?_; refine L_move rfl rfl ?_) | refine RL_skip rfl rfl rfl rfl ?_ | refine RL_skipU rfl rfl rfl ?_
              first | (refine RL_want rfl rfl ?_; (first | refine L_leq rfl rfl rfl (dtrue (by omega)) ?_ | refine L_leq rfl rfl rfl (dfalse (by omega)) ?_ | refine L_leq rfl rfl rfl rfl ?_)) | refine RL_skip rfl rfl rfl rfl ?_ | refine RL_skipU rfl rfl rfl ?_
              first | (refine RL_want rfl rfl ?_; (first | refine L_pick_t rfl rfl rfl ?_ | refine L_pick_f rfl rfl rfl ?_)) | refine RL_skip rfl rfl rfl rfl ?_ | refine RL_skipU rfl rfl rfl ?_
              first | refine L_pick_t rfl rfl rfl ?_ | refine L_pick_f rfl rfl rfl ?_
              refine RL_then ?_
              refine W_if_false rfl ?_
              refine W_skip' ?_
              refine Nx_then ?_
              refine W_seq ?_
              refine W_region ?_
              refine L_move rfl rfl ?_
              refine L_fieldAddr rfl (off := 0) Try.underlying49 rfl rfl Try.ti3 rfl ?_
              refine L_load rfl Try.one3 rfl (by exact hs.cellA (i := 0) (j := 0) rfl rfl) ?_
              refine RL_val rfl (R_maxI rfl rfl rfl) ?_
              refine L_assign rfl rfl ?_
              refine RL_then ?_
              refine W_seq ?_
              refine W_region ?_
              refine L_move rfl rfl ?_
              refine L_fieldAddr rfl (off := 0) Try.underlying49 rfl rfl Try.ti3 rfl ?_
              refine L_load rfl Try.one3 rfl (by exact hs.cellA (i := 0) (j := 0) rfl rfl) ?_
              obtain ⟨X4, hX4⟩ : ∃ X4, X4 = (b33, Row 49 o.t.cells) :: L3 := ⟨_, rfl⟩
              have hX4o : Own w0 X4 := by rw [hX4]; exact Own.cons hb33 hL3o
              have h33 : (b33, Row 49 o.t.cells) ∈ X4 := by rw [hX4]; exact List.mem_cons_self ..
              have hs1 : HS w0 w12 (k'.bks ++ X4) := by rw [hX4]; exact HS.re hs (fun c => by simp only [List.map_append, List.map_cons, List.map_nil, List.sum_append, List.sum_cons, List.sum_nil]; omega)
              have hP := past_some w0 w12 (j + 1) k' X4 o hs1 hk' ho hX4o (by omega)
              rw [hk'B] at hP
              refine L_call rfl Try.fun16 rfl (hP) ?_
              rintro _ w13 ⟨vx, Mx, vy, My, rfl, hs2, hbx, hby⟩
              clear hs hs1 hP
              obtain ⟨ax, cx, rfl, _⟩ := hbx.slice
              obtain ⟨ay, cy, rfl, _⟩ := hby.slice
              have hxl := hTo.xs
              have hyl := hTo.ys
              have hs1w := hTo.steps
              obtain ⟨Y, hY⟩ : ∃ Y, Y = k'.bks ++ X4 ++ (Mx ++ My) := ⟨_, rfl⟩
              have hYo : Own w0 Y := by rw [hY]; exact (hk'.own.app hX4o).app (hbx.own.app hby.own)
              have hs : HS w0 w13 Y := by rw [hY]; exact hs2
              clear hs2
              have h33Y : (b33, Row 49 o.t.cells) ∈ Y := by rw [hY]; exact List.mem_append_left _ (List.mem_append_right _ h33)
              have hMxY : ∀ p ∈ Mx, p ∈ Y := fun p hp => by rw [hY]; exact List.mem_append_right _ (List.mem_append_left _ hp)
              have hMyY : ∀ p ∈ My, p ∈ Y := fun p hp => by rw [hY]; exact List.mem_append_right _ (List.mem_append_right _ hp)
              have haox : ax = some (aD ax) := (Bl.slcM hbx hs hMxY).ao (by rw [scs_len]; omega)
              have haoy : ay = some (aD ay) := (Bl.slcM hby hs hMyY).ao (by rw [scs_len]; omega)
              refine L_move rfl rfl ?_
              refine L_extract rfl rfl rfl ?_
              refine L_extract rfl rfl rfl ?_
              refine L_assign rfl rfl ?_
              refine L_assign rfl rfl ?_
              refine RL_then ?_
              refine W_seq ?_
              refine W_sg Try.mixed ?_
              replace hs := hs.drewN 1
              refine SG_stageB [0, 1, 2] [3, 4, 5, 6, 7, 8, 9, 10, 11, 12, 13, 14, 15, 16, 17, 18, 19, 20, 21, 22, 23, 24, 25, 26, 27, 28, 29, 30, 31, 32, 33, 34, 35, 36] [] (noBk SPT) (g' := 0) (by kernel_rfl) (by kernel_rfl) (fun _ _ _ _ _ h => h) hs ?_
              refine PL_val rfl (fun w => R_move rfl) ?_
              refine PL_val rfl (fun w => R_len Try.underlying52 rfl) ?_
              refine PL_val rfl (fun w => R_fieldAddr (off := 13) Try.underlying49 rfl rfl Try.ti3 rfl) ?_
              refine PL_endB ?_
              refine HB_val rfl (fun w R hR hs => R_load Try.one3 rfl (by exact cellAM hs (List.mem_append_left _ h33Y) (j := 13) rfl)) ?_
              refine HB_val rfl (fun w R hR hs => R_minI rfl rfl (if_neg (by omega))) ?_
              first | refine HB_val rfl (fun w R hR hs => R_neq rfl rfl (dtrue (by omega))) ?_ | refine HB_val rfl (fun w R hR hs => R_neq rfl rfl (dfalse (by omega))) ?_ | refine HB_val rfl (fun w R hR hs => R_neq rfl rfl rfl) ?_
              refine HB_val rfl (fun w R hR hs => R_move rfl) ?_
              first | (refine HB_want rfl rfl ?_; refine HB_val rfl (fun w R hR hs => R_move rfl) ?_) | refine HB_skip rfl rfl rfl rfl ?_
              first | (refine HB_want rfl rfl ?_; refine HB_val rfl (fun w R hR hs => R_len Try.underlying52 rfl) ?_) | refine HB_skip rfl rfl rfl rfl ?_
              first | (refine HB_want rfl rfl ?_; refine HB_val rfl (fun w R hR hs => R_move rfl) ?_) | refine HB_skip rfl rfl rfl rfl ?_
              first | (refine HB_want rfl rfl ?_; refine HB_val rfl (fun w R hR hs => R_len Try.underlying52 rfl) ?_) | refine HB_skip rfl rfl rfl rfl ?_
              first | (refine HB_want rfl rfl ?_; (first | refine HB_val rfl (fun w R hR hs => R_neq rfl rfl (dtrue (by omega))) ?_ | refine HB_val rfl (fun w R hR hs => R_neq rfl rfl (dfalse (by omega))) ?_ | refine HB_val rfl (fun w R hR hs => R_neq rfl rfl rfl) ?_)) | refine HB_skip rfl rfl rfl rfl ?_
              first | refine HB_val rfl (fun w R hR hs => R_pick_t rfl rfl) ?_ | refine HB_val rfl (fun w R hR hs => R_pick_f rfl rfl) ?_
              refine HB_val rfl (fun w R hR hs => R_move rfl) ?_
              first | (refine HB_want rfl rfl ?_; refine HB_val rfl (fun w R hR hs => R_move rfl) ?_) | refine HB_skip rfl rfl rfl rfl ?_
              first | (refine HB_want rfl rfl ?_; refine HB_val rfl (fun w R hR hs => R_move rfl) ?_) | refine HB_skip rfl rfl rfl rfl ?_
              first | (refine HB_want rfl rfl ?_; refine HB_val rfl (fun w R hR hs => R_len Try.underlying52 rfl) ?_) | refine HB_skip rfl rfl rfl rfl ?_
              first | (refine HB_want rfl rfl ?_; (first | refine HB_val rfl (fun w R hR hs => R_sub rfl rfl (wrp_i64 (by omega))) ?_ | refine HB_val rfl (fun w R hR hs => R_sub rfl rfl rfl) ?_)) | refine HB_skip rfl rfl rfl rfl ?_
              first | (refine HB_want rfl rfl ?_; refine HB_val rfl (fun w R hR hs => R_idxN Try.underlying52 Try.ti46 rfl rfl (show ((o.xs.length : Int) - 1) = ((o.xs.length - 1 : Nat) : Int) by omega) (by omega) haox) ?_) | refine HB_skip rfl rfl rfl rfl ?_
              first | (refine HB_want rfl rfl ?_; refine HB_val rfl (fun w R hR hs => R_loadA Try.agg46 Try.ti46 rfl (by exact stt_last (Bl.slcM hbx hs (fun p hp => List.mem_append_left _ (hMxY p hp))) hTo.lx (by omega))) ?_) | refine HB_skip rfl rfl rfl rfl ?_
              first | (refine HB_want rfl rfl ?_; refine HB_val rfl (fun w R hR hs => R_fieldAddr (off := 2) Try.underlying49 rfl rfl Try.ti46 rfl) ?_) | refine HB_skip rfl rfl rfl rfl ?_
              first | (refine HB_want rfl rfl ?_; refine HB_val rfl (fun w R hR hs => R_loadA Try.agg46 Try.ti46 rfl (by exact cellsAt_part (n := 5) (cs := o.t.x.cells) (hs.has _ (List.mem_append_left _ h33Y)) rfl)) ?_) | refine HB_skip rfl rfl rfl rfl ?_
              refine HB_want rfl rfl ?_
              refine HB_callH rfl Try.fun17 rfl (fun w R hR hs => sameSH hs o.t.x) ?_
              rintro _ hd
              obtain rfl := hd
              first | (refine HB_want rfl rfl ?_; refine HB_val rfl (fun w R hR hs => R_not rfl) ?_) | refine HB_skip rfl rfl rfl rfl ?_
              first | refine HB_val rfl (fun w R hR hs => R_pick_t rfl rfl) ?_ | refine HB_val rfl (fun w R hR hs => R_pick_f rfl rfl) ?_
              refine HB_val rfl (fun w R hR hs => R_move rfl) ?_
              first | (refine HB_want rfl rfl ?_; refine HB_val rfl (fun w R hR hs => R_move rfl) ?_) | refine HB_skip rfl rfl rfl rfl ?_
              first | (refine HB_want rfl rfl ?_; refine HB_val rfl (fun w R hR hs => R_move rfl) ?_) | refine HB_skip rfl rfl rfl rfl ?_
              first | (refine HB_want rfl rfl ?_; refine HB_val rfl (fun w R hR hs => R_len Try.underlying52 rfl) ?_) | refine HB_skip rfl rfl rfl rfl ?_
              first | (refine HB_want rfl rfl ?_; (first | refine HB_val rfl (fun w R hR hs => R_sub rfl rfl (wrp_i64 (by omega))) ?_ | refine HB_val rfl (fun w R hR hs => R_sub rfl rfl rfl) ?_)) | refine HB_skip rfl rfl rfl rfl ?_
              first | (refine HB_want rfl rfl ?_; refine HB_val rfl (fun w R hR hs => R_idxN Try.underlying52 Try.ti46 rfl rfl (show ((o.ys.length : Int) - 1) = ((o.ys.length - 1 : Nat) : Int) by omega) (by omega) haoy) ?_) | refine HB_skip rfl rfl rfl rfl ?_
              first | (refine HB_want rfl rfl ?_; refine HB_val rfl (fun w R hR hs => R_loadA Try.agg46 Try.ti46 rfl (by exact stt_last (Bl.slcM hby hs (fun p hp => List.mem_append_left _ (hMyY p hp))) hTo.ly (by omega))) ?_) | refine HB_skip rfl rfl rfl rfl ?_
              first | (refine HB_want rfl rfl ?_; refine HB_val rfl (fun w R hR hs => R_fieldAddr (off := 7) Try.underlying49 rfl rfl Try.ti46 rfl) ?_) | refine HB_skip rfl rfl rfl rfl ?_
              first | (refine HB_want rfl rfl ?_; refine HB_val rfl (fun w R hR hs => R_loadA Try.agg46 Try.ti46 rfl (by exact cellsAt_part (n := 5) (cs := o.t.y.cells) (hs.has _ (List.mem_append_left _ h33Y)) rfl)) ?_) | refine HB_skip rfl rfl rfl rfl ?_
              refine HB_want rfl rfl ?_
              refine HB_callH rfl Try.fun17 rfl (fun w R hR hs => sameSH hs o.t.y) ?_
              rintro _ hd
              obtain rfl := hd
              first | (refine HB_want rfl rfl ?_; refine HB_val rfl (fun w R hR hs => R_not rfl) ?_) | refine HB_skip rfl rfl rfl rfl ?_
              first | refine HB_val rfl (fun w R hR hs => R_pick_t rfl rfl) ?_ | refine HB_val rfl (fun w R hR hs => R_pick_f rfl rfl) ?_
              refine HB_tail ?_
              intro w hs
              refine RL_sg ?_
              refine SG_end (by kernel_rfl) ?_
              refine Nx_then ?_
              refine W_if_false rfl ?_
              refine W_skip' ?_
              refine Nx_block ?_
              refine Nx_then ?_
              refine W_region ?_
              first | refine L_add rfl rfl rfl (wrp_i64 (by omega)) ?_ | refine L_add rfl rfl rfl rfl ?_
              refine L_move rfl rfl ?_
              refine RL_nil' ?_
              have hsE : ∀ {w' : World}, HS w0 w' Y → HS w0 w' (k'.bks ++ L3) := fun {w'} h => by
               rw [hY, hX4] at h
               have h1 : HS w0 w' (((b33, Row 49 o.t.cells) :: (Mx ++ My)) ++ (k'.bks ++ L3)) := HS.re h (fun c => by simp only [List.map_append, List.map_cons, List.map_nil, List.sum_append, List.sum_cons, List.sum_nil]; omega)
               exact HS.dropL h1 (Own.cons hb33 (hbx.own.app hby.own))
              refine Nx_loopP ((if o.t.id > hgh then o.t.id else hgh), i + 1, _) (is := [15, 16, 21, 22, 28, 31, 91, 92, 93, 147, 148, 149]) (I' := (fun (hgh : Int) (i : Nat) (w : World) => (i ≤ nt) ∧ (0 ≤ hgh ∧ hgh < k'.next) ∧ (HS w0 w (k'.bks ++ L3))) ((if o.t.id > hgh then o.t.id else hgh)) (i + 1) (_)) rfl rfl rfl ?_ ?_
              ·
               exact ⟨by omega, by split <;> omega, hsE (by rw [List.append_nil] at hs; exact hs)⟩
              ·
               show nt - (i + 1) < nt - i; omega
            ·
             skip
             first | (refine RL_want rfl rfl ?_; refine L_not rfl rfl ?_) | refine RL_skip rfl rfl rfl rfl ?_ | refine RL_skipU rfl rfl rfl ?_
             first | refine L_pick_t rfl rfl rfl ?_ | refine L_pick_f rfl rfl rfl ?_
             refine L_move rfl rfl ?_
             first | (refine RL_want rfl rfl ?_; refine L_fieldAddr rfl (off := 12) Try.underlying49 rfl rfl Try.ti47 rfl ?_) | refine RL_skip rfl rfl rfl rfl ?_ | refine RL_skipU rfl rfl rfl ?_
             first | (refine RL_want rfl rfl ?_; refine L_load rfl Try.one47 rfl (by exact hs.cellA (i := 0) (j := 12) rfl rfl) ?_) | refine RL_skip rfl rfl rfl rfl ?_ | refine RL_skipU rfl rfl rfl ?_
             first | (refine RL_want rfl rfl ?_; refine RL_val rfl (R_ibits (by simp) rfl rfl (andOne o.t.seen hse6)) ?_) | refine RL_skip rfl rfl rfl rfl ?_ | refine RL_skipU rfl rfl rfl ?_
             first | (refine RL_want rfl rfl ?_; (first | refine L_eql rfl rfl rfl (dtrue (by omega)) ?_ | refine L_eql rfl rfl rfl (dfalse (by omega)) ?_ | refine L_eql rfl rfl rfl rfl ?_)) | refine RL_skip rfl rfl rfl rfl ?_ | refine RL_skipU rfl rfl rfl ?_
             first | (refine RL_want rfl rfl ?_; refine L_move rfl rfl ?_) | refine RL_skip rfl rfl rfl rfl ?_ | refine RL_skipU rfl rfl rfl ?_
             first | (refine RL_want rfl rfl ?_; refine L_fieldAddr rfl (off := 0) Try.underlying49 rfl rfl Try.ti3 rfl ?_) | refine RL_skip rfl rfl rfl rfl ?_ | refine RL_skipU rfl rfl rfl ?_
             first | (refine RL_want rfl rfl ?_; refine L_load rfl Try.one3 rfl (by exact hs.cellA (i := 0) (j := 0) rfl rfl) ?_) | refine RL_skip rfl rfl rfl rfl ?_ | refine RL_skipU rfl rfl rfl ?_
             first | (refine RL_want rfl rfl ?_; refine L_look1 (k := o.t.id) (ev := Value.int .i64) (z := .int .i64 0) rfl K3 Try.underlying43 Try.ti3 (hs.has _ hm33) rfl rfl ?_; rw [hlq]) | refine RL_skip rfl rfl rfl rfl ?_ | refine RL_skipU rfl rfl rfl ?_
             first | (refine RL_want rfl rfl ?_; (first | refine L_eql rfl rfl rfl (dtrue (by omega)) ?_ | refine L_eql rfl rfl rfl (dfalse (by omega)) ?_ | refine L_eql rfl rfl rfl rfl ?_)) | refine RL_skip rfl rfl rfl rfl ?_ | refine RL_skipU rfl rfl rfl ?_
             first | (refine RL_want rfl rfl ?_; refine RL_val rfl (R_bneq Try.underlying4 rfl rfl) ?_) | refine RL_skip rfl rfl rfl rfl ?_ | refine RL_skipU rfl rfl rfl ?_
             first | refine L_pick_t rfl rfl rfl ?_ | refine L_pick_f rfl rfl rfl ?_
             refine RL_then ?_
             refine W_if_false rfl ?_
             by_cases hst1 : o.t.steps = 1
             ·
              have hnew1 := hSt hst1
              refine W_skip' ?_
              refine Nx_then ?_
              refine W_seq ?_
              refine W_seq ?_
              refine W_region ?_
              refine L_fieldAddr rfl (off := 12) Try.underlying49 rfl rfl Try.ti47 rfl ?_
              refine L_load rfl Try.one47 rfl (by exact hs.cellA (i := 0) (j := 12) rfl rfl) ?_
              refine RL_val rfl (R_ibits (by simp) rfl rfl (andOne o.t.seen hse6)) ?_
              first | refine L_eql rfl rfl rfl (dtrue (by omega)) ?_ | refine L_eql rfl rfl rfl (dfalse (by omega)) ?_ | refine L_eql rfl rfl rfl rfl ?_
              refine L_move rfl rfl ?_
              first | (refine RL_want rfl rfl ?_; refine L_fieldAddr rfl (off := 2) Try.underlying49 rfl rfl Try.ti46 rfl ?_) | refine RL_skip rfl rfl rfl rfl ?_ | refine RL_skipU rfl rfl rfl ?_
              first | (refine RL_want rfl rfl ?_; refine L_fieldAddr rfl (off := 2) Try.underlying46 rfl rfl Try.ti23 rfl ?_) | refine RL_skip rfl rfl rfl rfl ?_ | refine RL_skipU rfl rfl rfl ?_
              first | (refine RL_want rfl rfl ?_; refine L_load rfl Try.one23 rfl (by (rw [add_add]; exact hs.cellA (i := 0) (j := 4) rfl rfl)) ?_) | refine RL_skip rfl rfl rfl rfl ?_ | refine RL_skipU rfl rfl rfl ?_
              first | (refine RL_want rfl rfl ?_; refine L_fieldAddr rfl (off := 0) Try.underlying25 rfl rfl Try.ti23 rfl ?_) | refine RL_skip rfl rfl rfl rfl ?_ | refine RL_skipU rfl rfl rfl ?_
              first | (refine RL_want rfl rfl ?_; refine L_load rfl Try.one23 rfl (by exact cellAM hs hr33 (j := 0) rfl) ?_) | refine RL_skip rfl rfl rfl rfl ?_ | refine RL_skipU rfl rfl rfl ?_
              first | (refine RL_want rfl rfl ?_; refine L_fcmp rfl rfl rfl (fun _ => by rw [binOp_float_cmp_gtr, gx]; rfl) ?_) | refine RL_skip rfl rfl rfl rfl ?_ | refine RL_skipU rfl rfl rfl ?_
              first | (refine RL_want rfl rfl ?_; refine L_move rfl rfl ?_) | refine RL_skip rfl rfl rfl rfl ?_ | refine RL_skipU rfl rfl rfl ?_
              first | (refine RL_want rfl rfl ?_; refine L_fieldAddr rfl (off := 7) Try.underlying49 rfl rfl Try.ti46 rfl ?_) | refine RL_skip rfl rfl rfl rfl ?_ | refine RL_skipU rfl rfl rfl ?_
              first | (refine RL_want rfl rfl ?_; refine L_fieldAddr rfl (off := 2) Try.underlying46 rfl rfl Try.ti23 rfl ?_) | refine RL_skip rfl rfl rfl rfl ?_ | refine RL_skipU rfl rfl rfl ?_
              first | (refine RL_want rfl rfl ?_; refine L_load rfl Try.one23 rfl (by (rw [add_add]; exact hs.cellA (i := 0) (j := 9) rfl rfl)) ?_) | refine RL_skip rfl rfl rfl rfl ?_ | refine RL_skipU rfl rfl rfl ?_
              first | (refine RL_want rfl rfl ?_; refine L_fieldAddr rfl (off := 0) Try.underlying25 rfl rfl Try.ti23 rfl ?_) | refine RL_skip rfl rfl rfl rfl ?_ | refine RL_skipU rfl rfl rfl ?_
              first | (refine RL_want rfl rfl ?_; refine L_load rfl Try.one23 rfl (by exact cellAM hs hr33 (j := 0) rfl) ?_) | refine RL_skip rfl rfl rfl rfl ?_ | refine RL_skipU rfl rfl rfl ?_
              first | (refine RL_want rfl rfl ?_; refine L_fcmp rfl rfl rfl (fun _ => by rw [binOp_float_cmp_gtr, gy]; rfl) ?_) | refine RL_skip rfl rfl rfl rfl ?_ | refine RL_skipU rfl rfl rfl ?_
              first | (refine RL_want rfl rfl ?_; (first | refine L_pick_t rfl rfl rfl ?_ | refine L_pick_f rfl rfl rfl ?_)) | refine RL_skip rfl rfl rfl rfl ?_ | refine RL_skipU rfl rfl rfl ?_
              first | refine L_pick_t rfl rfl rfl ?_ | refine L_pick_f rfl rfl rfl ?_
              refine L_move rfl rfl ?_
              first | (refine RL_want rfl rfl ?_; refine L_fieldAddr rfl (off := 13) Try.underlying49 rfl rfl Try.ti3 rfl ?_) | refine RL_skip rfl rfl rfl rfl ?_ | refine RL_skipU rfl rfl rfl ?_
              first | (refine RL_want rfl rfl ?_; refine L_load rfl Try.one3 rfl (by exact hs.cellA (i := 0) (j := 13) rfl rfl) ?_) | refine RL_skip rfl rfl rfl rfl ?_ | refine RL_skipU rfl rfl rfl ?_
              first | (refine RL_want rfl rfl ?_; (first | refine L_eql rfl rfl rfl (dtrue (by omega)) ?_ | refine L_eql rfl rfl rfl (dfalse (by omega)) ?_ | refine L_eql rfl rfl rfl rfl ?_)) | refine RL_skip rfl rfl rfl rfl ?_ | refine RL_skipU rfl rfl rfl ?_
              first | (refine RL_want rfl rfl ?_; refine L_move rfl rfl ?_) | refine RL_skip rfl rfl rfl rfl ?_ | refine RL_skipU rfl rfl rfl ?_
              first | (refine RL_want rfl rfl ?_; refine L_fieldAddr rfl (off := 0) Try.underlying49 rfl rfl Try.ti3 rfl ?_) | refine RL_skip rfl rfl rfl rfl ?_ | refine RL_skipU rfl rfl rfl ?_
              first | (refine RL_want rfl rfl ?_; refine L_load rfl Try.one3 rfl (by exact hs.cellA (i := 0) (j := 0) rfl rfl) ?_) | refine RL_skip rfl rfl rfl rfl ?_ | refine RL_skipU rfl rfl rfl ?_
              first | (refine RL_want rfl rfl ?_; refine L_move rfl rfl ?_) | refine RL_skip rfl rfl rfl rfl ?_ | refine RL_skipU rfl rfl rfl ?_
              first | (refine RL_want rfl rfl ?_; (first | refine L_leq rfl rfl rfl (dtrue (by omega)) ?_ | refine L_leq rfl rfl rfl (dfalse (by omega)) ?_ | refine L_leq rfl rfl rfl rfl ?_)) | refine RL_skip rfl rfl rfl rfl ?_ | refine RL_skipU rfl rfl rfl ?_
              first | (refine RL_want rfl rfl ?_; (first | refine L_pick_t rfl rfl rfl ?_ | refine L_pick_f rfl rfl rfl ?_)) | refine RL_skip rfl rfl rfl rfl ?_ | refine RL_skipU rfl rfl rfl ?_
              first | refine L_pick_t rfl rfl rfl ?_ | refine L_pick_f rfl rfl rfl ?_
              refine RL_then ?_
              refine W_if_false rfl ?_
              refine W_skip' ?_
              refine Nx_then ?_
              refine W_seq ?_
              refine W_region ?_
              refine L_move rfl rfl ?_
              refine L_fieldAddr rfl (off := 0) Try.underlying49 rfl rfl Try.ti3 rfl ?_
              refine L_load rfl Try.one3 rfl (by exact hs.cellA (i := 0) (j := 0) rfl rfl) ?_
              refine RL_val rfl (R_maxI rfl rfl rfl) ?_
              refine L_assign rfl rfl ?_
              refine RL_then ?_
              refine W_seq ?_
              refine W_region ?_
              refine L_move rfl rfl ?_
              refine L_fieldAddr rfl (off := 0) Try.underlying49 rfl rfl Try.ti3 rfl ?_
              refine L_load rfl Try.one3 rfl (by exact hs.cellA (i := 0) (j := 0) rfl rfl) ?_
              obtain ⟨X4, hX4⟩ : ∃ X4, X4 = (b33, Row 49 o.t.cells) :: L3 := ⟨_, rfl⟩
              have hX4o : Own w0 X4 := by rw [hX4]; exact Own.cons hb33 hL3o
              have h33 : (b33, Row 49 o.t.cells) ∈ X4 := by rw [hX4]; exact List.mem_cons_self ..
              have hs1 : HS w0 w12 (k'.bks ++ X4) := by rw [hX4]; exact HS.re hs (fun c => by simp only [List.map_append, List.map_cons, List.map_nil, List.sum_append, List.sum_cons, List.sum_nil]; omega)
              have hP := past_some w0 w12 (j + 1) k' X4 o hs1 hk' ho hX4o (by omega)
              rw [hk'B] at hP
              refine L_call rfl Try.fun16 rfl (hP) ?_
              rintro _ w13 ⟨vx, Mx, vy, My, rfl, hs2, hbx, hby⟩
              clear hs hs1 hP
              obtain ⟨ax, cx, rfl, _⟩ := hbx.slice
              obtain ⟨ay, cy, rfl, _⟩ := hby.slice
              have hxl := hTo.xs
              have hyl := hTo.ys
              have hs1w := hTo.steps
              obtain ⟨Y, hY⟩ : ∃ Y, Y = k'.bks ++ X4 ++ (Mx ++ My) := ⟨_, rfl⟩
              have hYo : Own w0 Y := by rw [hY]; exact (hk'.own.app hX4o).app (hbx.own.app hby.own)
              have hs : HS w0 w13 Y := by rw [hY]; exact hs2
              clear hs2
              have h33Y : (b33, Row 49 o.t.cells) ∈ Y := by rw [hY]; exact List.mem_append_left _ (List.mem_append_right _ h33)
              have hMxY : ∀ p ∈ Mx, p ∈ Y := fun p hp => by rw [hY]; exact List.mem_append_right _ (List.mem_append_left _ hp)
              have hMyY : ∀ p ∈ My, p ∈ Y := fun p hp => by rw [hY]; exact List.mem_append_right _ (List.mem_append_right _ hp)
              have haox : ax = some (aD ax) := (Bl.slcM hbx hs hMxY).ao (by rw [scs_len]; omega)
              have haoy : ay = some (aD ay) := (Bl.slcM hby hs hMyY).ao (by rw [scs_len]; omega)
              refine L_move rfl rfl ?_
              refine L_extract rfl rfl rfl ?_
              refine L_extract rfl rfl rfl ?_
              refine L_assign rfl rfl ?_
              refine L_assign rfl rfl ?_
              refine RL_then ?_
              refine W_seq ?_
              refine W_sg Try.mixed ?_
              replace hs := hs.drewN 1
              refine SG_stageB [0, 1, 2] [3, 4, 5, 6, 7, 8, 9, 10, 11, 12, 13, 14, 15, 16, 17, 18, 19, 20, 21, 22, 23, 24, 25, 26, 27, 28, 29, 30, 31, 32, 33, 34, 35, 36] [] (noBk SPT) (g' := 0) (by kernel_rfl) (by kernel_rfl) (fun _ _ _ _ _ h => h) hs ?_
              refine PL_val rfl (fun w => R_move rfl) ?_
              refine PL_val rfl (fun w => R_len Try.underlying52 rfl) ?_
              refine PL_val rfl (fun w => R_fieldAddr (off := 13) Try.underlying49 rfl rfl Try.ti3 rfl) ?_
              refine PL_endB ?_
              refine HB_val rfl (fun w R hR hs => R_load Try.one3 rfl (by exact cellAM hs (List.mem_append_left _ h33Y) (j := 13) rfl)) ?_
              refine HB_val rfl (fun w R hR hs => R_minI rfl rfl (if_neg (by omega))) ?_
              first | refine HB_val rfl (fun w R hR hs => R_neq rfl rfl (dtrue (by omega))) ?_ | refine HB_val rfl (fun w R hR hs => R_neq rfl rfl (dfalse (by omega))) ?_ | refine HB_val rfl (fun w R hR hs => R_neq rfl rfl rfl) ?_
              refine HB_val rfl (fun w R hR hs => R_move rfl) ?_
              first | (refine HB_want rfl rfl ?_; refine HB_val rfl (fun w R hR hs => R_move rfl) ?_) | refine HB_skip rfl rfl rfl rfl ?_
              first | (refine HB_want rfl rfl ?_; refine HB_val rfl (fun w R hR hs => R_len Try.underlying52 rfl) ?_) | refine HB_skip rfl rfl rfl rfl ?_
              first | (refine HB_want rfl rfl ?_; refine HB_val rfl (fun w R hR hs => R_move rfl) ?_) | refine HB_skip rfl rfl rfl rfl ?_
              first | (refine HB_want rfl rfl ?_; refine HB_val rfl (fun w R hR hs => R_len Try.underlying52 rfl) ?_) | refine HB_skip rfl rfl rfl rfl ?_
              first | (refine HB_want rfl rfl ?_; (first | refine HB_val rfl (fun w R hR hs => R_neq rfl rfl (dtrue (by omega))) ?_ | refine HB_val rfl (fun w R hR hs => R_neq rfl rfl (dfalse (by omega))) ?_ | refine HB_val rfl (fun w R hR hs => R_neq rfl rfl rfl) ?_)) | refine HB_skip rfl rfl rfl rfl ?_
              first | refine HB_val rfl (fun w R hR hs => R_pick_t rfl rfl) ?_ | refine HB_val rfl (fun w R hR hs => R_pick_f rfl rfl) ?_
              refine HB_val rfl (fun w R hR hs => R_move rfl) ?_
              first | (refine HB_want rfl rfl ?_; refine HB_val rfl (fun w R hR hs => R_move rfl) ?_) | refine HB_skip rfl rfl rfl rfl ?_
              first | (refine HB_want rfl rfl ?_; refine HB_val rfl (fun w R hR hs => R_move rfl) ?_) | refine HB_skip rfl rfl rfl rfl ?_
              first | (refine HB_want rfl rfl ?_; refine HB_val rfl (fun w R hR hs => R_len Try.underlying52 rfl) ?_) | refine HB_skip rfl rfl rfl rfl ?_
              first | (refine HB_want rfl rfl ?_; (first | refine HB_val rfl (fun w R hR hs => R_sub rfl rfl (wrp_i64 (by omega))) ?_ | refine HB_val rfl (fun w R hR hs => R_sub rfl rfl rfl) ?_)) | refine HB_skip rfl rfl rfl rfl ?_
              first | (refine HB_want rfl rfl ?_; refine HB_val rfl (fun w R hR hs => R_idxN Try.underlying52 Try.ti46 rfl rfl (show ((o.xs.length : Int) - 1) = ((o.xs.length - 1 : Nat) : Int) by omega) (by omega) haox) ?_) | refine HB_skip rfl rfl rfl rfl ?_
              first | (refine HB_want rfl rfl ?_; refine HB_val rfl (fun w R hR hs => R_loadA Try.agg46 Try.ti46 rfl (by exact stt_last (Bl.slcM hbx hs (fun p hp => List.mem_append_left _ (hMxY p hp))) hTo.lx (by omega))) ?_) | refine HB_skip rfl rfl rfl rfl ?_
              first | (refine HB_want rfl rfl ?_; refine HB_val rfl (fun w R hR hs => R_fieldAddr (off := 2) Try.underlying49 rfl rfl Try.ti46 rfl) ?_) | refine HB_skip rfl rfl rfl rfl ?_
              first | (refine HB_want rfl rfl ?_; refine HB_val rfl (fun w R hR hs => R_loadA Try.agg46 Try.ti46 rfl (by exact cellsAt_part (n := 5) (cs := o.t.x.cells) (hs.has _ (List.mem_append_left _ h33Y)) rfl)) ?_) | refine HB_skip rfl rfl rfl rfl ?_
              refine HB_want rfl rfl ?_
              refine HB_callH rfl Try.fun17 rfl (fun w R hR hs => sameSH hs o.t.x) ?_
              rintro _ hd
              obtain rfl := hd
              first | (refine HB_want rfl rfl ?_; refine HB_val rfl (fun w R hR hs => R_not rfl) ?_) | refine HB_skip rfl rfl rfl rfl ?_
              first | refine HB_val rfl (fun w R hR hs => R_pick_t rfl rfl) ?_ | refine HB_val rfl (fun w R hR hs => R_pick_f rfl rfl) ?_
              refine HB_val rfl (fun w R hR hs => R_move rfl) ?_
              first | (refine HB_want rfl rfl ?_; refine HB_val rfl (fun w R hR hs => R_move rfl) ?_) | refine HB_skip rfl rfl rfl rfl ?_
              first | (refine HB_want rfl rfl ?_; refine HB_val rfl (fun w R hR hs => R_move rfl) ?_) | refine HB_skip rfl rfl rfl rfl ?_
              first | (refine HB_want rfl rfl ?_; refine HB_val rfl (fun w R hR hs => R_len Try.underlying52 rfl) ?_) | refine HB_skip rfl rfl rfl rfl ?_
              first | (refine HB_want rfl rfl ?_; (first | refine HB_val rfl (fun w R hR hs => R_sub rfl rfl (wrp_i64 (by omega))) ?_ | refine HB_val rfl (fun w R hR hs => R_sub rfl rfl rfl) ?_)) | refine HB_skip rfl rfl rfl rfl ?_
              first | (refine HB_want rfl rfl ?_; refine HB_val rfl (fun w R hR hs => R_idxN Try.underlying52 Try.ti46 rfl rfl (show ((o.ys.length : Int) - 1) = ((o.ys.length - 1 : Nat) : Int) by omega) (by omega) haoy) ?_) | refine HB_skip rfl rfl rfl rfl ?_
              first | (refine HB_want rfl rfl ?_; refine HB_val rfl (fun w R hR hs => R_loadA Try.agg46 Try.ti46 rfl (by exact stt_last (Bl.slcM hby hs (fun p hp => List.mem_append_left _ (hMyY p hp))) hTo.ly (by omega))) ?_) | refine HB_skip rfl rfl rfl rfl ?_
              first | (refine HB_want rfl rfl ?_; refine HB_val rfl (fun w R hR hs => R_fieldAddr (off := 7) Try.underlying49 rfl rfl Try.ti46 rfl) ?_) | refine HB_skip rfl rfl rfl rfl ?_
              first | (refine HB_want rfl rfl ?_; refine HB_val rfl (fun w R hR hs => R_loadA Try.agg46 Try.ti46 rfl (by exact cellsAt_part (n := 5) (cs := o.t.y.cells) (hs.has _ (List.mem_append_left _ h33Y)) rfl)) ?_) | refine HB_skip rfl rfl rfl rfl ?_
              refine HB_want rfl rfl ?_
              refine HB_callH rfl Try.fun17 rfl (fun w R hR hs => sameSH hs o.t.y) ?_
              rintro _ hd
              obtain rfl := hd
              first | (refine HB_want rfl rfl ?_; refine HB_val rfl (fun w R hR hs => R_not rfl) ?_) | refine HB_skip rfl rfl rfl rfl ?_
              first | refine HB_val rfl (fun w R hR hs => R_pick_t rfl rfl) ?_ | refine HB_val rfl (fun w R hR hs => R_pick_f rfl rfl) ?_
              refine HB_tail ?_
              intro w hs
              refine RL_sg ?_
              refine SG_end (by kernel_rfl) ?_
              refine Nx_then ?_
              refine W_if_false rfl ?_
              refine W_skip' ?_
              refine Nx_block ?_
              refine Nx_then ?_
              refine W_region ?_
              first | refine L_add rfl rfl rfl (wrp_i64 (by omega)) ?_ | refine L_add rfl rfl rfl rfl ?_
              refine L_move rfl rfl ?_
              refine RL_nil' ?_
              have hsE : ∀ {w' : World}, HS w0 w' Y → HS w0 w' (k'.bks ++ L3) := fun {w'} h => by
               rw [hY, hX4] at h
               have h1 : HS w0 w' (((b33, Row 49 o.t.cells) :: (Mx ++ My)) ++ (k'.bks ++ L3)) := HS.re h (fun c => by simp only [List.map_append, List.map_cons, List.map_nil, List.sum_append, List.sum_cons, List.sum_nil]; omega)
               exact HS.dropL h1 (Own.cons hb33 (hbx.own.app hby.own))
              refine Nx_loopP ((if o.t.id > hgh then o.t.id else hgh), i + 1, _) (is := [15, 16, 21, 22, 28, 31, 91, 92, 93, 147, 148, 149]) (I' := (fun (hgh : Int) (i : Nat) (w : World) => (i ≤ nt) ∧ (0 ≤ hgh ∧ hgh < k'.next) ∧ (HS w0 w (k'.bks ++ L3))) ((if o.t.id > hgh then o.t.id else hgh)) (i + 1) (_)) rfl rfl rfl ?_ ?_
              ·
               exact ⟨by omega, by split <;> omega, hsE (by rw [List.append_nil] at hs; exact hs)⟩
              ·
               show nt - (i + 1) < nt - i; omega
             ·
              skip
              refine W_skip' ?_
              refine Nx_then ?_
              refine W_seq ?_
              refine W_seq ?_
              refine W_region ?_
              refine L_fieldAddr rfl (off := 12) Try.underlying49 rfl rfl Try.ti47 rfl ?_
              refine L_load rfl Try.one47 rfl (by exact hs.cellA (i := 0) (j := 12) rfl rfl) ?_
              refine RL_val rfl (R_ibits (by simp) rfl rfl (andOne o.t.seen hse6)) ?_
              first | refine L_eql rfl rfl rfl (dtrue (by omega)) ?_ | refine L_eql rfl rfl rfl (dfalse (by omega)) ?_ | refine L_eql rfl rfl rfl rfl ?_
              refine L_move rfl rfl ?_
              first | (refine RL_want rfl rfl ?_; refine L_fieldAddr rfl (off := 2) Try.underlying49 rfl rfl Try.ti46 rfl ?_) | refine RL_skip rfl rfl rfl rfl ?_ | refine RL_skipU rfl rfl rfl ?_
              first | (refine RL_want rfl rfl ?_; refine L_fieldAddr rfl (off := 2) Try.underlying46 rfl rfl Try.ti23 rfl ?_) | refine RL_skip rfl rfl rfl rfl ?_ | refine RL_skipU rfl rfl rfl ?_
              first | (refine RL_want rfl rfl ?_; refine L_load rfl Try.one23 rfl (by (rw [add_add]; exact hs.cellA (i := 0) (j := 4) rfl rfl)) ?_) | refine RL_skip rfl rfl rfl rfl ?_ | refine RL_skipU rfl rfl rfl ?_
              first | (refine RL_want rfl rfl ?_; refine L_fieldAddr rfl (off := 0) Try.underlying25 rfl rfl Try.ti23 rfl ?_) | refine RL_skip rfl rfl rfl rfl ?_ | refine RL_skipU rfl rfl rfl ?_
              first | (refine RL_want rfl rfl ?_; refine L_load rfl Try.one23 rfl (by exact cellAM hs hr33 (j := 0) rfl) ?_) | refine RL_skip rfl rfl rfl rfl ?_ | refine RL_skipU rfl rfl rfl ?_
              first | (refine RL_want rfl rfl ?_; refine L_fcmp rfl rfl rfl (fun _ => by rw [binOp_float_cmp_gtr, gx]; rfl) ?_) | refine RL_skip rfl rfl rfl rfl ?_ | refine RL_skipU rfl rfl rfl ?_
              first | (refine RL_want rfl rfl ?_; refine L_move rfl rfl ?_) | refine RL_skip rfl rfl rfl rfl ?_ | refine RL_skipU rfl rfl rfl ?_
              first | (refine RL_want rfl rfl ?_; refine L_fieldAddr rfl (off := 7) Try.underlying49 rfl rfl Try.ti46 rfl ?_) | refine RL_skip rfl rfl rfl rfl ?_ | refine RL_skipU rfl rfl rfl ?_
              first | (refine RL_want rfl rfl ?_; refine L_fieldAddr rfl (off := 2) Try.underlying46 rfl rfl Try.ti23 rfl ?_) | refine RL_skip rfl rfl rfl rfl ?_ | refine RL_skipU rfl rfl rfl ?_
              first | (refine RL_want rfl rfl ?_; refine L_load rfl Try.one23 rfl (by (rw [add_add]; exact hs.cellA (i := 0) (j := 9) rfl rfl)) ?_) | refine RL_skip rfl rfl rfl rfl ?_ | refine RL_skipU rfl rfl rfl ?_
              first | (refine RL_want rfl rfl ?_; refine L_fieldAddr rfl (off := 0) Try.underlying25 rfl rfl Try.ti23 rfl ?_) | refine RL_skip rfl rfl rfl rfl ?_ | refine RL_skipU rfl rfl rfl ?_
              first | (refine RL_want rfl rfl ?_; refine L_load rfl Try.one23 rfl (by exact cellAM hs hr33 (j := 0) rfl) ?_) | refine RL_skip rfl rfl rfl rfl ?_ | refine RL_skipU rfl rfl rfl ?_
              first | (refine RL_want rfl rfl ?_; refine L_fcmp rfl rfl rfl (fun _ => by rw [binOp_float_cmp_gtr, gy]; rfl) ?_) | refine RL_skip rfl rfl rfl rfl ?_ | refine RL_skipU rfl rfl rfl ?_
              first | (refine RL_want rfl rfl ?_; (first | refine L_pick_t rfl rfl rfl ?_ | refine L_pick_f rfl rfl rfl ?_)) | refine RL_skip rfl rfl rfl rfl ?_ | refine RL_skipU rfl rfl rfl ?_
              first | refine L_pick_t rfl rfl rfl ?_ | refine L_pick_f rfl rfl rfl ?_
              refine L_move rfl rfl ?_
              first | (refine RL_want rfl rfl ?_; refine L_fieldAddr rfl (off := 13) Try.underlying49 rfl rfl Try.ti3 rfl ?_) | refine RL_skip rfl rfl rfl rfl ?_ | refine RL_skipU rfl rfl rfl ?_
              first | (refine RL_want rfl rfl ?_; refine L_load rfl Try.one3 rfl (by exact hs.cellA (i := 0) (j := 13) rfl rfl) ?_) | refine RL_skip rfl rfl rfl rfl ?_ | refine RL_skipU rfl rfl rfl ?_
              first | (refine RL_want rfl rfl ?_; (first | refine L_eql rfl rfl rfl (dtrue (by omega)) ?_ | refine L_eql rfl rfl rfl (dfalse (by omega)) ?_ | refine L_eql rfl rfl rfl rfl ?_)) | refine RL_skip rfl rfl rfl rfl ?_ | refine RL_skipU rfl rfl rfl ?_
              first | (refine RL_want rfl rfl ?_; refine L_move rfl rfl ?_) | refine RL_skip rfl rfl rfl rfl ?_ | refine RL_skipU rfl rfl rfl ?_
              first | (refine RL_want rfl rfl ?_; refine L_fieldAddr rfl (off := 0) Try.underlying49 rfl rfl Try.ti3 rfl ?_) | refine RL_skip rfl rfl rfl rfl ?_ | refine RL_skipU rfl rfl rfl ?_
              first | (refine RL_want rfl rfl ?_; refine L_load rfl Try.one3 rfl (by exact hs.cellA (i := 0) (j := 0) rfl rfl) ?_) | refine RL_skip rfl rfl rfl rfl ?_ | refine RL_skipU rfl rfl rfl ?_
              first | (refine RL_want rfl rfl ?_; refine L_move rfl rfl ?_) | refine RL_skip rfl rfl rfl rfl ?_ | refine RL_skipU rfl rfl rfl ?_
              first | (refine RL_want rfl rfl ?_; (first | refine L_leq rfl rfl rfl (dtrue (by omega)) ?_ | refine L_leq rfl rfl rfl (dfalse (by omega)) ?_ | refine L_leq rfl rfl rfl rfl ?_)) | refine RL_skip rfl rfl rfl rfl ?_ | refine RL_skipU rfl rfl rfl ?_
              first | (refine RL_want rfl rfl ?_; (first | refine L_pick_t rfl rfl rfl ?_ | refine L_pick_f rfl rfl rfl ?_)) | refine RL_skip rfl rfl rfl rfl ?_ | refine RL_skipU rfl rfl rfl ?_
              first | refine L_pick_t rfl rfl rfl ?_ | refine L_pick_f rfl rfl rfl ?_
              refine RL_then ?_
              refine W_if_false rfl ?_
              refine W_skip' ?_
              refine Nx_then ?_
              refine W_seq ?_
              refine W_region ?_
              refine L_move rfl rfl ?_
              refine L_fieldAddr rfl (off := 0) Try.underlying49 rfl rfl Try.ti3 rfl ?_
              refine L_load rfl Try.one3 rfl (by exact hs.cellA (i := 0) (j := 0) rfl rfl) ?_
              refine RL_val rfl (R_maxI rfl rfl rfl) ?_
              refine L_assign rfl rfl ?_
              refine RL_then ?_
              refine W_seq ?_
              refine W_region ?_
              refine L_move rfl rfl ?_
              refine L_fieldAddr rfl (off := 0) Try.underlying49 rfl rfl Try.ti3 rfl ?_
              refine L_load rfl Try.one3 rfl (by exact hs.cellA (i := 0) (j := 0) rfl rfl) ?_
              obtain ⟨X4, hX4⟩ : ∃ X4, X4 = (b33, Row 49 o.t.cells) :: L3 := ⟨_, rfl⟩
              have hX4o : Own w0 X4 := by rw [hX4]; exact Own.cons hb33 hL3o
              have h33 : (b33, Row 49 o.t.cells) ∈ X4 := by rw [hX4]; exact List.mem_cons_self ..
              have hs1 : HS w0 w12 (k'.bks ++ X4) := by rw [hX4]; exact HS.re hs (fun c => by simp only [List.map_append, List.map_cons, List.map_nil, List.sum_append, List.sum_cons, List.sum_nil]; omega)
              have hP := past_some w0 w12 (j + 1) k' X4 o hs1 hk' ho hX4o (by omega)
              rw [hk'B] at hP
              refine L_call rfl Try.fun16 rfl (hP) ?_
              rintro _ w13 ⟨vx, Mx, vy, My, rfl, hs2, hbx, hby⟩
              clear hs hs1 hP
              obtain ⟨ax, cx, rfl, _⟩ := hbx.slice
              obtain ⟨ay, cy, rfl, _⟩ := hby.slice
              have hxl := hTo.xs
              have hyl := hTo.ys
              have hs1w := hTo.steps
              obtain ⟨Y, hY⟩ : ∃ Y, Y = k'.bks ++ X4 ++ (Mx ++ My) := ⟨_, rfl⟩
              have hYo : Own w0 Y := by rw [hY]; exact (hk'.own.app hX4o).app (hbx.own.app hby.own)
              have hs : HS w0 w13 Y := by rw [hY]; exact hs2
              clear hs2
              have h33Y : (b33, Row 49 o.t.cells) ∈ Y := by rw [hY]; exact List.mem_append_left _ (List.mem_append_right _ h33)
              have hMxY : ∀ p ∈ Mx, p ∈ Y := fun p hp => by rw [hY]; exact List.mem_append_right _ (List.mem_append_left _ hp)
              have hMyY : ∀ p ∈ My, p ∈ Y := fun p hp => by rw [hY]; exact List.mem_append_right _ (List.mem_append_right _ hp)
              have haox : ax = some (aD ax) := (Bl.slcM hbx hs hMxY).ao (by rw [scs_len]; omega)
              have haoy : ay = some (aD ay) := (Bl.slcM hby hs hMyY).ao (by rw [scs_len]; omega)
              refine L_move rfl rfl ?_
              refine L_extract rfl rfl rfl ?_
              refine L_extract rfl rfl rfl ?_
              refine L_assign rfl rfl ?_
              refine L_assign rfl rfl ?_
              refine RL_then ?_
              refine W_seq ?_
              refine W_sg Try.mixed ?_
              replace hs := hs.drewN 1
              refine SG_stageB [0, 1, 2] [3, 4, 5, 6, 7, 8, 9, 10, 11, 12, 13, 14, 15, 16, 17, 18, 19, 20, 21, 22, 23, 24, 25, 26, 27, 28, 29, 30, 31, 32, 33, 34, 35, 36] [] (noBk SPT) (g' := 0) (by kernel_rfl) (by kernel_rfl) (fun _ _ _ _ _ h => h) hs ?_
              refine PL_val rfl (fun w => R_move rfl) ?_
              refine PL_val rfl (fun w => R_len Try.underlying52 rfl) ?_
              refine PL_val rfl (fun w => R_fieldAddr (off := 13) Try.underlying49 rfl rfl Try.ti3 rfl) ?_
              refine PL_endB ?_
              refine HB_val rfl (fun w R hR hs => R_load Try.one3 rfl (by exact cellAM hs (List.mem_append_left _ h33Y) (j := 13) rfl)) ?_
              refine HB_val rfl (fun w R hR hs => R_minI rfl rfl (if_neg (by omega))) ?_
              first | refine HB_val rfl (fun w R hR hs => R_neq rfl rfl (dtrue (by omega))) ?_ | refine HB_val rfl (fun w R hR hs => R_neq rfl rfl (dfalse (by omega))) ?_ | refine HB_val rfl (fun w R hR hs => R_neq rfl rfl rfl) ?_
              refine HB_val rfl (fun w R hR hs => R_move rfl) ?_
              first | (refine HB_want rfl rfl ?_; refine HB_val rfl (fun w R hR hs => R_move rfl) ?_) | refine HB_skip rfl rfl rfl rfl ?_
              first | (refine HB_want rfl rfl ?_; refine HB_val rfl (fun w R hR hs => R_len Try.underlying52 rfl) ?_) | refine HB_skip rfl rfl rfl rfl ?_
              first | (refine HB_want rfl rfl ?_; refine HB_val rfl (fun w R hR hs => R_move rfl) ?_) | refine HB_skip rfl rfl rfl rfl ?_
              first | (refine HB_want rfl rfl ?_; refine HB_val rfl (fun w R hR hs => R_len Try.underlying52 rfl) ?_) | refine HB_skip rfl rfl rfl rfl ?_
              first | (refine HB_want rfl rfl ?_; (first | refine HB_val rfl (fun w R hR hs => R_neq rfl rfl (dtrue (by omega))) ?_ | refine HB_val rfl (fun w R hR hs => R_neq rfl rfl (dfalse (by omega))) ?_ | refine HB_val rfl (fun w R hR hs => R_neq rfl rfl rfl) ?_)) | refine HB_skip rfl rfl rfl rfl ?_
              first | refine HB_val rfl (fun w R hR hs => R_pick_t rfl rfl) ?_ | refine HB_val rfl (fun w R hR hs => R_pick_f rfl rfl) ?_
              refine HB_val rfl (fun w R hR hs => R_move rfl) ?_
              first | (refine HB_want rfl rfl ?_; refine HB_val rfl (fun w R hR hs => R_move rfl) ?_) | refine HB_skip rfl rfl rfl rfl ?_
              first | (refine HB_want rfl rfl ?_; refine HB_val rfl (fun w R hR hs => R_move rfl) ?_) | refine HB_skip rfl rfl rfl rfl ?_
              first | (refine HB_want rfl rfl ?_; refine HB_val rfl (fun w R hR hs => R_len Try.underlying52 rfl) ?_) | refine HB_skip rfl rfl rfl rfl ?_
              first | (refine HB_want rfl rfl ?_; (first | refine HB_val rfl (fun w R hR hs => R_sub rfl rfl (wrp_i64 (by omega))) ?_ | refine HB_val rfl (fun w R hR hs => R_sub rfl rfl rfl) ?_)) | refine HB_skip rfl rfl rfl rfl ?_
              first | (refine HB_want rfl rfl ?_; refine HB_val rfl (fun w R hR hs => R_idxN Try.underlying52 Try.ti46 rfl rfl (show ((o.xs.length : Int) - 1) = ((o.xs.length - 1 : Nat) : Int) by omega) (by omega) haox) ?_) | refine HB_skip rfl rfl rfl rfl ?_
              first | (refine HB_want rfl rfl ?_; refine HB_val rfl (fun w R hR hs => R_loadA Try.agg46 Try.ti46 rfl (by exact stt_last (Bl.slcM hbx hs (fun p hp => List.mem_append_left _ (hMxY p hp))) hTo.lx (by omega))) ?_) | refine HB_skip rfl rfl rfl rfl ?_
              first | (refine HB_want rfl rfl ?_; refine HB_val rfl (fun w R hR hs => R_fieldAddr (off := 2) Try.underlying49 rfl rfl Try.ti46 rfl) ?_) | refine HB_skip rfl rfl rfl rfl ?_
              first | (refine HB_want rfl rfl ?_; refine HB_val rfl (fun w R hR hs => R_loadA Try.agg46 Try.ti46 rfl (by exact cellsAt_part (n := 5) (cs := o.t.x.cells) (hs.has _ (List.mem_append_left _ h33Y)) rfl)) ?_) | refine HB_skip rfl rfl rfl rfl ?_
              refine HB_want rfl rfl ?_
              refine HB_callH rfl Try.fun17 rfl (fun w R hR hs => sameSH hs o.t.x) ?_
              rintro _ hd
              obtain rfl := hd
              first | (refine HB_want rfl rfl ?_; refine HB_val rfl (fun w R hR hs => R_not rfl) ?_) | refine HB_skip rfl rfl rfl rfl ?_
              first | refine HB_val rfl (fun w R hR hs => R_pick_t rfl rfl) ?_ | refine HB_val rfl (fun w R hR hs => R_pick_f rfl rfl) ?_
              refine HB_val rfl (fun w R hR hs => R_move rfl) ?_
              first | (refine HB_want rfl rfl ?_; refine HB_val rfl (fun w R hR hs => R_move rfl) ?_) | refine HB_skip rfl rfl rfl rfl ?_
              first | (refine HB_want rfl rfl ?_; refine HB_val rfl (fun w R hR hs => R_move rfl) ?_) | refine HB_skip rfl rfl rfl rfl ?_
              first | (refine HB_want rfl rfl ?_; refine HB_val rfl (fun w R hR hs => R_len Try.underlying52 rfl) ?_) | refine HB_skip rfl rfl rfl rfl ?_
              first | (refine HB_want rfl rfl ?_; (first | refine HB_val rfl (fun w R hR hs => R_sub rfl rfl (wrp_i64 (by omega))) ?_ | refine HB_val rfl (fun w R hR hs => R_sub rfl rfl rfl) ?_)) | refine HB_skip rfl rfl rfl rfl ?_
              first | (refine HB_want rfl rfl ?_; refine HB_val rfl (fun w R hR hs => R_idxN Try.underlying52 Try.ti46 rfl rfl (show ((o.ys.length : Int) - 1) = ((o.ys.length - 1 : Nat) : Int) by omega) (by omega) haoy) ?_) | refine HB_skip rfl rfl rfl rfl ?_
              first | (refine HB_want rfl rfl ?_; refine HB_val rfl (fun w R hR hs => R_loadA Try.agg46 Try.ti46 rfl (by exact stt_last (Bl.slcM hby hs (fun p hp => List.mem_append_left _ (hMyY p hp))) hTo.ly (by omega))) ?_) | refine HB_skip rfl rfl rfl rfl ?_
              first | (refine HB_want rfl rfl ?_; refine HB_val rfl (fun w R hR hs => R_fieldAddr (off := 7) Try.underlying49 rfl rfl Try.ti46 rfl) ?_) | refine HB_skip rfl rfl rfl rfl ?_
              first | (refine HB_want rfl rfl ?_; refine HB_val rfl (fun w R hR hs => R_loadA Try.agg46 Try.ti46 rfl (by exact cellsAt_part (n := 5) (cs := o.t.y.cells) (hs.has _ (List.mem_append_left _ h33Y)) rfl)) ?_) | refine HB_skip rfl rfl rfl rfl ?_
              refine HB_want rfl rfl ?_
              refine HB_callH rfl Try.fun17 rfl (fun w R hR hs => sameSH hs o.t.y) ?_
              rintro _ hd
              obtain rfl := hd
              first | (refine HB_want rfl rfl ?_; refine HB_val rfl (fun w R hR hs => R_not rfl) ?_) | refine HB_skip rfl rfl rfl rfl ?_
              first | refine HB_val rfl (fun w R hR hs => R_pick_t rfl rfl) ?_ | refine HB_val rfl (fun w R hR hs => R_pick_f rfl rfl) ?_
              refine HB_tail ?_
              intro w hs
              refine RL_sg ?_
              refine SG_end (by kernel_rfl) ?_
              refine Nx_then ?_
              refine W_if_false rfl ?_
              refine W_skip' ?_
              refine Nx_block ?_
              refine Nx_then ?_
              refine W_region ?_
              first | refine L_add rfl rfl rfl (wrp_i64 (by omega)) ?_ | refine L_add rfl rfl rfl rfl ?_
              refine L_move rfl rfl ?_
              refine RL_nil' ?_
              have hsE : ∀ {w' : World}, HS w0 w' Y → HS w0 w' (k'.bks ++ L3) := fun {w'} h => by
               rw [hY, hX4] at h
               have h1 : HS w0 w' (((b33, Row 49 o.t.cells) :: (Mx ++ My)) ++ (k'.bks ++ L3)) := HS.re h (fun c => by simp only [List.map_append, List.map_cons, List.map_nil, List.sum_append, List.sum_cons, List.sum_nil]; omega)
               exact HS.dropL h1 (Own.cons hb33 (hbx.own.app hby.own))
              refine Nx_loopP ((if o.t.id > hgh then o.t.id else hgh), i + 1, _) (is := [15, 16, 21, 22, 28, 31, 91, 92, 93, 147, 148, 149]) (I' := (fun (hgh : Int) (i : Nat) (w : World) => (i ≤ nt) ∧ (0 ≤ hgh ∧ hgh < k'.next) ∧ (HS w0 w (k'.bks ++ L3))) ((if o.t.id > hgh then o.t.id else hgh)) (i + 1) (_)) rfl rfl rfl ?_ ?_
              ·
               exact ⟨by omega, by split <;> omega, hsE (by rw [List.append_nil] at hs; exact hs)⟩
              ·
               show nt - (i + 1) < nt - i; omega
           ·
            skip
            refine W_seq ?_
            refine W_region ?_
            first | refine L_lss rfl rfl rfl (dtrue (by omega)) ?_ | refine L_lss rfl rfl rfl (dfalse (by omega)) ?_ | refine L_lss rfl rfl rfl rfl ?_
            refine RL_then ?_
            refine W_seq ?_
            refine W_if_false rfl ?_
            refine W_exit' ?_
            refine Ex_then_exit ?_
            refine Ex_loop_exit ?_
            refine Ex_block_hit ?_
            refine Nx_then ?_
            refine W_region ?_
            refine L_move rfl rfl ?_
            refine L_assign rfl rfl ?_
            refine RL_nil' ?_
            refine Nx_block ?_
            refine Nx_then ?_
            refine W_region ?_
            first | refine L_add rfl rfl rfl (wrp_i64 (by omega)) ?_ | refine L_add rfl rfl rfl rfl ?_
            refine L_move rfl rfl ?_
            refine RL_nil' ?_
            refine Nx_loopP (k', r106, T2, hgh, j + 1, _) (is := [15, 16, 21, 22, 91, 92, 93]) (I' := (fun (k : Bok) (tm : Nat) (T : Int) (la : Int) (j : Nat) (w : World) => (j ≤ n ∧ j ≤ 40) ∧ (k.B = k0.B ∧ k.r = r) ∧ (k.ok w0 j) ∧ (∀ o ∈ k.os, Tono C j k.last o) ∧ (FV tm T ∧ 0 ≤ T ∧ T ≤ 11 * (j : Int) * K) ∧ ((k.os = [] ∧ k.last = ninf) ∨ k.last = tm) ∧ (la < k.next ∧ 0 ≤ la ∧ k.next ≤ 1 + 256 * (j : Int)) ∧ (HS w0 w (k.bks ++ [(b15, Row 25 r.cells)]))) (k') (r106) (T2) (hgh) (j + 1) (_)) rfl rfl rfl ?_ ?_
            ·
             have hKm : 11 * ((j + 1 : Nat) : Int) * K = 11 * (j : Int) * K + 11 * K := by
              rw [show ((j + 1 : Nat) : Int) = (j : Int) + 1 from rfl, Int.mul_add, Int.add_mul, Int.mul_one]
             have hl' : k'.last = r106 := hst.last
             rw [← hK] at t2
             have hsE : HS w0 w (k'.bks ++ [(b15, Row 25 r.cells)]) := by
              rw [hL3, hL2, hLL] at hs
              have h1 : HS w0 w ((Mp ++ ((b24, Row 40 s.cells) :: (M1 ++ ((b125, MapO (Value.int .i64) (Value.int .i64) ml mc) :: Mt)))) ++ (k'.bks ++ [(b15, Row 25 r.cells)])) := HS.re hs (fun c => by simp only [List.map_append, List.map_cons, List.map_nil, List.sum_append, List.sum_cons, List.sum_nil]; omega)
              exact HS.dropL h1 (hbp.own.app (Own.cons hb24 (hb1.own.app (Own.cons hb125 hbt2.own))))
             exact ⟨⟨by omega, by omega⟩, ⟨hk'B, hst.samer.trans hkr⟩, hk', fun o ho => by rw [hl']; exact (hall o ho).1, ⟨f106, by omega, by rw [hKm]; omega⟩, .inr hl', ⟨hg1, hg0, by omega⟩, hsE⟩
            ·
             show n - (j + 1) < n - j; omega
      ·
       skip
       refine L_move rfl rfl ?_
       first | refine L_geq rfl rfl rfl (dtrue (by omega)) ?_ | refine L_geq rfl rfl rfl (dfalse (by omega)) ?_ | refine L_geq rfl rfl rfl rfl ?_
       refine RL_then ?_
       refine W_if_true rfl ?_
       refine W_exit' ?_
       refine Ex_then_exit ?_
       refine Ex_block_miss rfl ?_
       refine Ex_then_exit ?_
       refine Ex_loop_exit ?_
       refine Ex_block_hit ?_
       refine Nx_then ?_
       refine W_seq ?_
       refine W_region ?_
       refine L_assign rfl rfl ?_
       refine RL_then ?_
       refine W_ret' ?_
       refine Ex_done1 rfl rfl ?_
       exact ⟨_, rfl, rfl, hs.forget hBo⟩
     ·
      skip
      refine W_seq ?_
      refine W_region ?_
      first | refine L_lss rfl rfl rfl (dtrue (by omega)) ?_ | refine L_lss rfl rfl rfl (dfalse (by omega)) ?_ | refine L_lss rfl rfl rfl rfl ?_
      refine RL_then ?_
      refine W_seq ?_
      refine W_if_false rfl ?_
      refine W_exit' ?_
      refine Ex_then_exit ?_
      refine Ex_loop_exit ?_
      refine Ex_block_hit ?_
      refine Nx_then ?_
      refine W_seq ?_
      refine W_region ?_
      refine L_assign rfl rfl ?_
      refine RL_then ?_
      refine W_ret' ?_
      refine Ex_done1 rfl rfl ?_
      exact ⟨_, rfl, rfl, hs.forget (hk.own.app hRo)⟩
end Go.Proofs.Ytdllakfojligjaa
