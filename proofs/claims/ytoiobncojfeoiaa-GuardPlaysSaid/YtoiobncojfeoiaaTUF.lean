/-
 A part of the proof: what functions that the statement reaches do, or a plain law on what they do. Each theorem holds under its own premises alone.
-/
import Derived.Test.YtoiobncojfeoiaaTUE
namespace Go.Proofs.Ytoiobncojfeoiaa
open Go Go.Lk
/-! ### A guard's memory -/
theorem pair98 : PairT Try.prog 98 := PairT.of Try.underlying98 (by decide) (by decide) rfl rfl Try.underlying3 Try.underlying3 (by kernel_rfl)
theorem K98 : KeyT Try.prog 98 pk := KeyT.pair pair98
theorem K3 : KeyT Try.prog 3 (Value.int .i64) := KeyT.int Try.underlying3
abbrev KE := (Int × Int) × Int × Nat
abbrev KO (es : List KE) (ck : Nat) : Obj := MapO pk (Value.int .i64) es ck
def zms (zs : List Zn) : Bks := zs.flatMap Zn.M
abbrev gbs (B far : Nat) (v : Value) (M : Bks) (ever : Int) (m : Nat) (es : List KE) (ck : Nat) (zs : List Zn) : Bks := (B, Row 87 [.float .f64 far, v, .int .i64 ever, .map (some m)]) :: (m, KO es ck) :: (M ++ zms zs)
structure Zn.ok (w0 : World) (z : Zn) : Prop where
 bl : Bl w0 25 2 z.v z.ps.length (pcs z.ps) z.M
 len : z.ps.length ≤ 64
structure KOk (es : List KE) (ck : Nat) : Prop where
 keys : (es.map (·.1)).Nodup
 born : (es.map (·.2.2)).Nodup
 old : ∀ x ∈ es, x.2.2 < ck
structure GOk (w0 : World) (B : Nat) (v : Value) (M : Bks) (m : Nat) (es : List KE) (ck : Nat) (zs : List Zn) : Prop where
 ownB : w0.heap.size ≤ B
 ownm : w0.heap.size ≤ m
 bl : Bl w0 90 3 v zs.length (zcs zs) M
 each : ∀ z ∈ zs, z.ok w0
 len : zs.length ≤ 64
 map : KOk es ck
theorem zms_own {w0 : World} {zs : List Zn} (h : ∀ z ∈ zs, z.ok w0) : Own w0 (zms zs) := fun p hp => by
 obtain ⟨z, hz, hp⟩ := List.mem_flatMap.1 hp
 exact (h z hz).bl.own p hp
theorem GOk.owns {w0 : World} {B far : Nat} {v : Value} {M : Bks} {ever : Int} {m : Nat} {es : List KE} {ck : Nat} {zs : List Zn} (h : GOk w0 B v M m es ck zs) : Own w0 (gbs B far v M ever m es ck zs) := Own.cons h.ownB (Own.cons h.ownm (h.bl.own.app (zms_own h.each)))
theorem Bl.slcM {w0 w : World} {E : TypeId} {sz : Nat} {a : Option Addr} {n c k : Nat} {xs : List Value} {L M : Bks} (h : Bl w0 E sz (.slice a n c) k xs M) (hs : HS w0 w L) (hM : ∀ p ∈ M, p ∈ L) : SlC w a xs := by
 cases h with
 | nil => exact ⟨by simp, fun j v hv => by simp at hv⟩
 | row hg hx hc hn => exact SlC.of_row (hs.has _ (hM _ (List.mem_cons_self ..)))
def badNew (far : Nat) : Bool := nfX far || ltB far 0
theorem newG (far : Nat) (w0 : World) : Ret Try.prog 13 [.float .f64 far] w0 fun v w' => (badNew far = true ∧ v = .tuple #[.pointer none, .int .i64 6] ∧ HS w0 w' []) ∨
  (badNew far = false ∧ ∃ B m, v = .tuple #[.pointer (some ⟨B, 0, none⟩), .int .i64 0] ∧ HS w0 w' (gbs B far (.slice none 0 0) [] 0 m [] 0 []) ∧ GOk w0 B (.slice none 0 0) [] m [] 0 []) := by
 refine Ret.start fun w hs => ?_
 refine calls_of_W Try.func13 rfl rfl rfl ?_
 refine W_seq ?_
 refine W_region ?_
 refine L_assign rfl rfl ?_
 refine L_assign rfl rfl ?_
 refine RL_then ?_
 refine W_seq ?_
 refine W_seq ?_
 refine W_region ?_
 refine L_move rfl rfl ?_
 refine L_move rfl rfl ?_
 refine L_farith rfl (op := .sub) rfl rfl rfl ?_
 intro r6 k6 hr6
 try replace hs := hs.drewN k6
 have e1 := nfX_ok hr6
 cases h1 : nfX far
 ·
  skip
  cases h2 : FloatKind.f64.format.order far 0 == some .lt
  ·
   skip
   refine L_fcmp rfl rfl rfl (fun _ => by rw [binOp_float_cmp_neq, (e1.trans h1)]; rfl) ?_
   refine L_move rfl rfl ?_
   first | (refine RL_want rfl rfl ?_; refine L_move rfl rfl ?_) | refine RL_skip rfl rfl rfl rfl ?_ | refine RL_skipU rfl rfl rfl ?_
   first | (refine RL_want rfl rfl ?_; refine L_fcmp rfl rfl rfl (fun _ => by rw [binOp_float_cmp_lss, h2]; rfl) ?_) | refine RL_skip rfl rfl rfl rfl ?_ | refine RL_skipU rfl rfl rfl ?_
   first | refine L_pick_t rfl rfl rfl ?_ | refine L_pick_f rfl rfl rfl ?_
   refine RL_then ?_
   refine W_if_false rfl ?_
   refine W_skip' ?_
   refine Nx_then ?_
   refine W_seq ?_
   refine W_region ?_
   refine L_move rfl rfl ?_
   refine L_makeMap rfl hs ?_; intro m w hm _ hs
   refine L_build rfl rfl (Pl.built Try.pl87 rfl) ?_
   refine L_box rfl hs rfl ?_
   intro b15 w hb15 hnb15 hs
   try dsimp only [List.set_cons_succ, List.set_cons_zero, List.cons_append, List.nil_append] at hs
   refine L_assign rfl rfl ?_
   refine L_assign rfl rfl ?_
   refine RL_then ?_
   refine W_ret' ?_
   refine Ex_done2 rfl rfl rfl ?_
   refine ⟨_, rfl, .inr ⟨by unfold badNew; rw [h1]; exact h2, _, m, rfl, HS.swap (p := (m, KO [] 0)) hs, ⟨hb15, hm, Bl.nil, fun z hz => (by cases hz), by decide, ⟨List.nodup_nil, List.nodup_nil, fun x hx => by cases hx⟩⟩⟩⟩
  ·
   skip
   refine L_fcmp rfl rfl rfl (fun _ => by rw [binOp_float_cmp_neq, (e1.trans h1)]; rfl) ?_
   refine L_move rfl rfl ?_
   first | (refine RL_want rfl rfl ?_; refine L_move rfl rfl ?_) | refine RL_skip rfl rfl rfl rfl ?_ | refine RL_skipU rfl rfl rfl ?_
   first | (refine RL_want rfl rfl ?_; refine L_fcmp rfl rfl rfl (fun _ => by rw [binOp_float_cmp_lss, h2]; rfl) ?_) | refine RL_skip rfl rfl rfl rfl ?_ | refine RL_skipU rfl rfl rfl ?_
   first | refine L_pick_t rfl rfl rfl ?_ | refine L_pick_f rfl rfl rfl ?_
   refine RL_then ?_
   refine W_if_true rfl ?_
   refine W_seq ?_
   refine W_region ?_
   refine L_assign rfl rfl ?_
   refine L_assign rfl rfl ?_
   refine RL_then ?_
   refine W_ret' ?_
   refine Ex_then_ret ?_
   refine Ex_done2 rfl rfl rfl ?_
   exact ⟨_, rfl, .inl ⟨by unfold badNew; rw [h1]; exact h2, rfl, hs⟩⟩
 ·
  skip
  refine L_fcmp rfl rfl rfl (fun _ => by rw [binOp_float_cmp_neq, (e1.trans h1)]; rfl) ?_
  refine L_move rfl rfl ?_
  first | (refine RL_want rfl rfl ?_; refine L_move rfl rfl ?_) | refine RL_skip rfl rfl rfl rfl ?_ | refine RL_skipU rfl rfl rfl ?_
  first | (refine RL_want rfl rfl ?_; refine L_fcmp rfl rfl rfl (fun _ => by rw [binOp_float_cmp_lss, h2]; rfl) ?_) | refine RL_skip rfl rfl rfl rfl ?_ | refine RL_skipU rfl rfl rfl ?_
  first | refine L_pick_t rfl rfl rfl ?_ | refine L_pick_f rfl rfl rfl ?_
  refine RL_then ?_
  refine W_if_true rfl ?_
  refine W_seq ?_
  refine W_region ?_
  refine L_assign rfl rfl ?_
  refine L_assign rfl rfl ?_
  refine RL_then ?_
  refine W_ret' ?_
  refine Ex_then_ret ?_
  refine Ex_done2 rfl rfl rfl ?_
  exact ⟨_, rfl, .inl ⟨by unfold badNew; rw [h1]; rfl, rfl, hs⟩⟩
def addE (zs : List Zn) (nm : ByteArray) (ps : List Pt) : Int := if nm == ⟨#[]⟩ || decide (ps.length < 3) || decide (64 < ps.length) || zs.any (fun z => z.name == nm) || ps.any pnf then 290 else if 64 ≤ zs.length then 4 else 0
theorem zms_app (zs us : List Zn) : zms (zs ++ us) = zms zs ++ zms us := List.flatMap_append ..
set_option maxHeartbeats 1000000 in
theorem addG (w0 w : World) (B far : Nat) (v : Value) (M : Bks) (ever : Int) (m : Nat) (es : List KE) (ck : Nat) (zs : List Zn) (R : Bks) (nm : ByteArray) (a : Option Addr) (n c : Nat) (ps : List Pt) (hs : HS w0 w (gbs B far v M ever m es ck zs ++ R)) (hN : GOk w0 B v M m es ck zs) (hR : Own w0 R)
  (hA : ∀ w' L', HS w0 w' L' → Own w0 L' → (∀ p ∈ R, p ∈ L') → SlC w' a (pcs ps)) (hn : ps.length = n) (hn2 : n ≤ 1000000) (hev : 0 ≤ ever) (hev2 : ever < 1000000000) :
  Ret Try.prog 14 [.pointer (some ⟨B, 0, none⟩), .agg #[.string nm, .slice a n c]] w fun r w' =>
   (addE zs nm ps = 0 ∧ ∃ v' M' zv zM, r = .tuple #[.int .i64 (ever + 1), .int .i64 0] ∧ HS w0 w' (gbs B far v' M' (ever + 1) m es ck (zs ++ [⟨ever + 1, nm, ps, zv, zM⟩]) ++ R) ∧ GOk w0 B v' M' m es ck (zs ++ [⟨ever + 1, nm, ps, zv, zM⟩])) ∨
   (addE zs nm ps ≠ 0 ∧ r = .tuple #[.int .i64 0, .int .i64 (addE zs nm ps)] ∧ HS w0 w' (gbs B far v M ever m es ck zs ++ R)) := by
 have hb := hN.bl
 have hlen := hN.len
 obtain ⟨ao, cz, rfl, hkc⟩ := hb.slice
 refine calls_of_W Try.func14 rfl rfl rfl ?_
 refine W_seq ?_
 refine W_region ?_
 refine L_box rfl hs rfl ?_
 intro b3 w hb3 hnb3 hs
 try dsimp only [List.set_cons_succ, List.set_cons_zero, List.cons_append, List.nil_append] at hs
 refine L_assign rfl rfl ?_
 refine L_assign rfl rfl ?_
 refine RL_then ?_
 refine W_seq ?_
 refine W_seq ?_
 refine W_region ?_
 refine L_move rfl rfl ?_
 refine L_ptrNil rfl Try.underlying34 rfl rfl ?_
 refine RL_then ?_
 refine W_if_false rfl ?_
 refine W_skip' ?_
 refine Nx_then ?_
 refine W_seq ?_
 replace hs : HS w0 w ((b3, Row 40 [.string nm, .slice a n c]) :: (gbs B far (.slice ao zs.length cz) M ever m es ck zs ++ R)) := HS.push (L := gbs B far (.slice ao zs.length cz) M ever m es ck zs ++ R) hs
 have ho : Own w0 ((b3, Row 40 [.string nm, .slice a n c]) :: (gbs B far (.slice ao zs.length cz) M ever m es ck zs ++ R)) := Own.cons hb3 (hN.owns.app hR)
 have hRm : ∀ p ∈ R, p ∈ (b3, Row 40 [.string nm, .slice a n c]) :: (gbs B far (.slice ao zs.length cz) M ever m es ck zs ++ R) := fun p hp => List.mem_cons_of_mem _ (List.mem_append_right _ hp)
 refine W_cut2 (fun (bad : Bool) (w : World) => [(0, .pointer (some ⟨B, 0, none⟩)), (3, .pointer (some ⟨b3, 0, none⟩)), (6, .bool bad)]) (fun (bad : Bool) (w : World) => w) (fun (bad : Bool) (w : World) => (bad = (nm == ⟨#[]⟩ || decide (n < 3) || decide (64 < n))) ∧ (HS w0 w ((b3, Row 40 [.string nm, .slice a n c]) :: (gbs B far (.slice ao zs.length cz) M ever m es ck zs ++ R)))) ?_ ?_
 ·
  skip
  obtain ⟨z1, h1⟩ : ∃ z, (nm == (⟨#[]⟩ : ByteArray)) = z := ⟨_, rfl⟩
  cases z1
  ·
   by_cases h2 : n < 3
   ·
    refine W_region ?_
    refine L_fieldAddr rfl (off := 0) Try.underlying40 rfl rfl Try.ti9 rfl ?_
    refine L_load rfl Try.one9 rfl (by first | exact hs.cell (i := 0) rfl rfl | exact hs.cell (i := 1) rfl rfl) ?_
    refine RL_val rfl (R_seql rfl rfl) ?_; refine RL_set 11 (v' := .bool false) rfl (by rw [h1]) ?_
    refine L_move rfl rfl ?_
    first | (refine RL_want rfl rfl ?_; refine L_fieldAddr rfl (off := 1) Try.underlying40 rfl rfl Try.ti22 rfl ?_) | refine RL_skip rfl rfl rfl rfl ?_ | refine RL_skipU rfl rfl rfl ?_
    first | (refine RL_want rfl rfl ?_; refine L_load rfl Try.one22 rfl (by first | exact hs.cell (i := 0) rfl rfl | exact hs.cell (i := 1) rfl rfl) ?_) | refine RL_skip rfl rfl rfl rfl ?_ | refine RL_skipU rfl rfl rfl ?_
    first | (refine RL_want rfl rfl ?_; refine L_len rfl Try.underlying22 rfl ?_) | refine RL_skip rfl rfl rfl rfl ?_ | refine RL_skipU rfl rfl rfl ?_
    first | (refine RL_want rfl rfl ?_; (first | refine L_lss rfl rfl rfl (dtrue (by omega)) ?_ | refine L_lss rfl rfl rfl (dfalse (by omega)) ?_ | refine L_lss rfl rfl rfl rfl ?_)) | refine RL_skip rfl rfl rfl rfl ?_ | refine RL_skipU rfl rfl rfl ?_
    first | refine L_pick_t rfl rfl rfl ?_ | refine L_pick_f rfl rfl rfl ?_
    refine L_move rfl rfl ?_
    first | (refine RL_want rfl rfl ?_; refine L_fieldAddr rfl (off := 1) Try.underlying40 rfl rfl Try.ti22 rfl ?_) | refine RL_skip rfl rfl rfl rfl ?_ | refine RL_skipU rfl rfl rfl ?_
    first | (refine RL_want rfl rfl ?_; refine L_load rfl Try.one22 rfl (by first | exact hs.cell (i := 0) rfl rfl | exact hs.cell (i := 1) rfl rfl) ?_) | refine RL_skip rfl rfl rfl rfl ?_ | refine RL_skipU rfl rfl rfl ?_
    first | (refine RL_want rfl rfl ?_; refine L_len rfl Try.underlying22 rfl ?_) | refine RL_skip rfl rfl rfl rfl ?_ | refine RL_skipU rfl rfl rfl ?_
    first | (refine RL_want rfl rfl ?_; (first | refine L_gtr rfl rfl rfl (dtrue (by omega)) ?_ | refine L_gtr rfl rfl rfl (dfalse (by omega)) ?_ | refine L_gtr rfl rfl rfl rfl ?_)) | refine RL_skip rfl rfl rfl rfl ?_ | refine RL_skipU rfl rfl rfl ?_
    first | refine L_pick_t rfl rfl rfl ?_ | refine L_pick_f rfl rfl rfl ?_
    refine L_assign rfl rfl ?_
    refine RL_nil' ?_
    refine Nx_cutP (true, _) (is := [0, 3, 6]) (I' := (fun (bad : Bool) (w : World) => (bad = (nm == ⟨#[]⟩ || decide (n < 3) || decide (64 < n))) ∧ (HS w0 w ((b3, Row 40 [.string nm, .slice a n c]) :: (gbs B far (.slice ao zs.length cz) M ever m es ck zs ++ R)))) (true) (_)) rfl rfl rfl ?_
    exact ⟨by rw [h1, decide_eq_true h2]; rfl, hs⟩
   ·
    by_cases h3 : 64 < n
    ·
     refine W_region ?_
     refine L_fieldAddr rfl (off := 0) Try.underlying40 rfl rfl Try.ti9 rfl ?_
     refine L_load rfl Try.one9 rfl (by first | exact hs.cell (i := 0) rfl rfl | exact hs.cell (i := 1) rfl rfl) ?_
     refine RL_val rfl (R_seql rfl rfl) ?_; refine RL_set 11 (v' := .bool false) rfl (by rw [h1]) ?_
     refine L_move rfl rfl ?_
     first | (refine RL_want rfl rfl ?_; refine L_fieldAddr rfl (off := 1) Try.underlying40 rfl rfl Try.ti22 rfl ?_) | refine RL_skip rfl rfl rfl rfl ?_ | refine RL_skipU rfl rfl rfl ?_
     first | (refine RL_want rfl rfl ?_; refine L_load rfl Try.one22 rfl (by first | exact hs.cell (i := 0) rfl rfl | exact hs.cell (i := 1) rfl rfl) ?_) | refine RL_skip rfl rfl rfl rfl ?_ | refine RL_skipU rfl rfl rfl ?_
     first | (refine RL_want rfl rfl ?_; refine L_len rfl Try.underlying22 rfl ?_) | refine RL_skip rfl rfl rfl rfl ?_ | refine RL_skipU rfl rfl rfl ?_
     first | (refine RL_want rfl rfl ?_; (first | refine L_lss rfl rfl rfl (dtrue (by omega)) ?_ | refine L_lss rfl rfl rfl (dfalse (by omega)) ?_ | refine L_lss rfl rfl rfl rfl ?_)) | refine RL_skip rfl rfl rfl rfl ?_ | refine RL_skipU rfl rfl rfl ?_
     first | refine L_pick_t rfl rfl rfl ?_ | refine L_pick_f rfl rfl rfl ?_
     refine L_move rfl rfl ?_
     first | (refine RL_want rfl rfl ?_; refine L_fieldAddr rfl (off := 1) Try.underlying40 rfl rfl Try.ti22 rfl ?_) | refine RL_skip rfl rfl rfl rfl ?_ | refine RL_skipU rfl rfl rfl ?_
     first | (refine RL_want rfl rfl ?_; refine L_load rfl Try.one22 rfl (by first | exact hs.cell (i := 0) rfl rfl | exact hs.cell (i := 1) rfl rfl) ?_) | refine RL_skip rfl rfl rfl rfl ?_ | refine RL_skipU rfl rfl rfl ?_
     first | (refine RL_want rfl rfl ?_; refine L_len rfl Try.underlying22 rfl ?_) | refine RL_skip rfl rfl rfl rfl ?_ | refine RL_skipU rfl rfl rfl ?_
     first | (refine RL_want rfl rfl ?_; (first | refine L_gtr rfl rfl rfl (dtrue (by omega)) ?_ | refine L_gtr rfl rfl rfl (dfalse (by omega)) ?_ | refine L_gtr rfl rfl rfl rfl ?_)) | refine RL_skip rfl rfl rfl rfl ?_ | refine RL_skipU rfl rfl rfl ?_
     first | refine L_pick_t rfl rfl rfl ?_ | refine L_pick_f rfl rfl rfl ?_
     refine L_assign rfl rfl ?_
     refine RL_nil' ?_
     refine Nx_cutP (true, _) (is := [0, 3, 6]) (I' := (fun (bad : Bool) (w : World) => (bad = (nm == ⟨#[]⟩ || decide (n < 3) || decide (64 < n))) ∧ (HS w0 w ((b3, Row 40 [.string nm, .slice a n c]) :: (gbs B far (.slice ao zs.length cz) M ever m es ck zs ++ R)))) (true) (_)) rfl rfl rfl ?_
     exact ⟨by rw [h1, decide_eq_false h2, decide_eq_true h3]; rfl, hs⟩
    ·
     refine W_region ?_
     refine L_fieldAddr rfl (off := 0) Try.underlying40 rfl rfl Try.ti9 rfl ?_
     refine L_load rfl Try.one9 rfl (by first | exact hs.cell (i := 0) rfl rfl | exact hs.cell (i := 1) rfl rfl) ?_
     refine RL_val rfl (R_seql rfl rfl) ?_; refine RL_set 11 (v' := .bool false) rfl (by rw [h1]) ?_
     refine L_move rfl rfl ?_
     first | (refine RL_want rfl rfl ?_; refine L_fieldAddr rfl (off := 1) Try.underlying40 rfl rfl Try.ti22 rfl ?_) | refine RL_skip rfl rfl rfl rfl ?_ | refine RL_skipU rfl rfl rfl ?_
     first | (refine RL_want rfl rfl ?_; refine L_load rfl Try.one22 rfl (by first | exact hs.cell (i := 0) rfl rfl | exact hs.cell (i := 1) rfl rfl) ?_) | refine RL_skip rfl rfl rfl rfl ?_ | refine RL_skipU rfl rfl rfl ?_
     first | (refine RL_want rfl rfl ?_; refine L_len rfl Try.underlying22 rfl ?_) | refine RL_skip rfl rfl rfl rfl ?_ | refine RL_skipU rfl rfl rfl ?_
     first | (refine RL_want rfl rfl ?_; (first | refine L_lss rfl rfl rfl (dtrue (by omega)) ?_ | refine L_lss rfl rfl rfl (dfalse (by omega)) ?_ | refine L_lss rfl rfl rfl rfl ?_)) | refine RL_skip rfl rfl rfl rfl ?_ | refine RL_skipU rfl rfl rfl ?_
     first | refine L_pick_t rfl rfl rfl ?_ | refine L_pick_f rfl rfl rfl ?_
     refine L_move rfl rfl ?_
     first | (refine RL_want rfl rfl ?_; refine L_fieldAddr rfl (off := 1) Try.underlying40 rfl rfl Try.ti22 rfl ?_) | refine RL_skip rfl rfl rfl rfl ?_ | refine RL_skipU rfl rfl rfl ?_
     first | (refine RL_want rfl rfl ?_; refine L_load rfl Try.one22 rfl (by first | exact hs.cell (i := 0) rfl rfl | exact hs.cell (i := 1) rfl rfl) ?_) | refine RL_skip rfl rfl rfl rfl ?_ | refine RL_skipU rfl rfl rfl ?_
     first | (refine RL_want rfl rfl ?_; refine L_len rfl Try.underlying22 rfl ?_) | refine RL_skip rfl rfl rfl rfl ?_ | refine RL_skipU rfl rfl rfl ?_
     first | (refine RL_want rfl rfl ?_; (first | refine L_gtr rfl rfl rfl (dtrue (by omega)) ?_ | refine L_gtr rfl rfl rfl (dfalse (by omega)) ?_ | refine L_gtr rfl rfl rfl rfl ?_)) | refine RL_skip rfl rfl rfl rfl ?_ | refine RL_skipU rfl rfl rfl ?_
     first | refine L_pick_t rfl rfl rfl ?_ | refine L_pick_f rfl rfl rfl ?_
     refine L_assign rfl rfl ?_
     refine RL_nil' ?_
     refine Nx_cutP (false, _) (is := [0, 3, 6]) (I' := (fun (bad : Bool) (w : World) => (bad = (nm == ⟨#[]⟩ || decide (n < 3) || decide (64 < n))) ∧ (HS w0 w ((b3, Row 40 [.string nm, .slice a n c]) :: (gbs B far (.slice ao zs.length cz) M ever m es ck zs ++ R)))) (false) (_)) rfl rfl rfl ?_
     exact ⟨by rw [h1, decide_eq_false h2, decide_eq_false h3]; rfl, hs⟩
  ·
   skip
   refine W_region ?_
   refine L_fieldAddr rfl (off := 0) Try.underlying40 rfl rfl Try.ti9 rfl ?_
   refine L_load rfl Try.one9 rfl (by first | exact hs.cell (i := 0) rfl rfl | exact hs.cell (i := 1) rfl rfl) ?_
   refine RL_val rfl (R_seql rfl rfl) ?_; refine RL_set 11 (v' := .bool true) rfl (by rw [h1]) ?_
   refine L_move rfl rfl ?_
   first | (refine RL_want rfl rfl ?_; refine L_fieldAddr rfl (off := 1) Try.underlying40 rfl rfl Try.ti22 rfl ?_) | refine RL_skip rfl rfl rfl rfl ?_ | refine RL_skipU rfl rfl rfl ?_
   first | (refine RL_want rfl rfl ?_; refine L_load rfl Try.one22 rfl (by first | exact hs.cell (i := 0) rfl rfl | exact hs.cell (i := 1) rfl rfl) ?_) | refine RL_skip rfl rfl rfl rfl ?_ | refine RL_skipU rfl rfl rfl ?_
   first | (refine RL_want rfl rfl ?_; refine L_len rfl Try.underlying22 rfl ?_) | refine RL_skip rfl rfl rfl rfl ?_ | refine RL_skipU rfl rfl rfl ?_
   first | (refine RL_want rfl rfl ?_; (first | refine L_lss rfl rfl rfl (dtrue (by omega)) ?_ | refine L_lss rfl rfl rfl (dfalse (by omega)) ?_ | refine L_lss rfl rfl rfl rfl ?_)) | refine RL_skip rfl rfl rfl rfl ?_ | refine RL_skipU rfl rfl rfl ?_
   first | refine L_pick_t rfl rfl rfl ?_ | refine L_pick_f rfl rfl rfl ?_
   refine L_move rfl rfl ?_
   first | (refine RL_want rfl rfl ?_; refine L_fieldAddr rfl (off := 1) Try.underlying40 rfl rfl Try.ti22 rfl ?_) | refine RL_skip rfl rfl rfl rfl ?_ | refine RL_skipU rfl rfl rfl ?_
   first | (refine RL_want rfl rfl ?_; refine L_load rfl Try.one22 rfl (by first | exact hs.cell (i := 0) rfl rfl | exact hs.cell (i := 1) rfl rfl) ?_) | refine RL_skip rfl rfl rfl rfl ?_ | refine RL_skipU rfl rfl rfl ?_
   first | (refine RL_want rfl rfl ?_; refine L_len rfl Try.underlying22 rfl ?_) | refine RL_skip rfl rfl rfl rfl ?_ | refine RL_skipU rfl rfl rfl ?_
   first | (refine RL_want rfl rfl ?_; (first | refine L_gtr rfl rfl rfl (dtrue (by omega)) ?_ | refine L_gtr rfl rfl rfl (dfalse (by omega)) ?_ | refine L_gtr rfl rfl rfl rfl ?_)) | refine RL_skip rfl rfl rfl rfl ?_ | refine RL_skipU rfl rfl rfl ?_
   first | refine L_pick_t rfl rfl rfl ?_ | refine L_pick_f rfl rfl rfl ?_
   refine L_assign rfl rfl ?_
   refine RL_nil' ?_
   refine Nx_cutP (true, _) (is := [0, 3, 6]) (I' := (fun (bad : Bool) (w : World) => (bad = (nm == ⟨#[]⟩ || decide (n < 3) || decide (64 < n))) ∧ (HS w0 w ((b3, Row 40 [.string nm, .slice a n c]) :: (gbs B far (.slice ao zs.length cz) M ever m es ck zs ++ R)))) (true) (_)) rfl rfl rfl ?_
   exact ⟨by rw [h1]; rfl, hs⟩
 ·
  clear hs
  intro bad w hI
  show W _ _ _ _ [(0, .pointer (some ⟨B, 0, none⟩)), (3, .pointer (some ⟨b3, 0, none⟩)), (6, .bool bad)] w
  obtain ⟨hbad, hs⟩ := hI
  refine W_seq ?_
  refine W_cut2 (fun (bad2 : Bool) (w : World) => [(0, .pointer (some ⟨B, 0, none⟩)), (3, .pointer (some ⟨b3, 0, none⟩)), (6, .bool bad2)]) (fun (bad2 : Bool) (w : World) => w) (fun (bad2 : Bool) (w : World) => (bad2 = (bad || zs.any (fun z => z.name == nm))) ∧ (HS w0 w ((b3, Row 40 [.string nm, .slice a n c]) :: (gbs B far (.slice ao zs.length cz) M ever m es ck zs ++ R)))) ?_ ?_
  ·
   rcases (Bool.eq_false_or_eq_true bad).symm with hz | hz
   ·
    refine W_set 6 (v' := .bool false) rfl (by rw [hz]) ?_
    refine W_region ?_
    refine L_move rfl rfl ?_
    refine L_move rfl rfl ?_
    first | (refine RL_want rfl rfl ?_; refine L_move rfl rfl ?_) | refine RL_skip rfl rfl rfl rfl ?_ | refine RL_skipU rfl rfl rfl ?_
    first | (refine RL_want rfl rfl ?_; refine L_nilCheck rfl rfl ?_) | refine RL_skip rfl rfl rfl rfl ?_ | refine RL_skipU rfl rfl rfl ?_
    first | (refine RL_want rfl rfl ?_; refine L_fieldAddr rfl (off := 1) Try.underlying87 rfl rfl Try.ti85 rfl ?_) | refine RL_skip rfl rfl rfl rfl ?_ | refine RL_skipU rfl rfl rfl ?_
    first | (refine RL_want rfl rfl ?_; refine L_load rfl Try.one85 rfl (by first | exact hs.cell (i := 0) rfl rfl | exact hs.cell (i := 1) rfl rfl) ?_) | refine RL_skip rfl rfl rfl rfl ?_ | refine RL_skipU rfl rfl rfl ?_
    first | (refine RL_want rfl rfl ?_; refine RL_val rfl (R_makeFunc rfl rfl) ?_) | refine RL_skip rfl rfl rfl rfl ?_ | refine RL_skipU rfl rfl rfl ?_
    refine RL_want rfl rfl ?_
    refine L_call rfl Try.fun33 rfl (zcontains_ok 34 [.pointer (some ⟨b3, 0, none⟩)] (fun z => z.name == nm) Try.fun34 ao zs.length cz zs w (fun i w' hi h => same_name (zs.getD i zn0) b3 nm (.slice a n c) w' (h.oldcell (hs.cell (i := 0) rfl rfl) (by simp))) (Bl.slcM hb hs (fun p hp => List.mem_cons_of_mem _ (List.mem_append_left _ (List.mem_cons_of_mem _ (List.mem_cons_of_mem _ (List.mem_append_left _ hp)))))) rfl (by omega)) ?_
    rintro _ w ⟨rfl, hs'⟩
    replace hs := hs.nil hs'
    clear hs'
    first | refine L_pick_t rfl rfl rfl ?_ | refine L_pick_f rfl rfl rfl ?_
    refine L_assign rfl rfl ?_
    refine RL_nil' ?_
    refine Nx_cutP (_, _) (is := [0, 3, 6]) (I' := (fun (bad2 : Bool) (w : World) => (bad2 = (bad || zs.any (fun z => z.name == nm))) ∧ (HS w0 w ((b3, Row 40 [.string nm, .slice a n c]) :: (gbs B far (.slice ao zs.length cz) M ever m es ck zs ++ R)))) (_) (_)) rfl rfl rfl ?_
    exact ⟨by rw [hz, Bool.false_or], hs⟩
   ·
    refine W_set 6 (v' := .bool true) rfl (by rw [hz]) ?_
    refine W_region ?_
    refine L_move rfl rfl ?_
    refine L_move rfl rfl ?_
    first | (refine RL_want rfl rfl ?_; refine L_move rfl rfl ?_) | refine RL_skip rfl rfl rfl rfl ?_ | refine RL_skipU rfl rfl rfl ?_
    first | (refine RL_want rfl rfl ?_; refine L_nilCheck rfl rfl ?_) | refine RL_skip rfl rfl rfl rfl ?_ | refine RL_skipU rfl rfl rfl ?_
    first | (refine RL_want rfl rfl ?_; refine L_fieldAddr rfl (off := 1) Try.underlying87 rfl rfl Try.ti85 rfl ?_) | refine RL_skip rfl rfl rfl rfl ?_ | refine RL_skipU rfl rfl rfl ?_
    first | (refine RL_want rfl rfl ?_; refine L_load rfl Try.one85 rfl (by first | exact hs.cell (i := 0) rfl rfl | exact hs.cell (i := 1) rfl rfl) ?_) | refine RL_skip rfl rfl rfl rfl ?_ | refine RL_skipU rfl rfl rfl ?_
    first | (refine RL_want rfl rfl ?_; refine RL_val rfl (R_makeFunc rfl rfl) ?_) | refine RL_skip rfl rfl rfl rfl ?_ | refine RL_skipU rfl rfl rfl ?_
    refine RL_skip rfl rfl rfl rfl ?_
    first | refine L_pick_t rfl rfl rfl ?_ | refine L_pick_f rfl rfl rfl ?_
    refine L_assign rfl rfl ?_
    refine RL_nil' ?_
    refine Nx_cutP (true, _) (is := [0, 3, 6]) (I' := (fun (bad2 : Bool) (w : World) => (bad2 = (bad || zs.any (fun z => z.name == nm))) ∧ (HS w0 w ((b3, Row 40 [.string nm, .slice a n c]) :: (gbs B far (.slice ao zs.length cz) M ever m es ck zs ++ R)))) (true) (_)) rfl rfl rfl ?_
    exact ⟨by rw [hz]; rfl, hs⟩
  ·
   clear hs
   intro bad2 w hI
   show W _ _ _ _ [(0, .pointer (some ⟨B, 0, none⟩)), (3, .pointer (some ⟨b3, 0, none⟩)), (6, .bool bad2)] w
   obtain ⟨hbad2, hs⟩ := hI
   refine W_seq ?_
   refine W_cut2 (fun (bad3 : Bool) (w : World) => [(0, .pointer (some ⟨B, 0, none⟩)), (3, .pointer (some ⟨b3, 0, none⟩)), (6, .bool bad3)]) (fun (bad3 : Bool) (w : World) => w) (fun (bad3 : Bool) (w : World) => (bad3 = (bad2 || ps.any pnf)) ∧ (HS w0 w ((b3, Row 40 [.string nm, .slice a n c]) :: (gbs B far (.slice ao zs.length cz) M ever m es ck zs ++ R)))) ?_ ?_
   ·
    rcases (Bool.eq_false_or_eq_true bad2).symm with hz | hz
    ·
     refine W_set 6 (v' := .bool false) rfl (by rw [hz]) ?_
     refine W_region ?_
     refine L_move rfl rfl ?_
     refine L_move rfl rfl ?_
     first | (refine RL_want rfl rfl ?_; refine L_fieldAddr rfl (off := 1) Try.underlying40 rfl rfl Try.ti22 rfl ?_) | refine RL_skip rfl rfl rfl rfl ?_ | refine RL_skipU rfl rfl rfl ?_
     first | (refine RL_want rfl rfl ?_; refine L_load rfl Try.one22 rfl (by first | exact hs.cell (i := 0) rfl rfl | exact hs.cell (i := 1) rfl rfl) ?_) | refine RL_skip rfl rfl rfl rfl ?_ | refine RL_skipU rfl rfl rfl ?_
     refine RL_want rfl rfl ?_
     refine L_call rfl Try.fun35 rfl (pcontains_ok a n c ps w (hA w _ hs ho hRm) hn hn2) ?_
     rintro _ w ⟨rfl, hs'⟩
     replace hs := hs.nil hs'
     clear hs'
     first | refine L_pick_t rfl rfl rfl ?_ | refine L_pick_f rfl rfl rfl ?_
     refine L_assign rfl rfl ?_
     refine RL_nil' ?_
     refine Nx_cutP (_, _) (is := [0, 3, 6]) (I' := (fun (bad3 : Bool) (w : World) => (bad3 = (bad2 || ps.any pnf)) ∧ (HS w0 w ((b3, Row 40 [.string nm, .slice a n c]) :: (gbs B far (.slice ao zs.length cz) M ever m es ck zs ++ R)))) (_) (_)) rfl rfl rfl ?_
     exact ⟨by rw [hz, Bool.false_or], hs⟩
    ·
     refine W_set 6 (v' := .bool true) rfl (by rw [hz]) ?_
     refine W_region ?_
     refine L_move rfl rfl ?_
     refine L_move rfl rfl ?_
     first | (refine RL_want rfl rfl ?_; refine L_fieldAddr rfl (off := 1) Try.underlying40 rfl rfl Try.ti22 rfl ?_) | refine RL_skip rfl rfl rfl rfl ?_ | refine RL_skipU rfl rfl rfl ?_
     first | (refine RL_want rfl rfl ?_; refine L_load rfl Try.one22 rfl (by first | exact hs.cell (i := 0) rfl rfl | exact hs.cell (i := 1) rfl rfl) ?_) | refine RL_skip rfl rfl rfl rfl ?_ | refine RL_skipU rfl rfl rfl ?_
     refine RL_skip rfl rfl rfl rfl ?_
     first | refine L_pick_t rfl rfl rfl ?_ | refine L_pick_f rfl rfl rfl ?_
     refine L_assign rfl rfl ?_
     refine RL_nil' ?_
     refine Nx_cutP (true, _) (is := [0, 3, 6]) (I' := (fun (bad3 : Bool) (w : World) => (bad3 = (bad2 || ps.any pnf)) ∧ (HS w0 w ((b3, Row 40 [.string nm, .slice a n c]) :: (gbs B far (.slice ao zs.length cz) M ever m es ck zs ++ R)))) (true) (_)) rfl rfl rfl ?_
     exact ⟨by rw [hz]; rfl, hs⟩
   ·
    clear hs
    intro bad3 w hI
    show W _ _ _ _ [(0, .pointer (some ⟨B, 0, none⟩)), (3, .pointer (some ⟨b3, 0, none⟩)), (6, .bool bad3)] w
    obtain ⟨hbad3, hs⟩ := hI
    rw [hbad2, hbad, ← hn] at hbad3
    refine W_seq ?_
    refine W_block ?_
    refine W_seq ?_
    refine W_region ?_
    refine L_move rfl rfl ?_
    refine L_assign rfl rfl ?_
    refine RL_then ?_
    cases bad3
    ·
     refine W_if_false rfl ?_
     by_cases hfull : 64 ≤ zs.length
     ·
      refine W_seq ?_
      refine W_region ?_
      refine L_move rfl rfl ?_
      refine L_nilCheck rfl rfl ?_
      refine L_fieldAddr rfl (off := 1) Try.underlying87 rfl rfl Try.ti85 rfl ?_
      refine L_load rfl Try.one85 rfl (by first | exact hs.cell (i := 0) rfl rfl | exact hs.cell (i := 1) rfl rfl) ?_
      refine L_len rfl Try.underlying85 rfl ?_
      first | refine L_geq rfl rfl rfl (dtrue (by omega)) ?_ | refine L_geq rfl rfl rfl (dfalse (by omega)) ?_ | refine L_geq rfl rfl rfl rfl ?_
      refine L_assign rfl rfl ?_
      refine RL_then ?_
      refine W_if_true rfl ?_
      refine W_seq ?_
      refine W_region ?_
      refine L_assign rfl rfl ?_
      refine L_assign rfl rfl ?_
      refine RL_then ?_
      refine W_ret' ?_
      refine Ex_block_ret ?_
      refine Ex_then_ret ?_
      refine Ex_done2 rfl rfl rfl ?_
      have e : addE zs nm ps = 4 := by unfold addE; rw [← hbad3, if_neg (by decide), if_pos hfull]
      exact ⟨_, rfl, .inr ⟨by rw [e]; decide, by rw [e], HS.pop hs hb3⟩⟩
     ·
      have e : addE zs nm ps = 0 := by unfold addE; rw [← hbad3, if_neg (by decide), if_neg hfull]
      have hps : ps.length ≤ 64 := by
       have := hbad3.symm
       simp only [Bool.or_eq_false_iff, decide_eq_false_iff_not] at this
       omega
      refine W_seq ?_
      refine W_region ?_
      refine L_move rfl rfl ?_
      refine L_nilCheck rfl rfl ?_
      refine L_fieldAddr rfl (off := 1) Try.underlying87 rfl rfl Try.ti85 rfl ?_
      refine L_load rfl Try.one85 rfl (by first | exact hs.cell (i := 0) rfl rfl | exact hs.cell (i := 1) rfl rfl) ?_
      refine L_len rfl Try.underlying85 rfl ?_
      first | refine L_geq rfl rfl rfl (dtrue (by omega)) ?_ | refine L_geq rfl rfl rfl (dfalse (by omega)) ?_ | refine L_geq rfl rfl rfl rfl ?_
      refine L_assign rfl rfl ?_
      refine RL_then ?_
      refine W_if_false rfl ?_
      refine W_skip' ?_
      refine Nx_block ?_
      refine Nx_then ?_
      refine W_seq ?_
      refine W_region ?_
      refine L_move rfl rfl ?_
      refine L_nilCheck rfl rfl ?_
      refine L_fieldAddr rfl (off := 2) Try.underlying87 rfl rfl Try.ti3 rfl ?_
      refine L_load rfl Try.one3 rfl (by first | exact hs.cell (i := 0) rfl rfl | exact hs.cell (i := 1) rfl rfl) ?_
      first | refine L_add rfl rfl rfl (wrp_i64 (by omega)) ?_ | refine L_add rfl rfl rfl rfl ?_
      refine L_nilCheck rfl rfl ?_
      refine L_fieldAddr rfl (off := 2) Try.underlying87 rfl rfl Try.ti3 rfl ?_
      first | (refine L_store hs (i := 0) rfl Try.ti3 rfl rfl (by first | rfl | exact add_lit0 _ _ | exact Addr.add_lit .. | (rw [add_add]; exact add_lit0 _ _)) (by simp) rfl ?_; intro w hs; try dsimp only [List.set_cons_succ, List.set_cons_zero, List.cons_append, List.nil_append] at hs) | (refine L_store hs (i := 1) rfl Try.ti3 rfl rfl (by first | rfl | exact add_lit0 _ _ | exact Addr.add_lit .. | (rw [add_add]; exact add_lit0 _ _)) (by simp) rfl ?_; intro w hs; try dsimp only [List.set_cons_succ, List.set_cons_zero, List.cons_append, List.nil_append] at hs)
      refine RL_then ?_
      refine W_seq ?_
      refine W_region ?_
      refine L_fieldAddr rfl (off := 1) Try.underlying40 rfl rfl Try.ti22 rfl ?_
      refine L_load rfl Try.one22 rfl (by first | exact hs.cell (i := 0) rfl rfl | exact hs.cell (i := 1) rfl rfl) ?_
      replace hs : HS w0 w ((b3, Row 40 [.string nm, .slice a n c]) :: (gbs B far (.slice ao zs.length cz) M (ever + 1) m es ck zs ++ R)) := hs
      have ho1 : Own w0 ((b3, Row 40 [.string nm, .slice a n c]) :: (gbs B far (.slice ao zs.length cz) M (ever + 1) m es ck zs ++ R)) := Own.cons hb3 (hN.owns.app hR)
      refine L_call rfl Try.fun37 rfl (clone_ok a n c ps w (hA w _ hs ho1 (fun p hp => List.mem_cons_of_mem _ (List.mem_append_right _ hp))) hn hn2) ?_
      rintro zv w1 ⟨M1, hs', hb1⟩
      have hs1 := hs.call hs' hb1.own
      replace hb1 := hb1.mono hs.size
      clear hs hs'
      have hs := hs1
      clear hs1
      obtain ⟨a2, c2, rfl, hc2⟩ := hb1.slice
      refine L_fieldAddr rfl (off := 1) Try.underlying40 rfl rfl Try.ti22 rfl ?_
      first | (refine L_store hs (i := 0) rfl Try.ti22 rfl rfl (by first | rfl | exact add_lit0 _ _ | exact Addr.add_lit .. | (rw [add_add]; exact add_lit0 _ _)) (by simp) rfl ?_; intro w hs; try dsimp only [List.set_cons_succ, List.set_cons_zero, List.cons_append, List.nil_append] at hs) | (refine L_store hs (i := 1) rfl Try.ti22 rfl rfl (by first | rfl | exact add_lit0 _ _ | exact Addr.add_lit .. | (rw [add_add]; exact add_lit0 _ _)) (by simp) rfl ?_; intro w hs; try dsimp only [List.set_cons_succ, List.set_cons_zero, List.cons_append, List.nil_append] at hs)
      refine RL_then ?_
      refine W_seq ?_
      refine W_sg Try.mixed ?_
      replace hs := hs.drewN 1
      refine SG_stageB [0, 1, 2, 3, 5, 6, 7] [4, 8, 9, 10, 11] [12, 13, 14, 15] (noBk (fun _ _ _ => False)) (g' := 0) (by kernel_rfl) (by kernel_rfl) (fun _ _ _ _ _ h => h) hs ?_
      refine PL_val rfl (fun w => R_move rfl) ?_
      refine PL_val rfl (fun w => R_move rfl) ?_
      refine PL_val rfl (fun w => R_nilCheck rfl) ?_
      refine PL_val rfl (fun w => R_fieldAddr (off := 1) Try.underlying87 rfl rfl Try.ti85 rfl) ?_
      refine PL_val rfl (fun w => R_move rfl) ?_
      refine PL_val rfl (fun w => R_nilCheck rfl) ?_
      refine PL_val rfl (fun w => R_fieldAddr (off := 2) Try.underlying87 rfl rfl Try.ti3 rfl) ?_
      refine PL_endB ?_
      refine HB_val rfl (fun w R hR hs => R_load Try.one85 rfl (by first | exact hs.cell (i := 0) rfl rfl | exact hs.cell (i := 1) rfl rfl)) ?_
      refine HB_val rfl (fun w R hR hs => R_load Try.one3 rfl (by first | exact hs.cell (i := 0) rfl rfl | exact hs.cell (i := 1) rfl rfl)) ?_
      refine HB_val rfl (fun w R hR hs => R_loadA Try.agg40 Try.ti40 rfl (by exact cellsAt_whole (cs := [.string nm, .slice a2 n c2]) (hs.get (i := 0) rfl))) ?_
      refine HB_val rfl (fun w R hR hs => R_build rfl (Pl.builtN Try.pl90 rfl)) ?_
      refine HB_buildSlice rfl Try.underlying85 Try.ti90 rfl (by decide) rfl (by simp [Value.cells]) ?_
      intro b70 hb70
      refine HB_tail ?_
      intro w hs
      have h0 : HS w0 w (((b3, Row 40 [.string nm, .slice a2 n c2]) :: (B, Row 87 [.float .f64 far, .slice ao zs.length cz, .int .i64 (ever + 1), .map (some m)]) :: (m, KO es ck) :: (M ++ zms zs ++ R ++ M1)) ++ [(b70, Row 90 [.int .i64 (ever + 1), .string nm, .slice a2 n c2])]) := hs
      replace hs : HS w0 w ((((b3, Row 40 [.string nm, .slice a2 n c2]) :: (B, Row 87 [.float .f64 far, .slice ao zs.length cz, .int .i64 (ever + 1), .map (some m)]) :: (m, KO es ck) :: (zms zs ++ R ++ M1)) ++ M) ++ [(b70, Row 90 [.int .i64 (ever + 1), .string nm, .slice a2 n c2])]) := HS.re h0 (fun c => by simp only [List.map_append, List.map_cons, List.map_nil, List.sum_append, List.sum_cons, List.sum_nil]; omega)
      clear h0
      refine L_appendT (L := (b3, Row 40 [.string nm, .slice a2 n c2]) :: (B, Row 87 [.float .f64 far, .slice ao zs.length cz, .int .i64 (ever + 1), .map (some m)]) :: (m, KO es ck) :: (zms zs ++ R ++ M1)) rfl Try.underlying85 Try.ti90 rfl hs hb70 hb rfl rfl rfl (by simp [Value.oneCell']) (by omega) (by omega) ?_
      intro v' w M' hs hb'
      obtain ⟨ao', c', rfl, hkc'⟩ := hb'.slice
      refine L_nilCheck rfl rfl ?_
      refine L_fieldAddr rfl (off := 1) Try.underlying87 rfl rfl Try.ti85 rfl ?_
      refine L_store hs (i := 1) rfl Try.ti85 rfl rfl (by first | rfl | exact add_lit0 _ _ | exact Addr.add_lit .. | (rw [add_add]; exact add_lit0 _ _)) (by simp) rfl ?_
      intro w hs
      try dsimp only [List.set_cons_succ, List.set_cons_zero, List.cons_append, List.nil_append] at hs
      refine RL_sg ?_
      refine SG_end (by kernel_rfl) ?_
      refine Nx_then ?_
      refine W_seq ?_
      refine W_region ?_
      refine L_move rfl rfl ?_
      refine L_nilCheck rfl rfl ?_
      refine L_fieldAddr rfl (off := 2) Try.underlying87 rfl rfl Try.ti3 rfl ?_
      refine L_load rfl Try.one3 rfl (by first | exact hs.cell (i := 0) rfl rfl | exact hs.cell (i := 1) rfl rfl) ?_
      refine L_assign rfl rfl ?_
      refine L_assign rfl rfl ?_
      refine RL_then ?_
      refine W_ret' ?_
      refine Ex_done2 rfl rfl rfl ?_
      refine ⟨_, rfl, .inl ⟨e, .slice ao' (zs.length + 1) c', M', .slice a2 n c2, M1, rfl, ?_, ?_⟩⟩
      ·
       replace hs : HS w0 w ((b3, Row 40 [.string nm, .slice a2 n c2]) :: (((B, Row 87 [.float .f64 far, .slice ao' (zs.length + 1) c', .int .i64 (ever + 1), .map (some m)]) :: (m, KO es ck) :: (zms zs ++ R ++ M1)) ++ M')) := hs
       replace hs := HS.pop hs hb3
       rw [gbs, zms_app, show zms [⟨ever + 1, nm, ps, .slice a2 n c2, M1⟩] = M1 by simp [zms]]
       exact HS.re hs (fun c => by simp only [List.map_append, List.map_cons, List.map_nil, List.sum_append, List.sum_cons, List.sum_nil]; omega)
      ·
       refine ⟨hN.ownB, hN.ownm, ?_, fun z hz => (List.mem_append.1 hz).elim (hN.each z) fun h => ?_, by rw [List.length_append, List.length_singleton]; omega, hN.map⟩
       ·
        rw [List.length_append, zcs_app]
        exact hb'
       ·
        rw [List.mem_singleton.1 h]
        exact ⟨by rw [hn]; exact hb1, hps⟩
    ·
     refine W_if_true rfl ?_
     refine W_seq ?_
     refine W_region ?_
     refine L_assign rfl rfl ?_
     refine L_assign rfl rfl ?_
     refine RL_then ?_
     refine W_ret' ?_
     refine Ex_block_ret ?_
     refine Ex_then_ret ?_
     refine Ex_done2 rfl rfl rfl ?_
     have e : addE zs nm ps = 290 := by unfold addE; rw [← hbad3, if_pos rfl]
     exact ⟨_, rfl, .inr ⟨by rw [e]; decide, by rw [e], HS.pop hs hb3⟩⟩
end Go.Proofs.Ytoiobncojfeoiaa
