/-
 A part of the proof: laws for walks, and plain laws, over any program of the model. Each theorem holds under its own premises alone.
-/
import Derived.Test.YtknpoemkmcdgcaaTNW6
import Derived.Test.YtknpoemkmcdgcaaKit
namespace Go.Proofs.Ytknpoemkmcdgcaa
open Go Go.Lk
/-! ### Add and Tell as functions on bare lists; a pair of nets in memory -/
def bares (rs : List Rd) : List Rd := rs.map Rd.bare
theorem bares_len (rs : List Rd) : (bares rs).length = rs.length := List.length_map ..
def addB (l : List Rd) (x y t : Nat) : List Rd := if addE l.length x y t = 0 then l ++ [⟨x, y, t, none, 0, []⟩] else l
def addK (n x y t : Nat) : Int := if addE n x y t = 0 then n else 0
def tellB (l : List Rd) (q : Int) (ts : List Tk) : List Rd := if tellE l.length q ts = 0 then l.set q.toNat ⟨(l.getD q.toNat rd0).x, (l.getD q.toNat rd0).y, (l.getD q.toNat rd0).t, none, 0, firm ts⟩ else l
theorem bares_get {rs : List Rd} {i : Nat} (h : i < rs.length) : (bares rs).getD i rd0 = (rs.getD i rd0).bare := by
 unfold bares
 rw [List.getD_eq_getElem?_getD, List.getElem?_map, List.getElem?_eq_getElem h, List.getD_eq_getElem?_getD, List.getElem?_eq_getElem h]; rfl
theorem bares_add (ms : List RM) (x y t : Nat) (h : addE ms.length x y t = 0) : bares (rds (ms ++ [⟨⟨x, y, t, none, 0, []⟩, []⟩])) = addB (bares (rds ms)) x y t := by
 unfold addB
 rw [bares_len, rds_len, if_pos h]
 unfold rds bares
 rw [List.map_append, List.map_append]; rfl
theorem bares_tell {ms ms' : List RM} {q : Nat} {a : Option Addr} {c : Nat} {ts : List Tk} (h : tellE ms.length (q : Int) ts = 0) (hq : q < ms.length) (hr : rds ms' = (rds ms).set q ⟨((rds ms).getD q rd0).x, ((rds ms).getD q rd0).y, ((rds ms).getD q rd0).t, a, c, firm ts⟩) : bares (rds ms') = tellB (bares (rds ms)) (q : Int) ts := by
 unfold tellB
 rw [bares_len, rds_len, if_pos h, hr, Int.toNat_natCast, bares_get (by rw [rds_len]; exact hq)]
 unfold bares
 rw [List.map_set]; rfl
theorem addA (w0 w : World) (B far : Nat) (v : Value) (M R : Bks) (ms : List RM) (x y t : Nat) (hs : HS w0 w (nbs B far v M ms ++ R)) (hN : NetOk w0 B v M ms) (hx : x < 18446744073709551616) (hy : y < 18446744073709551616) (ht : t < 18446744073709551616) :
  Ret Try.prog 20 [.pointer (some ⟨B, 0, none⟩), .agg #[.float .f64 x, .float .f64 y, .float .f64 t]] w fun r w' => r = .tuple #[.int .i64 (addK ms.length x y t), .int .i64 (addE ms.length x y t)] ∧ ∃ v' M' ms', HS w0 w' (nbs B far v' M' ms' ++ R) ∧ NetOk w0 B v' M' ms' ∧ bares (rds ms') = addB (bares (rds ms)) x y t := by
 refine Calls.mono (addG w0 w B far v M R ms x y t hs hN hx hy ht) fun e w' => ?_
 rintro ⟨r, rfl, ⟨h0, v', M', rfl, hs', hN'⟩ | ⟨h0, rfl, hs'⟩⟩
 ·
  exact ⟨_, rfl, by unfold addK; rw [if_pos h0, h0], v', M', _, hs', hN', bares_add ms x y t h0⟩
 ·
  exact ⟨_, rfl, by unfold addK; rw [if_neg h0], v, M, ms, hs', hN, by unfold addB; rw [bares_len, rds_len, if_neg h0]⟩
theorem raddA (w0 w : World) (B far : Nat) (vS vT : Value) (MS MT R : Bks) (ms : List RM) (x y t : Nat) (hs : HS w0 w (dbs B far vS MS vT MT ms ++ R)) (hN : DOk w0 B vS MS vT MT ms) (hx : x < 18446744073709551616) (hy : y < 18446744073709551616) (ht : t < 18446744073709551616) :
  Ret Try.prog 32 [.pointer (some ⟨B, 0, none⟩), .agg #[.float .f64 x, .float .f64 y, .float .f64 t]] w fun r w' => r = .tuple #[.int .i64 (addK ms.length x y t), .int .i64 (addE ms.length x y t)] ∧ ∃ vS' MS' vT' MT' ms', HS w0 w' (dbs B far vS' MS' vT' MT' ms' ++ R) ∧ DOk w0 B vS' MS' vT' MT' ms' ∧ bares (rds ms') = addB (bares (rds ms)) x y t := by
 refine Calls.mono (raddN w0 w B far vS MS vT MT R ms x y t hs hN hx hy ht) fun e w' => ?_
 rintro ⟨r, rfl, ⟨h0, vS', MS', vT', MT', rfl, hs', hN'⟩ | ⟨h0, rfl, hs'⟩⟩
 ·
  exact ⟨_, rfl, by unfold addK; rw [if_pos h0, h0], vS', MS', vT', MT', _, hs', hN', bares_add ms x y t h0⟩
 ·
  exact ⟨_, rfl, by unfold addK; rw [if_neg h0], vS, MS, vT, MT, ms, hs', hN, by unfold addB; rw [bares_len, rds_len, if_neg h0]⟩
theorem tellA (w0 w : World) (B far : Nat) (v : Value) (M R : Bks) (ms : List RM) (q : Int) (a : Option Addr) (n c : Nat) (ts : List Tk) (hs : HS w0 w (nbs B far v M ms ++ R)) (hN : NetOk w0 B v M ms)
  (hoR : Own w0 R) (hA : ∀ w' L', HS w0 w' L' → Own w0 L' → (∀ p ∈ R, p ∈ L') → SlC w' a (tcs ts)) (hn : ts.length = n) (hn2 : n ≤ 1000000000) (hlt : ∀ i, i < n → TkLt (ts.getD i tk0)) :
  Ret Try.prog 21 [.pointer (some ⟨B, 0, none⟩), .int .i64 q, .slice a n c] w fun r w' => r = .int .i64 (tellE ms.length q ts) ∧ ∃ M' ms', HS w0 w' (nbs B far v M' ms' ++ R) ∧ NetOk w0 B v M' ms' ∧ bares (rds ms') = tellB (bares (rds ms)) q ts := by
 refine Calls.mono (tellG w0 w B far v M R ms q a n c ts hs hN hoR (fun w' L' h1 h2 h3 => hA w' L' h1 h2 (fun p hp => h3 p (List.mem_append_right _ hp))) hn hn2 hlt) fun e w' => ?_
 rintro ⟨r, rfl, rfl, ⟨h0, hs'⟩ | ⟨h0, q', a3, c3, M', ms', rfl, hq', hs', hN', hr⟩⟩
 ·
  exact ⟨_, rfl, rfl, M, ms, hs', hN, by unfold tellB; rw [bares_len, rds_len, if_neg h0]⟩
 ·
  exact ⟨_, rfl, rfl, M', ms', hs', hN', bares_tell h0 hq' hr⟩
theorem rtellA (w0 w : World) (B far : Nat) (vS vT : Value) (MS MT R : Bks) (ms : List RM) (q : Int) (a : Option Addr) (n c : Nat) (ts : List Tk) (hs : HS w0 w (dbs B far vS MS vT MT ms ++ R)) (hN : DOk w0 B vS MS vT MT ms)
  (hoR : Own w0 R) (hA : ∀ w' L', HS w0 w' L' → Own w0 L' → (∀ p ∈ R, p ∈ L') → SlC w' a (tcs ts)) (hn : ts.length = n) (hn2 : n ≤ 1000000000) (hlt : ∀ i, i < n → TkLt (ts.getD i tk0)) :
  Ret Try.prog 33 [.pointer (some ⟨B, 0, none⟩), .int .i64 q, .slice a n c] w fun r w' => r = .int .i64 (tellE ms.length q ts) ∧ ∃ MT' ms', HS w0 w' (dbs B far vS MS vT MT' ms' ++ R) ∧ DOk w0 B vS MS vT MT' ms' ∧ bares (rds ms') = tellB (bares (rds ms)) q ts := by
 refine Calls.mono (rtellN w0 w B far vS MS vT MT R ms q a n c ts hs hN hoR (fun w' L' h1 h2 h3 => hA w' L' h1 h2 (fun p hp => h3 p (List.mem_append_right _ hp))) hn hn2 hlt) fun e w' => ?_
 rintro ⟨r, rfl, rfl, ⟨h0, hs'⟩ | ⟨h0, q', a3, c3, M', ms', rfl, hq', hs', hN', hr⟩⟩
 ·
  exact ⟨_, rfl, rfl, MT, ms, hs', hN, by unfold tellB; rw [bares_len, rds_len, if_neg h0]⟩
 ·
  exact ⟨_, rfl, rfl, M', ms', hs', hN', bares_tell h0 hq' hr⟩
/-- a net and the document's, of the same radars -/
structure PN where
 B : Nat
 D : Nat
 v : Value
 M : Bks
 ms : List RM
 vS : Value
 MS : Bks
 vT : Value
 MT : Bks
 ns : List RM
abbrev PN.nb (p : PN) (far : Nat) : Bks := nbs p.B far p.v p.M p.ms
abbrev PN.db (p : PN) (far : Nat) : Bks := dbs p.D far p.vS p.MS p.vT p.MT p.ns
def PN.bks (p : PN) (far : Nat) : Bks := p.nb far ++ p.db far
structure PN.Ok (w0 : World) (p : PN) : Prop where
 n : NetOk w0 p.B p.v p.M p.ms
 d : DOk w0 p.D p.vS p.MS p.vT p.MT p.ns
 same : bares (rds p.ms) = bares (rds p.ns)
theorem PN.Ok.len {w0 : World} {p : PN} (h : p.Ok w0) : p.ns.length = p.ms.length := by
 have := congrArg List.length h.same
 rw [bares_len, bares_len, rds_len, rds_len] at this; exact this.symm
theorem PN.Ok.own {w0 : World} {p : PN} (h : p.Ok w0) (far : Nat) : Own w0 (p.bks far) := h.n.owns.app h.d.owns
def tk77 (z : Int) : Tk := ⟨z, 0, 0, 0, 0, 0, 0, 0, 0, 0, 0, 0, 0, 0, 0⟩
/-- what the operations of 'mine := append(append([]Track{}, l...), Track{Id: 77})[:len(l)]' yield, in whatever order -/
def mineP (w0 : World) (b5 : Nat) (a : Option Addr) (n c : Nat) (ts : List Tk) (o : Nat) (v : Value) (m : Bks) : Prop :=
 match o with
 | 0 => Bl w0 48 15 v 0 [] m
 | 1 | 7 => v = .pointer (some ((Addr.mk b5 0 none).add 5)) ∧ m = []
 | 2 | 8 => v = .slice a n c ∧ m = []
 | 3 => Bl w0 48 15 v n (tcs ts) m
 | 4 => v = .agg (tk77 77).cells.toArray ∧ m = []
 | 5 => ∃ b, v = .slice (some ⟨b, 0, none⟩) 1 1 ∧ m = [(b, Row 48 (tk77 77).cells)]
 | 6 => Bl w0 48 15 v (n + 1) (tcs ts ++ (tk77 77).cells) m
 | 9 => v = .int .i64 n ∧ m = []
 | _ => ∃ g cap sp, v = .slice (some ⟨g, 0, none⟩) n cap ∧ n + 1 ≤ cap ∧ (tcs ts ++ (tk77 77).cells ++ sp).length = cap * 15 ∧ m = [(g, Row 48 (tcs ts ++ (tk77 77).cells ++ sp))]
end Go.Proofs.Ytknpoemkmcdgcaa

namespace Go.Proofs.Ytknpoemkmcdgcaa
open Go Go.Lk
/-! ### The chapter's 'move', on both nets -/
def mvE (do' : Int) (x y t : Nat) (q : Int) (ts : List Tk) (l : List Rd) : List Rd := if do' = 0 then addB l x y t else if do' = 1 then tellB l q ts else l
set_option maxHeartbeats 1000000 in
theorem move_ok (w0 w : World) (far : Nat) (p : PN) (R : Bks) (do' : Int) (x y t : Nat) (q : Int) (a : Option Addr) (n c : Nat) (ts : List Tk) (hs : HS w0 w (p.bks far ++ R)) (hp : p.Ok w0) (hoR : Own w0 R)
  (hx : x < 18446744073709551616) (hy : y < 18446744073709551616) (ht : t < 18446744073709551616)
  (hA : ∀ w' L', HS w0 w' L' → Own w0 L' → (∀ p ∈ R, p ∈ L') → SlC w' a (tcs ts)) (hn : ts.length = n) (hn2 : n ≤ 1000000) (hlt : ∀ i, i < n → TkLt (ts.getD i tk0)) :
  Ret Try.prog 14 [.pointer (some ⟨p.B, 0, none⟩), .pointer (some ⟨p.D, 0, none⟩), .agg #[.int .i64 do', .float .f64 x, .float .f64 y, .float .f64 t, .int .i64 q, .slice a n c]] w fun r w' => r = .bool true ∧ ∃ p' : PN, p'.B = p.B ∧ p'.D = p.D ∧ HS w0 w' (p'.bks far ++ R) ∧ p'.Ok w0 ∧ bares (rds p'.ms) = mvE do' x y t q ts (bares (rds p.ms)) := by
 obtain ⟨B, D, v, M, ms, vS, MS, vT, MT, ns⟩ := p
 have hN : NetOk w0 B v M ms := hp.n
 have hD : DOk w0 D vS MS vT MT ns := hp.d
 have hsame : bares (rds ms) = bares (rds ns) := hp.same
 have hlen : ns.length = ms.length := hp.len
 replace hs : HS w0 w ((nbs B far v M ms ++ dbs D far vS MS vT MT ns) ++ R) := hs
 refine calls_of_W Try.func14 rfl rfl rfl (W_seq (W_region ?_))
 refine L_box rfl hs rfl ?_; intro b5 w hb5 _ hs; replace hs := HS.push hs
 refine L_assign rfl rfl (RL_then (W_seq (W_seq (W_region ?_))))
 replace hs : HS w0 w ((b5, Row 40 [.int .i64 do', .float .f64 x, .float .f64 y, .float .f64 t, .int .i64 q, .slice a n c]) :: ((nbs B far v M ms ++ dbs D far vS MS vT MT ns) ++ R)) := hs
 by_cases h0 : do' = 0
 ·
  subst h0
  refine L_fieldAddr rfl (off := 0) Try.underlying40 rfl rfl Try.ti3 rfl (L_load rfl Try.one3 rfl (by exact hs.cell (i := 0) rfl rfl) ?_)
  refine RL_then (W_block (W_seq (W_region (L_eql rfl rfl rfl (dtrue (by omega)) ?_))))
  refine L_assign rfl rfl (RL_then (W_if_true rfl (W_seq (W_region (L_move rfl rfl (L_fieldAddr rfl (off := 1) Try.underlying40 rfl rfl Try.ti37 rfl (L_loadA rfl Try.agg37 Try.ti37 rfl (by exact cellsAt_lit (n := 3) (cs := [.float .f64 x, .float .f64 y, .float .f64 t]) (hs.get (i := 0) rfl) rfl) ?_)))))))
  have h1 : HS w0 w (dbs D far vS MS vT MT ns ++ ((b5, Row 40 [.int .i64 0, .float .f64 x, .float .f64 y, .float .f64 t, .int .i64 q, .slice a n c]) :: (nbs B far v M ms ++ R))) := HS.re hs (fun c => by simp only [List.map_append, List.map_cons, List.map_nil, List.sum_append, List.sum_cons, List.sum_nil]; omega)
  clear hs
  refine L_call rfl Try.fun32 rfl (raddA w0 w D far vS vT MS MT _ ns x y t h1 hD hx hy ht) ?_
  rintro _ w ⟨rfl, vS', MS', vT', MT', ns', h2, hD', hbd⟩
  clear h1
  have hs : HS w0 w ((b5, Row 40 [.int .i64 0, .float .f64 x, .float .f64 y, .float .f64 t, .int .i64 q, .slice a n c]) :: ((nbs B far v M ms ++ dbs D far vS' MS' vT' MT' ns') ++ R)) := HS.re h2 (fun c => by simp only [List.map_append, List.map_cons, List.map_nil, List.sum_append, List.sum_cons, List.sum_nil]; omega)
  clear h2
  refine L_move rfl rfl (L_extract rfl rfl rfl (L_extract rfl rfl rfl (L_assign rfl rfl (L_assign rfl rfl (RL_then (W_seq (W_region (L_move rfl rfl (L_fieldAddr rfl (off := 1) Try.underlying40 rfl rfl Try.ti37 rfl (L_loadA rfl Try.agg37 Try.ti37 rfl (by exact cellsAt_lit (n := 3) (cs := [.float .f64 x, .float .f64 y, .float .f64 t]) (hs.get (i := 0) rfl) rfl) ?_))))))))))
  have h1 : HS w0 w (nbs B far v M ms ++ ((b5, Row 40 [.int .i64 0, .float .f64 x, .float .f64 y, .float .f64 t, .int .i64 q, .slice a n c]) :: (dbs D far vS' MS' vT' MT' ns' ++ R))) := HS.re hs (fun c => by simp only [List.map_append, List.map_cons, List.map_nil, List.sum_append, List.sum_cons, List.sum_nil]; omega)
  clear hs
  refine L_call rfl Try.fun20 rfl (addA w0 w B far v M _ ms x y t h1 hN hx hy ht) ?_
  rintro _ w ⟨rfl, v', M', ms', h2, hN', hbn⟩
  clear h1
  have hs : HS w0 w ((b5, Row 40 [.int .i64 0, .float .f64 x, .float .f64 y, .float .f64 t, .int .i64 q, .slice a n c]) :: ((nbs B far v' M' ms' ++ dbs D far vS' MS' vT' MT' ns') ++ R)) := HS.re h2 (fun c => by simp only [List.map_append, List.map_cons, List.map_nil, List.sum_append, List.sum_cons, List.sum_nil]; omega)
  clear h2
  rw [hlen]
  refine L_move rfl rfl (L_extract rfl rfl rfl (L_extract rfl rfl rfl (L_assign rfl rfl (L_assign rfl rfl (RL_then (W_seq (W_region (L_move rfl rfl (L_move rfl rfl (L_eql rfl rfl rfl (dtrue (by omega)) ?_))))))))))
  refine L_move rfl rfl (RL_want rfl rfl (L_move rfl rfl (RL_want rfl rfl (L_move rfl rfl (RL_want rfl rfl (L_eql rfl rfl rfl (dtrue (by omega)) ?_))))))
  refine L_pick_t rfl rfl rfl (L_assign rfl rfl (RL_then (W_ret' (Ex_block_ret (Ex_then_ret (Ex_done1 rfl rfl ?_))))))
  exact ⟨_, rfl, rfl, ⟨B, D, v', M', ms', vS', MS', vT', MT', ns'⟩, rfl, rfl, HS.pop hs hb5, ⟨hN', hD', by rw [hbn, hbd, hsame]⟩, by rw [hbn]; rfl⟩
 ·
  by_cases h1 : do' = 1
  ·
   subst h1
   refine L_fieldAddr rfl (off := 0) Try.underlying40 rfl rfl Try.ti3 rfl (L_load rfl Try.one3 rfl (by exact hs.cell (i := 0) rfl rfl) ?_)
   refine RL_then (W_block (W_seq (W_region (L_eql rfl rfl rfl (dfalse (by omega)) ?_))))
   refine L_assign rfl rfl (RL_then (W_if_false rfl (W_seq (W_region (L_eql rfl rfl rfl (dtrue (by omega)) ?_)))))
   refine L_assign rfl rfl (RL_then (W_if_true rfl (W_seq ?_)))
   obtain ⟨L, hL⟩ : ∃ L, L = (b5, Row 40 [.int .i64 1, .float .f64 x, .float .f64 y, .float .f64 t, .int .i64 q, .slice a n c]) :: ((nbs B far v M ms ++ dbs D far vS MS vT MT ns) ++ R) := ⟨_, rfl⟩
   have h5L : (b5, Row 40 [.int .i64 1, .float .f64 x, .float .f64 y, .float .f64 t, .int .i64 q, .slice a n c]) ∈ L := by rw [hL]; exact List.mem_cons_self ..
   have hRL : ∀ p ∈ R, p ∈ L := fun p hp => by rw [hL]; exact List.mem_cons_of_mem _ (List.mem_append_right _ hp)
   have hoL : Own w0 L := by rw [hL]; exact Own.cons hb5 ((hN.owns.app hD.owns).app hoR)
   rw [← hL] at hs
   have hAw := fun {w' : World} {L' : Bks} (h1 : HS w0 w' (L ++ L')) (h2 : Own w0 L') => hA w' _ h1 (hoL.app h2) (fun p hp => List.mem_append_left _ (hRL p hp))
   refine W_any (mineP w0 b5 a n c ts) (fun i => ([[], [], [1], [0, 2], [], [4], [3, 5], [], [7], [8], [6, 9], [10]] : List (List Nat)).getD i []) (fun i => ([[], [], [], [0], [], [], [3, 5], [], [], [], [6], [10]] : List (List Nat)).getD i []) Try.mixed (by kernel_rfl) hs ?_ ?_
   ·
    intro o oo d ho hd V M E R w Q' hdep hlook hold hR hs hc
    match o, ho with
    | 0, ho =>
     cases ho; cases hd
     replace hs : HS w0 w (_ ++ []) := hs
     rw [List.append_nil] at hs
     refine L_buildSlice rfl hs Try.underlying38 Try.ti48 (l := []) rfl (by decide) rfl (by simp) ?_
     intro b0 w hb0 _ hs
     exact hc _ _ _ (show Bl w0 48 15 _ 0 [] _ from .row (sp := []) hb0 rfl rfl (Nat.le_refl _)) (Own.cons hb0 Own.nil) hs
    | 1, ho =>
     cases ho; cases hd
     refine L_fieldAddr rfl (off := 5) Try.underlying40 rfl rfl Try.ti38 (hold 5 _ rfl (nd (by kernel_rfl))) ?_
     exact hc _ [] w ⟨rfl, rfl⟩ Own.nil hs
    | 7, ho =>
     cases ho; cases hd
     refine L_fieldAddr rfl (off := 5) Try.underlying40 rfl rfl Try.ti38 (hold 5 _ rfl (nd (by kernel_rfl))) ?_
     exact hc _ [] w ⟨rfl, rfl⟩ Own.nil hs
    | 2, ho =>
     cases ho; cases hd
     have e1 : Lk.look E 44 = some (.pointer (some ((Addr.mk b5 0 none).add 5))) := by rw [hlook 1 (by decide) _ _ rfl rfl, (hdep 1 (by decide)).1.1]
     refine L_load rfl Try.one38 e1 (cellAM hs (List.mem_append_left _ (List.mem_append_left _ h5L)) rfl) ?_
     exact hc _ [] w ⟨rfl, rfl⟩ Own.nil hs
    | 8, ho =>
     cases ho; cases hd
     have e1 : Lk.look E 50 = some (.pointer (some ((Addr.mk b5 0 none).add 5))) := by rw [hlook 7 (by decide) _ _ rfl rfl, (hdep 7 (by decide)).1.1]
     refine L_load rfl Try.one38 e1 (cellAM hs (List.mem_append_left _ (List.mem_append_left _ h5L)) rfl) ?_
     exact hc _ [] w ⟨rfl, rfl⟩ Own.nil hs
    | 3, ho =>
     cases ho; cases hd
     have hb0 : Bl w0 48 15 (V 0) 0 [] (M 0) := (hdep 0 (by decide)).1
     have e0 : Lk.look E 43 = some (V 0) := hlook 0 (by decide) _ _ rfl rfl
     have e4 : Lk.look E 45 = some (.slice a n c) := by rw [hlook 2 (by decide) _ _ rfl rfl, (hdep 2 (by decide)).1.1]
     replace hs : HS w0 w (_ ++ (M 0 ++ [])) := hs
     rw [List.append_nil] at hs
     have hsc : SlC w a (tcs ts) := hAw (L' := R ++ M 0) (by rw [← List.append_assoc]; exact hs) (hR.app hb0.own)
     refine L_appendS rfl Try.underlying38 Try.ti48 rfl (by decide) hs hb0 e0 e4 (by rw [tcs_len, hn]) hsc (fun u hu => tcs_one ts u hu) (by omega) (by omega) ?_
     intro v' w M' hs hbl
     rw [List.nil_append, Nat.zero_add] at hbl
     exact hc _ _ _ hbl hbl.own hs
    | 4, ho =>
     cases ho; cases hd
     refine L_build rfl rfl (Pl.builtN Try.pl48 rfl) ?_
     exact hc _ [] w ⟨rfl, rfl⟩ Own.nil hs
    | 5, ho =>
     cases ho; cases hd
     have e4 : Lk.look E 47 = some (.agg (tk77 77).cells.toArray) := by rw [hlook 4 (by decide) _ _ rfl rfl, (hdep 4 (by decide)).1.1]
     replace hs : HS w0 w (_ ++ []) := hs
     rw [List.append_nil] at hs
     have e5 : evalE E (.tmp 47) = some (.agg (tk77 77).cells.toArray) := e4
     have e9 : evalPs E [(0, .tmp 47)] = some [(0, .agg (tk77 77).cells.toArray)] := by
      unfold evalPs
      rw [e5]; rfl
     refine L_buildSlice (l := [(0, .agg (tk77 77).cells.toArray)]) rfl hs Try.underlying38 Try.ti48 e9 (by decide) rfl (by simp [Value.cells, Tk.cells]) ?_
     intro b0 w hb0 _ hs
     exact hc _ _ _ ⟨b0, rfl, rfl⟩ (Own.cons hb0 Own.nil) hs
    | 6, ho =>
     cases ho; cases hd
     have hb5' : Bl w0 48 15 (V 3) n (tcs ts) (M 3) := (hdep 3 (by decide)).1
     obtain ⟨b6, hv6, hm6⟩ : ∃ b, V 5 = .slice (some ⟨b, 0, none⟩) 1 1 ∧ M 5 = [(b, Row 48 (tk77 77).cells)] := (hdep 5 (by decide)).1
     have ho6 := (hdep 5 (by decide)).2
     rw [hm6] at ho6
     have e5 : Lk.look E 46 = some (V 3) := hlook 3 (by decide) _ _ rfl rfl
     have e6 : Lk.look E 48 = some (.slice (some ⟨b6, 0, none⟩) 1 1) := by rw [hlook 5 (by decide) _ _ rfl rfl, hv6]
     replace hs : HS w0 w (_ ++ (M 3 ++ (M 5 ++ []))) := hs
     rw [List.append_nil, hm6, ← List.append_assoc] at hs
     refine L_appendT rfl Try.underlying38 Try.ti48 rfl hs ho6.head hb5' e5 e6 rfl (Tk.one _) (by omega) (by omega) ?_
     intro v' w M' hs hbl
     exact hc _ _ _ hbl hbl.own hs
    | 9, ho =>
     cases ho; cases hd
     have e1 : Lk.look E 51 = some (.slice a n c) := by rw [hlook 8 (by decide) _ _ rfl rfl, (hdep 8 (by decide)).1.1]
     refine L_len rfl Try.underlying38 e1 ?_
     exact hc _ [] w ⟨rfl, rfl⟩ Own.nil hs
    | 10, ho =>
     cases ho; cases hd
     have hb7 : Bl w0 48 15 (V 6) (n + 1) (tcs ts ++ (tk77 77).cells) (M 6) := (hdep 6 (by decide)).1
     have ho7 := (hdep 6 (by decide)).2
     obtain ⟨g7, cap7, sp7, hv7, hm7, hg7, hc7, hn7⟩ := hb7.own_row (by omega)
     have e7 : Lk.look E 49 = some (.slice (some ⟨g7, 0, none⟩) (n + 1) cap7) := by rw [hlook 6 (by decide) _ _ rfl rfl, hv7]
     have e12 : Lk.look E 52 = some (.int .i64 n) := by rw [hlook 9 (by decide) _ _ rfl rfl, (hdep 9 (by decide)).1.1]
     replace hs : HS w0 w (_ ++ (M 6 ++ [])) := hs
     rw [List.append_nil] at hs
     refine RL_val rfl (R_slice010 Try.underlying38 Try.ti48 e7 e12 rfl (by omega)) ?_
     exact hc _ (M 6) w ⟨g7, cap7, sp7, rfl, hn7, hc7, hm7⟩ ho7 hs
    | 11, ho =>
     cases ho; cases hd
     have ho13 := (hdep 10 (by decide)).2
     have e13 : Lk.look E 53 = some (V 10) := hlook 10 (by decide) _ _ rfl rfl
     replace hs : HS w0 w (_ ++ (M 10 ++ [])) := hs
     rw [List.append_nil] at hs
     refine L_assign rfl e13 ?_
     exact hc _ (M 10) w (hdep 10 (by decide)).1 ho13 hs
   ·
    intro V M9 own w hΦ hs hown hnd E hold hlook
    replace hs := hs.pickOwn (k := 11) ((hown 11).2 ⟨by decide, by decide⟩) (fun j hj => (hΦ j ((hown j).1 hj).1).2)
    have hoM := (hΦ 11 (by decide)).2
    obtain ⟨gm, capm, spm, hvm, hcapm, hlm, hmm⟩ : ∃ g cap sp, V 11 = .slice (some ⟨g, 0, none⟩) n cap ∧ n + 1 ≤ cap ∧ (tcs ts ++ (tk77 77).cells ++ sp).length = cap * 15 ∧ M9 11 = [(g, Row 48 (tcs ts ++ (tk77 77).cells ++ sp))] := (hΦ 11 (by decide)).1
    rw [hmm] at hs hoM
    have hgm := hoM.head
    have e16 : Lk.look E 11 = some (.slice (some ⟨gm, 0, none⟩) n capm) := by rw [hlook 11 _ _ rfl rfl, hvm]
    refine Nx_env (e := [(0, .pointer (some ⟨B, 0, none⟩)), (1, .pointer (some ⟨D, 0, none⟩)), (5, .pointer (some ⟨b5, 0, none⟩)), (11, .slice (some ⟨gm, 0, none⟩) n capm)]) ?_ (looks_cons (hold 0 _ rfl (nd (by kernel_rfl))) (looks_cons (hold 1 _ rfl (nd (by kernel_rfl))) (looks_cons (hold 5 _ rfl (nd (by kernel_rfl))) (looks_cons e16 looks_nil))))
    clear hΦ hown hold hlook hnd hmm hvm e16 hoM
    rw [hL] at hs
    obtain ⟨tr, htr⟩ : ∃ tr, tr = (tk77 77).cells ++ spm := ⟨_, rfl⟩
    have htl : n * 15 + 15 ≤ (tcs ts ++ tr).length := by
     rw [htr, List.length_append, List.length_append, tcs_len, hn]
     show _ ≤ n * 15 + (15 + spm.length)
     omega
    rw [List.append_assoc (tcs ts), ← htr] at hs
    have h77 : tr[0]? = some (.int .i64 77) := by rw [htr]; rfl
    have h1 : HS w0 w (dbs D far vS MS vT MT ns ++ ((b5, Row 40 [.int .i64 1, .float .f64 x, .float .f64 y, .float .f64 t, .int .i64 q, .slice a n c]) :: (gm, Row 48 (tcs ts ++ tr)) :: (nbs B far v M ms ++ R))) := HS.re hs (fun c => by simp only [List.map_append, List.map_cons, List.map_nil, List.sum_append, List.sum_cons, List.sum_nil]; omega)
    clear hs
    refine Nx_then (W_seq (W_region (L_move rfl rfl (L_fieldAddr rfl (off := 4) Try.underlying40 rfl rfl Try.ti3 rfl (L_load rfl Try.one3 rfl (by exact h1.cellM (List.mem_append_right _ (List.mem_cons_self ..)) rfl) ?_)))))
    refine L_fieldAddr rfl (off := 5) Try.underlying40 rfl rfl Try.ti38 rfl (L_load rfl Try.one38 rfl (by exact h1.cellM (List.mem_append_right _ (List.mem_cons_self ..)) rfl) ?_)
    refine L_call rfl Try.fun33 rfl (rtellA w0 w D far vS vT MS MT _ ns q a n c ts h1 hD (Own.cons hb5 (Own.cons hgm (hN.owns.app hoR))) (fun w' L' g1 g2 g3 => hA w' L' g1 g2 (fun p hp => g3 p (List.mem_cons_of_mem _ (List.mem_cons_of_mem _ (List.mem_append_right _ hp))))) hn (by omega) hlt) ?_
    rintro _ w ⟨rfl, MT', ns', h2, hD', hbd⟩
    clear h1
    have h1 : HS w0 w (nbs B far v M ms ++ ((b5, Row 40 [.int .i64 1, .float .f64 x, .float .f64 y, .float .f64 t, .int .i64 q, .slice a n c]) :: (gm, Row 48 (tcs ts ++ tr)) :: (dbs D far vS MS vT MT' ns' ++ R))) := HS.re h2 (fun c => by simp only [List.map_append, List.map_cons, List.map_nil, List.sum_append, List.sum_cons, List.sum_nil]; omega)
    clear h2
    refine L_assign rfl rfl (RL_then (W_seq (W_region (L_move rfl rfl (L_fieldAddr rfl (off := 4) Try.underlying40 rfl rfl Try.ti3 rfl (L_load rfl Try.one3 rfl (by exact h1.cellM (List.mem_append_right _ (List.mem_cons_self ..)) rfl) ?_))))))
    refine L_move rfl rfl (L_call rfl Try.fun21 rfl (tellA w0 w B far v M _ ms q (some ⟨gm, 0, none⟩) n capm ts h1 hN (Own.cons hb5 (Own.cons hgm (hD'.owns.app hoR))) (fun w' L' g1 g2 g3 => SlC.of_row (g1.has _ (g3 (gm, Row 48 (tcs ts ++ tr)) (List.mem_cons_of_mem _ (List.mem_cons_self ..))))) hn (by omega) hlt) ?_)
    rintro _ w ⟨rfl, M', ms', h2, hN', hbn⟩
    clear h1
    obtain ⟨P, hP⟩ : ∃ P, P = (nbs B far v M' ms' ++ dbs D far vS MS vT MT' ns') ++ R := ⟨_, rfl⟩
    have hRP : ∀ p ∈ R, p ∈ P := fun p hp => by rw [hP]; exact List.mem_append_right _ hp
    have hoP : Own w0 P := by rw [hP]; exact (hN'.owns.app hD'.owns).app hoR
    have hs : HS w0 w ((gm, Row 48 (tcs ts ++ tr)) :: (b5, Row 40 [.int .i64 1, .float .f64 x, .float .f64 y, .float .f64 t, .int .i64 q, .slice a n c]) :: P) := by rw [hP]; exact HS.re h2 (fun c => by simp only [List.map_append, List.map_cons, List.map_nil, List.sum_append, List.sum_cons, List.sum_nil]; omega)
    clear h2
    rw [hlen]
    obtain ⟨e, he⟩ : ∃ e, e = tellE ms.length q ts := ⟨_, rfl⟩
    rw [← he]
    refine L_assign rfl rfl (RL_then (W_seq (W_seq (W_region (L_assign rfl rfl (RL_then (W_block ?_)))))))
    refine W_loop3 (fun (i : Nat) (us : List Tk) (w : World) => [(5, .pointer (some ⟨b5, 0, none⟩)), (11, .slice (some ⟨gm, 0, none⟩) n capm), (12, .int .i64 e), (13, .int .i64 e), (14, .int .i64 i)]) (fun (i : Nat) (us : List Tk) (w : World) => w) (fun (i : Nat) (us : List Tk) (w : World) => (i ≤ n) ∧ (us.length = n) ∧ (∀ j, i ≤ j → us.getD j tk0 = ts.getD j tk0) ∧ (HS w0 w ((gm, Row 48 (tcs us ++ tr)) :: (b5, Row 40 [.int .i64 1, .float .f64 x, .float .f64 y, .float .f64 t, .int .i64 q, .slice a n c]) :: P))) (fun (i : Nat) (us : List Tk) (w : World) => n - i) (0) (ts) (w) (is := [5, 11, 12, 13, 14]) rfl rfl ?_ ?_
    ·
     exact ⟨Nat.zero_le _, hn, fun _ _ => rfl, hs⟩
    ·
     clear hs
     intro i us w hI
     show W _ _ _ _ [(5, .pointer (some ⟨b5, 0, none⟩)), (11, .slice (some ⟨gm, 0, none⟩) n capm), (12, .int .i64 e), (13, .int .i64 e), (14, .int .i64 i)] w
     obtain ⟨hi, hul, hug, hs⟩ := hI
     have hul15 : (tcs us).length = n * 15 := by rw [tcs_len, hul]
     by_cases hlt2 : i < n
     ·
      have hoS : Own w0 ((gm, Row 48 (tcs us ++ tr)) :: (b5, Row 40 [.int .i64 1, .float .f64 x, .float .f64 y, .float .f64 t, .int .i64 q, .slice a n c]) :: P) := Own.cons hgm (Own.cons hb5 hoP)
      have hsc := hA _ _ hs hoS (fun p hp => List.mem_cons_of_mem _ (List.mem_cons_of_mem _ (hRP p hp)))
      have hcm : (tcs us ++ tr)[i * 15]? = some (.int .i64 (ts.getD i tk0).id) := by
       rw [List.getElem?_append_left (by omega)]
       exact tcs_get (q := 0) (by omega) (by rw [hug i (Nat.le_refl _)]; rfl)
      have hca : (tcs ts)[i * 15 + 0]? = some (.int .i64 (ts.getD i tk0).id) := tcs_get (by omega) rfl
      refine W_seq (W_seq (W_region (L_move rfl rfl (L_move rfl rfl (L_len rfl Try.underlying38 rfl (L_lss rfl rfl rfl (dtrue (by omega)) ?_))))))
      refine RL_then (W_if_true rfl (W_skip' (Nx_then (W_seq (W_block (W_seq (W_seq (W_pht [0, 1, 2, 3, 5, 7] [4, 6, 8, 9, 10, 11] [] (fun _ _ _ => False) Try.mixed (by kernel_rfl) (fun _ _ _ _ _ h => h) hs ?_))))))))
      refine PL_val rfl (fun w => R_move rfl) ?_
      refine PL_val rfl (fun w => R_move rfl) ?_
      refine PL_val rfl (fun w => R_idxN Try.underlying38 Try.ti48 rfl rfl (natc_k _) (by omega) rfl) ?_
      refine PL_val rfl (fun w => R_fieldAddr (off := 0) Try.underlying48 rfl rfl Try.ti3 rfl) ?_
      refine PL_val rfl (fun w => R_fieldAddr (off := 5) Try.underlying40 rfl rfl Try.ti38 rfl) ?_
      refine PL_val rfl (fun w => R_move rfl) ?_
      refine PL_end ?_
      refine HL_val rfl (fun w hs => R_load Try.one3 rfl (by (rw [add_add]; exact cellAM hs (List.mem_cons_self ..) hcm))) ?_
      refine HL_val rfl (fun w hs => R_load Try.one38 rfl (by exact hs.cell (i := 1) rfl rfl)) ?_
      refine HL_val rfl (fun w hs => R_idxN Try.underlying38 Try.ti48 rfl rfl (natc_k _) (by omega) (hsc.ao (by rw [tcs_len]; omega))) ?_
      refine HL_val rfl (fun w hs => R_fieldAddr (off := 0) Try.underlying48 rfl rfl Try.ti3 rfl) ?_
      refine HL_val rfl (fun w hs => R_load Try.one3 rfl (by (rw [add_add]; exact (hA _ _ hs hoS (fun p hp => List.mem_cons_of_mem _ (List.mem_cons_of_mem _ (hRP p hp)))).get hca))) ?_
      refine HL_val rfl (fun w hs => R_neq rfl rfl (dfalse (by omega))) ?_
      refine HL_tail ?_
      intro w hs
      refine RL_then (W_if_false rfl (W_skip' (Nx_then (W_region (L_move rfl rfl (L_move rfl rfl (L_build rfl rfl (Pl.builtN Try.pl48 rfl) (L_idxN rfl Try.underlying38 Try.ti48 rfl rfl (natc_k _) (by omega) rfl ?_))))))))
      refine L_storeA (vs := (tk77 (-5)).cells) hs (i := 0) rfl Try.ti48 rfl rfl (add_lit0 _ _) (by show i * 15 + 15 ≤ _; rw [List.length_append]; omega) (Tk.one _) ?_
      intro w hs
      refine RL_nil' (Nx_block (Nx_then (W_region (L_move rfl rfl (L_add rfl rfl rfl (wrp_i64 (by omega)) ?_)))))
      refine L_assign rfl rfl (RL_nil' ?_)
      refine Nx_loopP (i + 1, us.set i (tk77 (-5)), w) (is := [5, 11, 12, 13, 14]) (I' := (fun (i : Nat) (us : List Tk) (w : World) => (i ≤ n) ∧ (us.length = n) ∧ (∀ j, i ≤ j → us.getD j tk0 = ts.getD j tk0) ∧ (HS w0 w ((gm, Row 48 (tcs us ++ tr)) :: (b5, Row 40 [.int .i64 1, .float .f64 x, .float .f64 y, .float .f64 t, .int .i64 q, .slice a n c]) :: P))) (i + 1) (us.set i (tk77 (-5))) (w)) rfl rfl rfl ?_ ?_
      ·
       refine ⟨by omega, by rw [List.length_set]; exact hul, fun j hj => ?_, ?_⟩
       ·
        rw [List.getD_eq_getElem?_getD, List.getElem?_set, if_neg (by omega), ← List.getD_eq_getElem?_getD]
        exact hug j (by omega)
       ·
        have e1 : (tcs us ++ tr).take (i * 15) ++ (tk77 (-5)).cells ++ (tcs us ++ tr).drop (i * 15 + (tk77 (-5)).cells.length) = tcs (us.set i (tk77 (-5))) ++ tr := by
         have h3 := congrArg tcs (split_at (d := tk0) (l := us) (i := i) (by omega))
         rw [tcs_app] at h3
         have h4 : tcs us = tcs (us.take i) ++ ((us.getD i tk0).cells ++ tcs (us.drop (i + 1))) := h3
         have hl4 : (tcs (us.take i)).length = i * 15 := by rw [tcs_len, List.length_take]; congr 1; omega
         rw [List.set_eq_take_append_cons_drop, if_pos (by omega), tcs_app, h4]
         show _ = (_ ++ ((tk77 (-5)).cells ++ tcs (us.drop (i + 1)))) ++ tr
         rw [show (tcs (us.take i) ++ ((us.getD i tk0).cells ++ tcs (us.drop (i + 1))) ++ tr) = tcs (us.take i) ++ ((us.getD i tk0).cells ++ (tcs (us.drop (i + 1)) ++ tr)) by simp only [List.append_assoc], List.take_left' hl4]
         rw [← List.append_assoc (tcs (us.take i)), List.drop_left' (by rw [List.length_append, hl4]; rfl)]
         simp only [List.append_assoc]
        rw [← e1]; exact hs
      ·
       omega
     ·
      obtain rfl : i = n := by omega
      have hcm : (tcs us ++ tr)[i * 15]? = some (.int .i64 77) := by
       rw [List.getElem?_append_right (by omega), hul15, Nat.sub_self]; exact h77
      refine W_seq (W_seq (W_region (L_move rfl rfl (L_move rfl rfl (L_len rfl Try.underlying38 rfl (L_lss rfl rfl rfl (dfalse (by omega)) ?_))))))
      refine RL_then (W_if_false rfl (W_exit' (Ex_then_exit (Ex_loop_exit (Ex_block_hit (Nx_then (W_seq (W_region (L_move rfl rfl (L_move rfl rfl (L_eql rfl rfl rfl (dtrue (by omega)) ?_)))))))))))
      refine L_move rfl rfl (RL_want rfl rfl (L_move rfl rfl (RL_want rfl rfl (L_move rfl rfl (RL_want rfl rfl (L_len rfl Try.underlying38 rfl (RL_want rfl rfl (L_add rfl rfl rfl (wrp_i64 (by omega)) ?_))))))))
      refine RL_want rfl rfl (RL_val rfl (R_slice010 Try.underlying38 Try.ti48 rfl rfl (natc_a1 _) (by omega)) ?_)
      refine RL_want rfl rfl (L_move rfl rfl (RL_want rfl rfl (L_len rfl Try.underlying38 rfl (RL_want rfl rfl (L_idxN rfl Try.underlying38 Try.ti48 rfl rfl (natc_k _) (by omega) rfl ?_)))))
      refine RL_want rfl rfl (L_fieldAddr rfl (off := 0) Try.underlying48 rfl rfl Try.ti3 rfl (RL_want rfl rfl ?_))
      refine L_load rfl Try.one3 rfl (by (rw [add_add]; exact cellAM hs (List.mem_cons_self ..) hcm)) ?_
      refine RL_want rfl rfl (L_eql rfl rfl rfl (dtrue (by omega)) ?_)
      refine L_pick_t rfl rfl rfl (L_assign rfl rfl (RL_then (W_ret' (Ex_block_ret (Ex_then_ret (Ex_done1 rfl rfl ?_))))))
      rw [hP] at hs
      exact ⟨_, rfl, rfl, ⟨B, D, v, M', ms', vS, MS, vT, MT', ns'⟩, rfl, rfl, HS.pop (HS.pop hs hgm) hb5, ⟨hN', hD', by rw [hbn, hbd, hsame]⟩, by rw [hbn]; rfl⟩
  ·
   refine L_fieldAddr rfl (off := 0) Try.underlying40 rfl rfl Try.ti3 rfl (L_load rfl Try.one3 rfl (by exact hs.cell (i := 0) rfl rfl) ?_)
   refine RL_then (W_block (W_seq (W_region (L_eql rfl rfl rfl (dfalse (by omega)) ?_))))
   refine L_assign rfl rfl (RL_then (W_if_false rfl (W_seq (W_region (L_eql rfl rfl rfl (dfalse (by omega)) ?_)))))
   refine L_assign rfl rfl (RL_then (W_if_false rfl (W_skip' (Nx_block (Nx_then (W_seq (W_region (L_assign rfl rfl (RL_then (W_ret' (Ex_done1 rfl rfl ?_)))))))))))
   exact ⟨_, rfl, rfl, ⟨B, D, v, M, ms, vS, MS, vT, MT, ns⟩, rfl, rfl, HS.pop hs hb5, hp, by unfold mvE; rw [if_neg h0, if_neg h1]⟩
end Go.Proofs.Ytknpoemkmcdgcaa

namespace Go.Proofs.Ytknpoemkmcdgcaa
open Go Go.Lk
/-! ### The chapter's 'fused', on both nets -/
theorem blank_ok {us : List Th} {i : Nat} (h : i < us.length) (v : Value) (sp : List Value) : ((fcs us ++ sp).set (i * 5 + 4) v).take (i * 5) ++ th0.cells ++ ((fcs us ++ sp).set (i * 5 + 4) v).drop (i * 5 + 5) = fcs (us.set i th0) ++ sp := by
 have h1 : ((fcs us ++ sp).set (i * 5 + 4) v).take (i * 5) = (fcs us ++ sp).take (i * 5) := by
  rw [List.take_set, List.set_eq_of_length_le (by rw [List.length_take]; omega)]
 have h2 : ((fcs us ++ sp).set (i * 5 + 4) v).drop (i * 5 + 5) = (fcs us ++ sp).drop (i * 5 + 5) := by
  rw [List.drop_set, if_pos (by omega)]
 rw [h1, h2]
 exact dcs_set h th0 sp
set_option maxHeartbeats 1000000 in
theorem fused2_ok (w0 w : World) (far : Nat) (p : PN) (R : Bks) (hs : HS w0 w (p.bks far ++ R)) (hp : p.Ok w0) (hoR : Own w0 R) (hf : FarOk far) :
  Ret Try.prog 15 [.pointer (some ⟨p.B, 0, none⟩), .pointer (some ⟨p.D, 0, none⟩)] w fun r w' => r = .bool true ∧ HS w0 w' (p.bks far ++ R) := by
 obtain ⟨B, D, v, M, ms, vS, MS, vT, MT, ns⟩ := p
 have hN : NetOk w0 B v M ms := hp.n
 have hD : DOk w0 D vS MS vT MT ns := hp.d
 have hsame : bares (rds ms) = bares (rds ns) := hp.same
 have hlen : ns.length = ms.length := hp.len
 replace hs : HS w0 w ((nbs B far v M ms ++ dbs D far vS MS vT MT ns) ++ R) := hs
 refine calls_of_W Try.func15 rfl rfl rfl (W_seq (W_region (L_assign rfl rfl (RL_then (W_seq (W_region (L_move rfl rfl ?_)))))))
 have h1 : HS w0 w (dbs D far vS MS vT MT ns ++ (nbs B far v M ms ++ R)) := HS.re hs (fun c => by simp only [List.map_append, List.map_cons, List.map_nil, List.sum_append, List.sum_cons, List.sum_nil]; omega)
 clear hs
 refine L_call rfl Try.fun34 rfl (rfusedG w0 w D far vS vT MS MT _ ns h1 hD hf) ?_
 rintro vW w ⟨S, gs, MoW, hFW, hgW, hbW, hbbW, h2, hlW, hsW⟩
 clear h1
 obtain ⟨BW, hBW⟩ : ∃ BW, BW = MoW ++ fms gs := ⟨_, rfl⟩
 have hoW : Own w0 BW := by rw [hBW]; exact hbW.own.app (fms_own hbbW)
 have hFAW : ∀ {w : World} {L : Bks}, HS w0 w L → (∀ p ∈ BW, p ∈ L) → FAt w vW gs := fun h1 h2 => FAt.of hbW hbbW h1 (by rw [← hBW]; exact h2)
 have h1 : HS w0 w (nbs B far v M ms ++ (dbs D far vS MS vT MT ns ++ (BW ++ R))) := by rw [hBW]; exact HS.re h2 (fun c => by simp only [List.map_append, List.map_cons, List.map_nil, List.sum_append, List.sum_cons, List.sum_nil]; omega)
 clear h2
 refine L_assign rfl rfl (RL_then (W_seq (W_region (L_move rfl rfl (L_call rfl Try.fun22 rfl (fusedG w0 w B far v M _ ms h1 hN hf) ?_)))))
 rintro va w ⟨S1, fs, Ma, hFa, hga, hba, hbba, h2, hla, hsa⟩
 clear h1
 obtain rfl : S1 = S := FusTo.uniq hsame hFa (hlen ▸ hFW)
 have h1 : HS w0 w (nbs B far v M ms ++ (dbs D far vS MS vT MT ns ++ (BW ++ ((Ma ++ fms fs) ++ R)))) := HS.re h2 (fun c => by simp only [List.map_append, List.map_cons, List.map_nil, List.sum_append, List.sum_cons, List.sum_nil]; omega)
 clear h2
 refine L_assign rfl rfl (RL_then (W_seq (W_region (L_move rfl rfl (L_call rfl Try.fun22 rfl (fusedG w0 w B far v M _ ms h1 hN hf) ?_)))))
 rintro vb w ⟨S2, fb, Mb, hFb, hgb, hbb, hbbb, h2, hlb, hsb⟩
 clear h1
 obtain rfl : S2 = S1 := FusTo.uniq rfl hFb hFa
 obtain ⟨BB, hBB⟩ : ∃ BB, BB = Mb ++ fms fb := ⟨_, rfl⟩
 have hoB : Own w0 BB := by rw [hBB]; exact hbb.own.app (fms_own hbbb)
 have hFAB : ∀ {w : World} {L : Bks}, HS w0 w L → (∀ p ∈ BB, p ∈ L) → FAt w vb fb := fun h1 h2 => FAt.of hbb hbbb h1 (by rw [← hBB]; exact h2)
 obtain ⟨Z, hZ⟩ : ∃ Z, Z = nbs B far v M ms ++ (dbs D far vS MS vT MT ns ++ (BW ++ (BB ++ R))) := ⟨_, rfl⟩
 have hWZ : ∀ p ∈ BW, p ∈ Z := fun p hp => by rw [hZ]; simp only [List.mem_append]; exact .inr (.inr (.inl hp))
 have hBZ : ∀ p ∈ BB, p ∈ Z := fun p hp => by rw [hZ]; simp only [List.mem_append]; exact .inr (.inr (.inr (.inl hp)))
 have hoZ : Own w0 Z := by rw [hZ]; exact hN.owns.app (hD.owns.app (hoW.app (hoB.app hoR)))
 have hs : HS w0 w ((Ma ++ fms fs) ++ Z) := by rw [hZ, hBB]; exact HS.re h2 (fun c => by simp only [List.map_append, List.map_cons, List.map_nil, List.sum_append, List.sum_cons, List.sum_nil]; omega)
 clear h2
 have hFAa : FAt w va fs := FAt.of hba hbba hs (fun p hp => List.mem_append_left _ hp)
 have hFWw := hFAW hs (fun p hp => List.mem_append_right _ (hWZ p hp))
 have hFBw := hFAB hs (fun p hp => List.mem_append_right _ (hBZ p hp))
 refine L_assign rfl rfl (RL_then (W_seq (W_seq (W_region (L_move rfl rfl (L_move rfl rfl ?_))))))
 refine L_call rfl Try.fun35 rfl (rsameFu va vW fs gs w hFAa hFWw (hga.trans hgW.symm) (by omega) (fun t ht => by have := hsa t ht; omega)) ?_
 rintro _ w1 ⟨rfl, hs'⟩
 replace hFWw := hFWw.old hs' Own.nil
 replace hFBw := hFBw.old hs' Own.nil
 replace hs := hs.nil hs'
 clear hs' hFAa
 refine L_not rfl rfl (L_move rfl rfl (RL_want rfl rfl (L_move rfl rfl (RL_want rfl rfl (L_move rfl rfl (RL_want rfl rfl ?_))))))
 refine L_call rfl Try.fun35 rfl (rsameFu vb vW fb gs _ hFBw hFWw (hgb.trans hgW.symm) (by omega) (fun t ht => by have := hsb t ht; omega)) ?_
 rintro _ w2 ⟨rfl, hs'⟩
 replace hs := hs.nil hs'
 clear hs' hFWw hFBw
 obtain ⟨aa, ca, rfl, hca⟩ := hba.slice
 obtain ⟨n, hnf⟩ : ∃ n, n = fs.length := ⟨_, rfl⟩
 rw [← hnf] at hba hla ⊢
 refine RL_want rfl rfl (L_not rfl rfl (L_pick_f rfl rfl rfl (RL_then (W_if_false rfl (W_skip' (Nx_then (W_seq (W_seq (W_region (L_assign rfl rfl (RL_then (W_block ?_))))))))))))
 refine W_loop4 (fun (i : Nat) (us : List Th) (Ma : Bks) (w : World) => [(0, .pointer (some ⟨B, 0, none⟩)), (5, vW), (6, .slice aa n ca), (7, vb), (8, .int .i64 i)]) (fun (i : Nat) (us : List Th) (Ma : Bks) (w : World) => w) (fun (i : Nat) (us : List Th) (Ma : Bks) (w : World) => (i ≤ n) ∧ (us.length = n) ∧ (Bl w0 64 5 (.slice aa n ca) n (fcs us) Ma) ∧ (∀ t ∈ us, Bl w0 3 1 t.v t.seen.length (il t.seen) t.M) ∧ (∀ t ∈ us, t.seen.length ≤ 4097) ∧ (HS w0 w ((Ma ++ fms us) ++ Z))) (fun (i : Nat) (us : List Th) (Ma : Bks) (w : World) => n - i) (0) (fs) (Ma) (w2) (is := [0, 5, 6, 7, 8]) rfl rfl ?_ ?_
 ·
  exact ⟨Nat.zero_le _, hnf.symm, hba, hbba, hsa, hs⟩
 ·
  clear hs hba hbba hsa
  intro i us Ma w hI
  show W _ _ _ _ [(0, .pointer (some ⟨B, 0, none⟩)), (5, vW), (6, .slice aa n ca), (7, vb), (8, .int .i64 i)] w
  obtain ⟨hi, hul, hba, hbba, hsa, hs⟩ := hI
  by_cases hlt : i < n
  ·
   obtain ⟨t, hth⟩ : ∃ t, t = us.getD i th0 := ⟨_, rfl⟩
   have hiu : i < us.length := by omega
   have htb := hbba t (by rw [hth]; exact getD_mem hiu)
   have hts := hsa t (by rw [hth]; exact getD_mem hiu)
   obtain ⟨q0, qc, htv, hqc⟩ := htb.slice
   obtain ⟨g, cap, sp, hv, rfl, hg, hgl, hgc⟩ := hba.own_row (by omega)
   injection hv with hga _ hv3
   subst hv3
   have hsp := dms_split hiu
   rw [← hth] at hsp
   have hcs : (fcs us ++ sp)[i * 5 + 4]? = some (.slice q0 t.seen.length qc) := by
    rw [List.getElem?_append_left (by rw [dcs_len]; omega)]
    exact dcs_get hiu (by rw [← hth, ← htv]; rfl)
   obtain ⟨Y, hY⟩ : ∃ Y, Y = (fms (us.take i) ++ fms (us.drop (i + 1))) ++ Z := ⟨_, rfl⟩
   have hs0 : HS w0 w ((g, Row 64 (fcs us ++ sp)) :: (t.M ++ Y)) := by
    rw [hsp] at hs
    rw [hY]
    exact HS.re hs (fun c => by simp only [List.map_append, List.map_cons, List.map_nil, List.sum_append, List.sum_cons, List.sum_nil]; omega)
   clear hs
   rw [htv] at htb
   refine W_seq (W_seq (W_region (L_move rfl rfl (L_move rfl rfl (L_len rfl Try.underlying55 rfl (L_lss rfl rfl rfl (dtrue (by omega)) ?_))))))
   refine RL_then (W_if_true rfl (W_skip' (Nx_then (W_seq (W_block (W_seq (W_seq (W_region (L_assign rfl rfl (RL_then (W_block ?_)))))))))))
   refine W_loop4 (fun (k : Nat) (se : List Int) (M2 : Bks) (w : World) => [(0, .pointer (some ⟨B, 0, none⟩)), (5, vW), (6, .slice aa n ca), (7, vb), (8, .int .i64 i), (9, .int .i64 k)]) (fun (k : Nat) (se : List Int) (M2 : Bks) (w : World) => w) (fun (k : Nat) (se : List Int) (M2 : Bks) (w : World) => (k ≤ t.seen.length) ∧ (se.length = t.seen.length) ∧ (Bl w0 3 1 (.slice q0 t.seen.length qc) t.seen.length (il se) M2) ∧ (HS w0 w ((g, Row 64 (fcs us ++ sp)) :: (M2 ++ Y)))) (fun (k : Nat) (se : List Int) (M2 : Bks) (w : World) => t.seen.length - k) (0) (t.seen) (t.M) (w) (is := [0, 5, 6, 7, 8, 9]) rfl rfl ?_ ?_
   ·
    exact ⟨Nat.zero_le _, rfl, htb, hs0⟩
   ·
    clear hs0
    intro k se M2 w hI
    show W _ _ _ _ [(0, .pointer (some ⟨B, 0, none⟩)), (5, vW), (6, .slice aa n ca), (7, vb), (8, .int .i64 i), (9, .int .i64 k)] w
    obtain ⟨hk, hsel, hb2, hs⟩ := hI
    have hcg : w.cell? (((Addr.mk g 0 none).add (i * 5)).add 4) = some (.slice q0 t.seen.length qc) := by
     rw [add_add]; exact cellAM hs (List.mem_cons_self ..) hcs
    by_cases hkl : k < t.seen.length
    ·
     obtain ⟨g2, cap2, sp2, hv, rfl, hg2, hgl2, hgc2⟩ := hb2.own_row (by omega)
     injection hv with hgq _ hv3
     subst hv3
     have h1 : HS w0 w ((g2, Row 3 (il se ++ sp2)) :: (g, Row 64 (fcs us ++ sp)) :: Y) := HS.re hs (fun c => by simp only [List.map_append, List.map_cons, List.map_nil, List.sum_append, List.sum_cons, List.sum_nil]; omega)
     clear hs
     have hs := h1
     clear h1
     refine W_seq (W_seq (W_region (L_move rfl rfl (L_move rfl rfl (L_move rfl rfl (L_idxN rfl Try.underlying55 Try.ti64 rfl rfl (natc_k _) (by omega) hga ?_))))))
     refine L_fieldAddr rfl (off := 4) Try.underlying64 rfl rfl Try.ti60 rfl (L_load rfl Try.one60 rfl (by exact hcg) ?_)
     refine L_len rfl Try.underlying60 rfl (L_lss rfl rfl rfl (dtrue (by omega)) ?_)
     refine RL_then (W_if_true rfl (W_skip' (Nx_then (W_seq (W_block (W_region (L_move rfl rfl (L_move rfl rfl (L_idxN rfl Try.underlying55 Try.ti64 rfl rfl (natc_k _) (by omega) hga ?_)))))))))
     refine L_fieldAddr rfl (off := 4) Try.underlying64 rfl rfl Try.ti60 rfl (L_load rfl Try.one60 rfl (by exact hcg) ?_)
     refine L_move rfl rfl (L_idx1 rfl Try.underlying60 Try.ti3 rfl rfl (natc_k _) (by omega) hgq ?_)
     refine L_store hs (i := 0) rfl Try.ti3 rfl rfl (by exact add_lit0 _ _) (by (rw [List.length_append, il_length]; omega)) rfl ?_
     intro w hs
     dsimp only [List.set_cons_succ, List.set_cons_zero, List.cons_append, List.nil_append] at hs
     refine RL_nil' (Nx_block (Nx_then (W_region (L_move rfl rfl (L_add rfl rfl rfl (wrp_i64 (by omega)) ?_)))))
     refine L_assign rfl rfl (RL_nil' ?_)
     refine Nx_loopP (k + 1, se.set k (-5), [(g2, Row 3 (il (se.set k (-5)) ++ sp2))], _) (is := [0, 5, 6, 7, 8, 9]) (I' := (fun (k : Nat) (se : List Int) (M2 : Bks) (w : World) => (k ≤ t.seen.length) ∧ (se.length = t.seen.length) ∧ (Bl w0 3 1 (.slice q0 t.seen.length qc) t.seen.length (il se) M2) ∧ (HS w0 w ((g, Row 64 (fcs us ++ sp)) :: (M2 ++ Y)))) (k + 1) (se.set k (-5)) ([(g2, Row 3 (il (se.set k (-5)) ++ sp2))]) (_)) rfl rfl rfl ?_ ?_
     ·
      have e1 : (il se ++ sp2).set k (.int .i64 (-5)) = il (se.set k (-5)) ++ sp2 := by
       rw [List.set_append_left _ _ (by rw [il_length]; omega)]
       unfold il
       rw [List.map_set]
      rw [e1] at hs
      rw [hgq]
      refine ⟨by omega, by rw [List.length_set]; exact hsel, .row hg2 (by rw [il_length, List.length_set, Nat.mul_one]; exact hsel) (by rw [← hgl2, List.length_append, List.length_append, il_length, il_length, List.length_set]) hgc2, HS.re hs (fun c => by simp only [List.map_append, List.map_cons, List.map_nil, List.sum_append, List.sum_cons, List.sum_nil]; omega)⟩
     ·
      omega
    ·
     obtain rfl : k = t.seen.length := by omega
     refine W_seq (W_seq (W_region (L_move rfl rfl (L_move rfl rfl (L_move rfl rfl (L_idxN rfl Try.underlying55 Try.ti64 rfl rfl (natc_k _) (by omega) hga ?_))))))
     refine L_fieldAddr rfl (off := 4) Try.underlying64 rfl rfl Try.ti60 rfl (L_load rfl Try.one60 rfl (by exact hcg) ?_)
     refine L_len rfl Try.underlying60 rfl (L_lss rfl rfl rfl (dfalse (by omega)) ?_)
     refine RL_then (W_if_false rfl (W_exit' (Ex_then_exit (Ex_loop_exit (Ex_block_hit (Nx_then (W_seq (W_region (L_move rfl rfl (L_move rfl rfl (L_move rfl rfl (L_move rfl rfl ?_))))))))))))
     refine L_idxN rfl Try.underlying55 Try.ti64 rfl rfl (natc_k _) (by omega) hga ?_
     refine L_fieldAddr rfl (off := 4) Try.underlying64 rfl rfl Try.ti60 rfl (L_load rfl Try.one60 rfl (by exact hcg) ?_)
     refine L_buildSlice1 rfl hs Try.underlying60 Try.ti3 rfl (by decide) rfl rfl ?_
     intro b56 w hb56 hnb56 hs
     simp only [List.map_cons, List.map_nil] at hs
     dsimp only [List.set_cons_succ, List.set_cons_zero, List.cons_append, List.nil_append] at hs
     have h1 : HS w0 w ((((g, Row 64 (fcs us ++ sp)) :: Y) ++ M2) ++ [(b56, Row 3 [.int .i64 (-6), .int .i64 (-7)])]) := HS.re hs (fun c => by simp only [List.map_append, List.map_cons, List.map_nil, List.sum_append, List.sum_cons, List.sum_nil]; omega)
     clear hs
     refine L_appendT (L := (g, Row 64 (fcs us ++ sp)) :: Y) (M := M2) (news := [.int .i64 (-6), .int .i64 (-7)]) rfl Try.underlying60 Try.ti3 rfl h1 (by assumption) hb2 rfl rfl rfl (by simp [Value.oneCell']) (by omega) (by omega) ?_
     clear h1
     intro v' w M3 hs hbn
     obtain ⟨a3, c3, rfl, hc3⟩ := hbn.slice
     refine L_idxN rfl Try.underlying55 Try.ti64 rfl rfl (natc_k _) (by omega) hga ?_
     refine L_fieldAddr rfl (off := 4) Try.underlying64 rfl rfl Try.ti60 rfl ?_
     refine L_store hs (i := 0) rfl Try.ti60 rfl rfl (by rw [add_add]; exact add_lit0 _ _) (by (rw [List.length_append, dcs_len]; omega)) rfl ?_
     intro w hs
     dsimp only [List.set_cons_succ, List.set_cons_zero, List.cons_append, List.nil_append] at hs
     refine RL_then (W_region (L_move rfl rfl (L_move rfl rfl ?_)))
     have e9 : (fcs us ++ sp).length = n * 5 + sp.length := by rw [List.length_append, dcs_len, hul]
     refine L_build rfl rfl (Pl.builtN Try.pl64 rfl) (L_idxN rfl Try.underlying55 Try.ti64 rfl rfl (natc_k _) (by omega) hga ?_)
     refine L_storeA (vs := th0.cells) hs (i := 0) rfl Try.ti64 rfl rfl (add_lit0 _ _) (by show i * 5 + 5 ≤ _; rw [List.length_set]; omega) (by simp [Th.cells, th0, Value.oneCell']) ?_
     intro w hs
     refine RL_nil' (Nx_block (Nx_then (W_region (L_move rfl rfl (L_add rfl rfl rfl (wrp_i64 (by omega)) ?_)))))
     refine L_assign rfl rfl (RL_nil' ?_)
     refine Nx_loopP (i + 1, us.set i th0, [(g, Row 64 (fcs (us.set i th0) ++ sp))], w) (is := [0, 5, 6, 7, 8]) (I' := (fun (i : Nat) (us : List Th) (Ma : Bks) (w : World) => (i ≤ n) ∧ (us.length = n) ∧ (Bl w0 64 5 (.slice aa n ca) n (fcs us) Ma) ∧ (∀ t ∈ us, Bl w0 3 1 t.v t.seen.length (il t.seen) t.M) ∧ (∀ t ∈ us, t.seen.length ≤ 4097) ∧ (HS w0 w ((Ma ++ fms us) ++ Z))) (i + 1) (us.set i th0) ([(g, Row 64 (fcs (us.set i th0) ++ sp))]) (w)) rfl rfl rfl ?_ ?_
     ·
      refine ⟨by omega, by rw [List.length_set]; exact hul, ?_, ?_, ?_, ?_⟩
      ·
       rw [hga]
       refine .row hg (by rw [dcs_len, List.length_set, hul]) ?_ hgc
       rw [← hgl, List.length_append, List.length_append, dcs_len, dcs_len, List.length_set]
      ·
       intro u hu
       rcases List.mem_or_eq_of_mem_set hu with h1 | h1
       ·
        exact hbba u h1
       ·
        rw [h1]; exact .nil
      ·
       intro u hu
       rcases List.mem_or_eq_of_mem_set hu with h1 | h1
       ·
        exact hsa u h1
       ·
        rw [h1]; exact Nat.zero_le _
      ·
       have h1 : HS w0 w (((g, Row 64 (fcs (us.set i th0) ++ sp)) :: Y) ++ M3) := by
        rw [← blank_ok hiu (.slice a3 (t.seen.length + 2) c3) sp]; exact hs
       rw [hY] at h1
       rw [dms_set hiu th0, show th0.M = ([] : Bks) from rfl]
       exact HS.dropR (M := M3) (HS.re h1 (fun c => by simp only [List.map_append, List.map_cons, List.map_nil, List.sum_append, List.sum_cons, List.sum_nil]; omega)) hbn.own
     ·
      omega
  ·
   obtain rfl : i = n := by omega
   have h1 : HS w0 w Z := HS.dropL hs (hba.own.app (fms_own hbba))
   clear hs
   have hs := h1
   clear h1
   have hFWw := hFAW hs hWZ
   have hFBw := hFAB hs hBZ
   refine W_seq (W_seq (W_region (L_move rfl rfl (L_move rfl rfl (L_len rfl Try.underlying55 rfl (L_lss rfl rfl rfl (dfalse (by omega)) ?_))))))
   refine RL_then (W_if_false rfl (W_exit' (Ex_then_exit (Ex_loop_exit (Ex_block_hit (Nx_then (W_seq (W_region (L_move rfl rfl (L_move rfl rfl ?_))))))))))
   refine L_call rfl Try.fun35 rfl (rsameFu vb vW fb gs w hFBw hFWw (hgb.trans hgW.symm) (by omega) (fun t ht => by have := hsb t ht; omega)) ?_
   rintro _ w1 ⟨rfl, hs'⟩
   replace hs := hs.nil hs'
   clear hs' hFWw hFBw
   rw [hZ] at hs
   refine L_move rfl rfl (RL_want rfl rfl (L_move rfl rfl (RL_want rfl rfl (L_call rfl Try.fun22 rfl (fusedG w0 _ B far v M _ ms hs hN hf) ?_))))
   rintro vc w ⟨S3, fc, Mc, hFc, hgc, hbc, hbbc, h2, hlc, hsc⟩
   clear hs
   obtain rfl : S3 = S2 := FusTo.uniq rfl hFc hFb
   have hFWw := hFAW h2 (fun p hp => List.mem_append_left _ (hZ ▸ hWZ p hp))
   have hFCw : FAt w vc fc := FAt.of hbc hbbc h2 (fun p hp => List.mem_append_right _ hp)
   refine RL_want rfl rfl (L_move rfl rfl (RL_want rfl rfl ?_))
   refine L_call rfl Try.fun35 rfl (rsameFu vc vW fc gs w hFCw hFWw (hgc.trans hgW.symm) (by omega) (fun t ht => by have := hsc t ht; omega)) ?_
   rintro _ w1 ⟨rfl, hs'⟩
   have hs := h2.nil hs'
   clear hs' hFWw hFCw h2
   refine L_pick_t rfl rfl rfl (L_assign rfl rfl (RL_then (W_ret' (Ex_done1 rfl rfl ?_))))
   refine ⟨_, rfl, rfl, ?_⟩
   show HS w0 _ ((nbs B far v M ms ++ dbs D far vS MS vT MT ns) ++ R)
   exact HS.dropR (M := BW ++ (BB ++ (Mc ++ fms fc))) (HS.re hs (fun c => by simp only [List.map_append, List.map_cons, List.map_nil, List.sum_append, List.sum_cons, List.sum_nil]; omega)) (hoW.app (hoB.app (hbc.own.app (fms_own hbbc))))
end Go.Proofs.Ytknpoemkmcdgcaa
