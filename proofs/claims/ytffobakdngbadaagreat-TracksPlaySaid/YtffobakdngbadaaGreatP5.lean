/-
  A part of the proof: laws for walks, and plain laws, over any program of the model. Each theorem holds under its own premises alone.
-/
import Derived.Test.YtffobakdngbadaaGreatKit
import Derived.Test.YtffobakdngbadaaGreatP4
import Derived.Test.YtffobakdngbadaaGreatP1
import Derived.Test.YtffobakdngbadaaGreatP2
import Derived.Test.YtffobakdngbadaaGreatKitY
import Derived.Laws.BitsAll
import Derived.Test.YtffobakdngbadaaGreatKitQ
namespace Go.Proofs.YtffobakdngbadaaGreat
open Go Go.Lk
theorem HS.drop1 {w0 w : World} {p : Nat × Obj} {L : Bks} (h : HS w0 w (p :: L)) (hp : w0.heap.size <= p.1) : HS w0 w L :=
 h.sub (fun _ hq => List.mem_cons_of_mem _ hq) (by have := h.nodup; simp only [List.map_cons, List.nodup_cons] at this; exact this.2) (fun q hq => by
  rcases List.mem_cons.1 hq with rfl | hq
  ·
   exact .inr hp
  exact .inl hq)
theorem getD_mem {α : Type} {l : List α} {i : Nat} {d : α} (h : i < l.length) : l.getD i d ∈ l := by
 rw [List.getD_eq_getElem?_getD, List.getElem?_eq_getElem h]; exact List.getElem_mem h
theorem split_at {α : Type} {l : List α} {i : Nat} {d : α} (h : i < l.length) : l = l.take i ++ l.getD i d :: l.drop (i + 1) := by
 have e : l.getD i d = l[i] := by rw [List.getD_eq_getElem?_getD, List.getElem?_eq_getElem h]; rfl
 rw [e, <- List.drop_eq_getElem_cons h, List.take_append_drop]
theorem get_mid {α : Type} (xs ys : List α) (v : α) (k : Nat) (hk : xs.length = k) : (xs ++ v :: ys)[k]? = some v := by
 subst hk
 rw [List.getElem?_append_right (Nat.le_refl _), Nat.sub_self]; rfl
theorem set_mid' {α : Type} (xs ys : List α) (v u : α) (k : Nat) (hk : xs.length = k) : (xs ++ v :: ys).set k u = xs ++ u :: ys := by
 subst hk
 rw [List.set_append_right _ _ (Nat.le_refl _), Nat.sub_self, List.set_cons_zero]
theorem HS.push {w0 w : World} {p : Nat × Obj} {L : Bks} (h : HS w0 w (L ++ [p])) : HS w0 w (p :: L) := h.mem_perm (List.perm_append_comm (l₂ := [_]))
theorem HS.pop {w0 w : World} {p : Nat × Obj} {L : Bks} (h : HS w0 w (p :: L)) (hp : w0.heap.size <= p.1) : HS w0 w L := HS.drop1 h hp
theorem HS.re {w0 w : World} {L L' : Bks} (h : HS w0 w L) (hc : ∀ c : Nat × Obj -> Nat, (L.map c).sum = (L'.map c).sum) : HS w0 w L' := h.mem_perm (perm_by hc)
theorem cellAM {w0 w : World} {L : Bks} (h : HS w0 w L) {b j : Nat} {T : TypeId} {cs : List Value} {v : Value} (hm : (b, Row T cs) ∈ L) (hv : cs[j]? = some v) : w.cell? ((Addr.mk b 0 none).add j) = some v := by
 rw [add_lit0]; exact Lk.cell_of_row (h.has _ hm) hv
theorem take_snoc {α : Type} {l : List α} {j : Nat} {x : α} (h : l[j]? = some x) : l.take (j + 1) = l.take j ++ [x] := by
 rw [List.take_add_one, h]; rfl
structure RR where
 xs : List Int
 v : Value
 M : Bks
def rr0 : RR := ⟨[], .slice none 0 0, []⟩
def RR.ok (w0 : World) (r : RR) : Prop := Bl w0 2 1 r.v r.xs.length (il r.xs) r.M
def rvs (rr : List RR) : List Value := rr.map RR.v
def rbs (rr : List RR) : Bks := rr.flatMap RR.M
theorem rbs_own {w0 : World} {rr : List RR} (h : ∀ r ∈ rr, r.ok w0) : Own w0 (rbs rr) := fun p hp => by
 obtain ⟨r, hr, hp⟩ := List.mem_flatMap.1 hp
 exact (h r hr).own p hp
theorem Bl.slcM {w0 w : World} {E : TypeId} {sz : Nat} {a : Option Addr} {n c k : Nat} {xs : List Value} {L M : Bks} (h : Bl w0 E sz (.slice a n c) k xs M) (hs : HS w0 w L) (hM : ∀ p ∈ M, p ∈ L) : SlC w a xs := by
 have hs' : HS w w ([] ++ M) := HS.named (fun p hp => hs.has p (hM p hp)) (by
  cases h with
  | nil => exact List.nodup_nil
  | row => exact List.nodup_cons.2 ⟨List.not_mem_nil, List.nodup_nil⟩)
 have h' : Bl w E sz (.slice a n c) k xs M ∨ True := .inr trivial
 clear h'
 cases h with
 | nil => exact ⟨fun h => absurd h (Nat.lt_irrefl _), fun j v hv => by simp at hv⟩
 | row => exact SlC.of_row (hs.has _ (hM _ (List.mem_cons_self ..)))
theorem get_of_map {α β : Type} {l : List α} {f : α -> β} {m : List β} (h : l.map f = m) {k : Nat} {d : α} (hk : k < l.length) : m[k]? = some (f (l.getD k d)) := by
 rw [<- h, List.getElem?_map, List.getElem?_eq_getElem hk, List.getD_eq_getElem?_getD, List.getElem?_eq_getElem hk]; rfl
theorem cellsAt_part {w : World} {b T j n : Nat} {xs cs : List Value} (h : w.heap[b]? = some (Row T xs)) (hx : (xs.drop j).take n = cs) : CellsAt w ((Addr.mk b 0 none).add j) cs :=
 cellsAt_row cs h fun q v hq => by
  subst hx
  have hlt : q < n := by
   apply Classical.byContradiction
   intro hn
   rw [List.getElem?_take, if_neg hn] at hq; cases hq
  rw [List.getElem?_take_of_lt hlt, List.getElem?_drop] at hq
  exact hq
theorem cellsAt_lit {w : World} {b T j n : Nat} {xs cs : List Value} (h : w.heap[b]? = some (Row T xs)) (hx : (xs.drop j).take n = cs) : CellsAt w ⟨b, j, none⟩ cs := by
 have := cellsAt_part (j := j) h hx
 rwa [add_lit0] at this
structure VB where
 v : Value
 M : Bks
theorem rowsI_sl {w0 w : World} {a : Option Addr} {n : Nat} {rr : List RR} {L : Bks} (hs : HS w0 w L) (hg : SlC w a (rvs rr)) (hr : ∀ r ∈ rr, r.ok w0) (hm : ∀ p ∈ rbs rr, p ∈ L) (hl : ∀ r ∈ rr, r.xs.length <= n) (hn : n <= 1000) : RowsI w a (rr.map RR.xs) (rvs rr) := by
 refine ⟨hg, by simp [rvs], fun i hi => ?_⟩
 rw [List.length_map] at hi
 have hm' : rr.getD i rr0 ∈ rr := getD_mem hi
 have e1 : (rvs rr)[i]? = some (rr.getD i rr0).v := by
  unfold rvs; rw [List.getElem?_map, List.getElem?_eq_getElem hi, List.getD_eq_getElem?_getD, List.getElem?_eq_getElem hi]; rfl
 have e2 : (rr.map RR.xs).getD i [] = (rr.getD i rr0).xs := by
  rw [List.getD_eq_getElem?_getD, List.getElem?_map, List.getElem?_eq_getElem hi, List.getD_eq_getElem?_getD, List.getElem?_eq_getElem hi]; rfl
 have hb := hr _ hm'
 obtain ⟨a, c, hv, hc⟩ := Bl.slice hb
 have hl' := hl _ hm'
 rw [e1, e2, hv]
 refine ⟨a, c, rfl, hc, by omega, ?_⟩
 unfold RR.ok at hb
 rw [hv] at hb
 exact Bl.slcM hb hs (fun p hp => hm _ (List.mem_flatMap.2 ⟨_, hm', hp⟩))
end Go.Proofs.YtffobakdngbadaaGreat
namespace Go.Proofs.YtffobakdngbadaaGreat
open Go Go.Lk
structure Trk where
 id : Int
 kind : Int
 x : Stt
 y : Stt
 seen : Nat
 steps : Int
 last : Nat
def stt0 : Stt := ⟨0, 0, 0, 0, 0⟩
def trk0 : Trk := ⟨0, 0, stt0, stt0, 0, 0, 0⟩
def Trk.cells (t : Trk) : List Value := [.int .i64 t.id, .int .i8 t.kind, .float .f64 t.x.x, .float .f64 t.x.v, .float .f64 t.x.p, .float .f64 t.x.q, .float .f64 t.x.r, .float .f64 t.y.x, .float .f64 t.y.v, .float .f64 t.y.p, .float .f64 t.y.q, .float .f64 t.y.r, .int .u16 t.seen, .int .i64 t.steps, .float .f64 t.last]
theorem Trk.one (t : Trk) : ∀ v ∈ t.cells, v.oneCell' = true := by simp [Trk.cells, Value.oneCell']
def SPC (f : FuncId) (args : Array Value) (v : Value) : Prop := match f, args.toList with
 | 64, [.agg a, .float .f64 x, .float .f64 n] => ∀ s : Stt, a = s.cells.toArray -> ∃ d, v = .float .f64 d /\ cn d = cn (farF s x n)
 | 34, [.agg a, .float .f64 t, .float .f64 q] => ∀ s : Stt, a = s.cells.toArray -> ∃ u : Stt, v = .agg u.cells.toArray /\ u.c = (aheadF s t q).c
 | 37, [.agg a, .float .f64 x, .float .f64 n] => ∀ s : Stt, a = s.cells.toArray -> ∃ u : Stt, v = .agg u.cells.toArray /\ u.c = (seenF s x n).c
 | 39, [.float .f64 x, .float .f64 n, .float .f64 q] => v = .agg (startF x n q).cells.toArray
 | _, _ => False
theorem Stt.inj {s u : Stt} (h : s.cells.toArray = u.cells.toArray) : s = u := by
 have h1 := congrArg Array.toList h
 simp only [Stt.cells, List.cons.injEq, Value.float.injEq, true_and, and_true] at h1
 obtain ⟨x, v, p, q, r⟩ := s
 obtain ⟨x', v', p', q', r'⟩ := u
 obtain ⟨rfl, rfl, rfl, rfl, rfl⟩ := h1
 rfl
theorem farH {w0 w : World} {L : Bks} (hs : HS w0 w L) (s : Stt) (x n : Nat) : Ret Tryz.prog 64 [.agg s.cells.toArray, .float .f64 x, .float .f64 n] w fun v w' => SPC 64 [.agg s.cells.toArray, .float .f64 x, .float .f64 n].toArray v /\ HS w0 w' L :=
 Calls.mono (far_ok s x n w) fun e w' => by
  rintro ⟨v, rfl, ⟨d, rfl, hd⟩, hs'⟩
  exact ⟨_, rfl, fun u hu => ⟨d, rfl, Stt.inj hu ▸ hd⟩, hs.nil hs'⟩
theorem aheadH {w0 w : World} {L : Bks} (hs : HS w0 w L) (s : Stt) (x n : Nat) : Ret Tryz.prog 34 [.agg s.cells.toArray, .float .f64 x, .float .f64 n] w fun v w' => SPC 34 [.agg s.cells.toArray, .float .f64 x, .float .f64 n].toArray v /\ HS w0 w' L :=
 Calls.mono (ahead_ok s x n w) fun e w' => by
  rintro ⟨v, rfl, ⟨d, rfl, hd⟩, hs'⟩
  exact ⟨_, rfl, fun u hu => ⟨d, rfl, Stt.inj hu ▸ hd⟩, hs.nil hs'⟩
theorem seenH' {w0 w : World} {L : Bks} (hs : HS w0 w L) (s : Stt) (x n : Nat) : Ret Tryz.prog 37 [.agg s.cells.toArray, .float .f64 x, .float .f64 n] w fun v w' => SPC 37 [.agg s.cells.toArray, .float .f64 x, .float .f64 n].toArray v /\ HS w0 w' L :=
 Calls.mono (seen_ok s x n w) fun e w' => by
  rintro ⟨v, rfl, ⟨d, rfl, hd⟩, hs'⟩
  exact ⟨_, rfl, fun u hu => ⟨d, rfl, Stt.inj hu ▸ hd⟩, hs.nil hs'⟩
theorem startH {w0 w : World} {L : Bks} (hs : HS w0 w L) (x n q : Nat) : Ret Tryz.prog 39 [.float .f64 x, .float .f64 n, .float .f64 q] w fun v w' => SPC 39 [.float .f64 x, .float .f64 n, .float .f64 q].toArray v /\ HS w0 w' L :=
 Calls.mono (start_ok x n q w) fun e w' => by
  rintro ⟨v, rfl, rfl, hs'⟩
  exact ⟨_, rfl, rfl, hs.nil hs'⟩
theorem cost_ok (B n g : Nat) (t : Trk) (px py : Nat) (w0 : World) (hg : GateOk g) (hn : w0.cell? ⟨B, 0, none⟩ = some (.float .f64 n)) (hgc : w0.cell? ⟨B, 2, none⟩ = some (.float .f64 g)) :
  Ret Tryz.prog 35 [.pointer (some ⟨B, 0, none⟩), .agg t.cells.toArray, .agg #[.float .f64 px, .float .f64 py]] w0 fun v w' => v = .int .i64 (costT n g t.x t.y px py) /\ HS w0 w' [] := by
 refine Ret.start fun w hs => ?_
 have hB := World.block_lt_of_cell? w0 _ hn
 refine calls_of_W Tryz.func35 rfl rfl rfl (Wq (L_box rfl hs rfl ?_))
 intro b4 w hb4 hnb4 hs
 dsimp only [sS, sZ, sA, sN] at hs
 refine L_box rfl hs rfl ?_
 intro b5 w hb5 hnb5 hs
 dsimp only [sS, sZ, sA, sN] at hs
 refine La rfl (Rt (Wsq ?_))
 replace hs : HS w0 w [(b4, Row 51 t.cells), (b5, Row 83 [.float .f64 px, .float .f64 py])] := hs
 have ho : Own w0 [(b4, Row 51 t.cells), (b5, Row 83 [.float .f64 px, .float .f64 py])] := Own.cons hb4 (Own.cons hb5 Own.nil)
 refine W_sg Tryz.mixed ?_
 replace hs := hs.drewN 1
 refine SG_stageB [0, 2, 4, 5, 6, 7, 10, 12, 14, 15, 16, 17] [1, 3, 8, 9, 11, 13, 18, 19, 20, 21] [] (noBk SPC) (g' := 0) (by kernel_rfl) (by kernel_rfl) (fun _ _ _ _ _ h => h) hs ?_
 refine Pfa 2 u_51 rfl i_48 (Pfa 0 u_83 rfl i_22 (Pm rfl (Pn rfl (Pfa 0 u_66 rfl i_24 (Pfa 0 u_24 rfl i_22 (Pfa 7 u_51 rfl i_48 (Pfa 1 u_83 rfl i_22 (Pm rfl (Pn rfl (Pfa 0 u_66 rfl i_24 (Pfa 0 u_24 rfl i_22 (PL_endB (HB_val rfl (fun w R hR hs => R_loadA a_48 i_48 rfl (by exact cellsAt_lit (n := 5) (cs := t.x.cells) (hs.get (i := 0) rfl) rfl)) ?_)))))))))))))
 refine HB_val rfl (fun w R hR hs => R_load o_22 rfl (by exact hs.cell (i := 1) rfl rfl)) ?_
 refine HB_val rfl (fun w R hR hs => R_load o_22 rfl (by exact HS.oldcell hs hn ((ho.app hR).notin hB))) ?_
 refine HB_callH rfl f_64 rfl (fun w R hR hs => farH hs t.x px n) ?_
 rintro _ hd
 obtain ⟨d1, rfl, hd1⟩ := hd _ rfl
 refine HB_val rfl (fun w R hR hs => R_loadA a_48 i_48 rfl (by exact cellsAt_lit (n := 5) (cs := t.y.cells) (hs.get (i := 0) rfl) rfl)) ?_
 refine HB_val rfl (fun w R hR hs => R_load o_22 rfl (by exact hs.cell (i := 1) rfl rfl)) ?_
 refine HB_val rfl (fun w R hR hs => R_load o_22 rfl (by exact HS.oldcell hs hn ((ho.app hR).notin hB))) ?_
 refine HB_callH rfl f_64 rfl (fun w R hR hs => farH hs t.y py n) ?_
 rintro _ hd
 obtain ⟨d2, rfl, hd2⟩ := hd _ rfl
 refine HB_farith rfl (op := .add) rfl rfl rfl ?_
 intro r28 hr28
 refine HB_val rfl (fun w R hR hs => R_assign rfl) ?_
 refine HB_tail ?_
 intro w hs
 refine RL_sg (SG_end (by kernel_rfl) ?_)
 refine Nt (Wsq (Wsq ?_))
 have e28 : cn r28 = cn (dstF n t.x t.y px py) := (Fs.cn hr28).trans ((fop_congr hd1 hd2).trans (cn_fop ..).symm)
 have hlr : leB r28 g = leB (dstF n t.x t.y px py) g := by unfold leB; rw [order_congr e28 rfl]
 cases hle : leB (dstF n t.x t.y px py) g
 ·
  rw [hle] at hlr
  have e : costT n g t.x t.y px py = -1 := by unfold costT costD; rw [hle, if_neg (by decide)]
  rw [e]
  refine Wr (Lmm rfl rfl (Ln rfl (Lf 0 u_66 rfl i_24 (Lf 2 u_24 rfl i_22 (Ll o_22 rfl (by exact hs.oldcell hgc ((ho.app Own.nil).notin hB)) ?_)))))
  refine Cf rfl (fun _ => by rw [binOp_float_cmp_leq]; rfl) ?_
  refine Rt (W_set 35 (v' := .bool false) rfl ((congrArg Value.bool hlr)) (Wf rfl (Ws (Wq (La rfl (Rt (Wret (Ex_done1 rfl rfl ?_))))))))
  exact ⟨_, rfl, rfl, hs.forget (ho.app Own.nil)⟩
 rw [hle] at hlr
 obtain ⟨h1, h3, m, h4, h5⟩ := cost_some hg dstF_pos hle
 have e : costT n g t.x t.y px py = (m : Int) := by unfold costT costD; rw [hle, if_pos rfl, h5]; rfl
 rw [e]
 refine Wr (Lmm rfl rfl (Ln rfl (Lf 0 u_66 rfl i_24 (Lf 2 u_24 rfl i_22 (Ll o_22 rfl (by exact hs.oldcell hgc ((ho.app Own.nil).notin hB)) ?_)))))
 refine Cf rfl (fun _ => by rw [binOp_float_cmp_leq]; rfl) ?_
 refine Rt (W_set 35 (v' := .bool true) rfl ((congrArg Value.bool hlr)) (Wt rfl (Wq (Lm rfl (L_farith rfl (op := .mul) rfl rfl rfl ?_)))))
 intro r37 k37 hr37
 replace hs := hs.drewN k37
 have eQ : cn r37 = cn (fop .mul (dstF n t.x t.y px py) 4697254411347427328) := (Fs.cn hr37).trans ((fop_congr e28 rfl).trans (cn_fop ..).symm)
 obtain rfl : r37 = fop .mul (dstF n t.x t.y px py) 4697254411347427328 := cn_same eQ h3
 refine Lc f_65 rfl (floor_ok _ _ h3 rfl _) ?_
 rintro _ _ ⟨rfl, rfl⟩
 refine RL_val rfl (R_ftoi u_22 u_2 rfl h5) (La rfl (Rt (Wret (Ex_then_ret (Ex_done1 rfl rfl ?_)))))
 exact ⟨_, rfl, rfl, hs.forget (ho.app Own.nil)⟩
end Go.Proofs.YtffobakdngbadaaGreat
namespace Go.Proofs.YtffobakdngbadaaGreat
open Go Go.Lk
def popS : ByteArray := ⟨#[0, 1, 1, 2, 1, 2, 2, 3, 1, 2, 2, 3, 2, 3, 3, 4, 1, 2, 2, 3, 2, 3, 3, 4, 2, 3, 3, 4, 3, 4, 4, 5, 1, 2, 2, 3, 2, 3, 3, 4, 2, 3, 3, 4, 3, 4, 4, 5, 2, 3, 3, 4, 3, 4, 4, 5, 3, 4, 4, 5, 4, 5, 5, 6, 1, 2, 2, 3, 2, 3, 3, 4, 2, 3, 3, 4, 3, 4, 4, 5, 2, 3, 3, 4, 3, 4, 4, 5, 3, 4, 4, 5, 4, 5, 5, 6, 2, 3, 3, 4, 3, 4, 4, 5, 3, 4, 4, 5, 4, 5, 5, 6, 3, 4, 4, 5, 4, 5, 5, 6, 4, 5, 5, 6, 5, 6, 6, 7, 1, 2, 2, 3, 2, 3, 3, 4, 2, 3, 3, 4, 3, 4, 4, 5, 2, 3, 3, 4, 3, 4, 4, 5, 3, 4, 4, 5, 4, 5, 5, 6, 2, 3, 3, 4, 3, 4, 4, 5, 3, 4, 4, 5, 4, 5, 5, 6, 3, 4, 4, 5, 4, 5, 5, 6, 4, 5, 5, 6, 5, 6, 6, 7, 2, 3, 3, 4, 3, 4, 4, 5, 3, 4, 4, 5, 4, 5, 5, 6, 3, 4, 4, 5, 4, 5, 5, 6, 4, 5, 5, 6, 5, 6, 6, 7, 3, 4, 4, 5, 4, 5, 5, 6, 4, 5, 5, 6, 5, 6, 6, 7, 4, 5, 5, 6, 5, 6, 6, 7, 5, 6, 6, 7, 6, 7, 7, 8]⟩
def popT (i : Nat) : Nat := (popS.data[i]?.getD 0).toNat
theorem pop_at {i : Nat} (h : i < 256) : ∃ b : UInt8, popS[i]? = some b /\ b.toNat = popT i /\ b.toNat <= 8 := by
 have hs : popS.size = 256 := by decide +kernel
 have h1 : ∀ j, j < 256 -> popT j <= 8 := by decide +kernel
 have hi : i < popS.size := by omega
 refine ⟨popS[i], by simp [hi], ?_, ?_⟩
 ·
  unfold popT
  rw [Array.getElem?_eq_getElem (show i < popS.data.size from hi)]; rfl
 have := h1 i h
 unfold popT at this
 rw [Array.getElem?_eq_getElem (show i < popS.data.size from hi)] at this
 exact this
def popF (n : Nat) : Nat := popT (n / 256) + popT (n % 256)
theorem shr8 (n : Nat) : (n : Int).fdiv (2 ^ (min (Int.toNat 8) (IntKind.bits .u16))) = ((n / 256 : Nat) : Int) := by
 show (n : Int).fdiv 256 = _
 rw [Int.fdiv_eq_ediv_of_nonneg _ (by decide)]
 omega
theorem and255 (n : Nat) (h : n < 65536) : bits .and .u16 (n : Int) 255 = ((n % 256 : Nat) : Int) := by
 have := u16_and_nat n 255 h (by decide)
 rw [show n &&& 255 = n % 256 from Nat.and_two_pow_sub_one_eq_mod n 8] at this
 exact this
theorem ones_ok (n : Nat) (h : n < 65536) (w : World) : Ret Tryz.prog 72 [.int .u16 n] w fun v w' => v = .int .i64 (popF n) /\ HS w w' [] := by
 refine Ret.start fun w hs => ?_
 obtain ⟨b1, h1, e1, l1⟩ := pop_at (i := n / 256) (by omega)
 obtain ⟨b2, h2, e2, l2⟩ := pop_at (i := n % 256) (by omega)
 refine calls_of_W Tryz.func72 rfl rfl rfl ?_
 refine Wsq (Wr (La rfl (Rt (Wsq (W_pht [0, 1, 2, 3, 4, 5, 6, 7, 8] [] [] (fun _ _ _ => False) Tryz.mixed (by kernel_rfl) (fun _ _ _ _ _ h => h) hs ?_)))))
 refine Pm rfl (Pv rfl (fun w => R_shr rfl rfl (by omega) (shr8 n)) ?_)
 refine Pv rfl (fun w => R_indexS u_9 rfl rfl h1) ?_
 refine Pm rfl (Pv rfl (fun w => R_ibits (by simp) rfl rfl (and255 n h)) ?_)
 refine Pv rfl (fun w => R_indexS u_9 rfl rfl h2) ?_
 first | refine Pv rfl (fun w => R_add rfl rfl (wrp_u8 (by omega))) ?_ | refine Pv rfl (fun w => R_add rfl rfl rfl) ?_
 first | refine Pv rfl (fun w => R_itoi u_5 u_3 rfl (wrp_i64 (by omega))) ?_ | refine Pv rfl (fun w => R_itoi u_5 u_3 rfl rfl) ?_
 refine Pv rfl (fun w => R_assign rfl) ?_
 refine PL_end (HL_tail ?_)
 intro w hs
 refine Rt (Wret (Ex_done1 rfl rfl ?_))
 refine ⟨_, rfl, ?_, hs⟩
 rw [e1, e2]; rfl
end Go.Proofs.YtffobakdngbadaaGreat
namespace Go.Proofs.YtffobakdngbadaaGreat
open Go Go.Lk
def lowF (seen n : Nat) : Nat := popF (seen % 2 ^ n)
theorem shl1 : ∀ n, n < 17 -> IntKind.wrap .u16 (1 * 2 ^ (min ((n : Nat) : Int).toNat (IntKind.bits .u16))) = ((2 ^ n % 65536 : Nat) : Int) := by decide +kernel
theorem sub1 : ∀ n, n < 17 -> IntKind.wrap .u16 (((2 ^ n % 65536 : Nat) : Int) - 1) = ((2 ^ n - 1 : Nat) : Int) := by decide +kernel
theorem pow17 : ∀ n, n < 17 -> 2 ^ n - 1 < 65536 := by decide +kernel
theorem and_low16 (s n : Nat) (hs : s < 65536) (hn : n < 17) : bits .and .u16 (s : Int) ((2 ^ n - 1 : Nat) : Int) = ((s % 2 ^ n : Nat) : Int) := by
 rw [u16_and_nat s _ hs (pow17 n hn), Nat.and_two_pow_sub_one_eq_mod]
theorem lowest_ok (b p s n : Nat) (w0 : World) (hb : w0.cell? ⟨b, 0, none⟩ = some (.pointer (some ⟨p, 0, none⟩))) (hs12 : w0.cell? ⟨p, 12, none⟩ = some (.int .u16 s)) (hs16 : s < 65536) (hn : n < 17) :
  Ret Tryz.prog 71 [.int .i64 n, .pointer (some ⟨b, 0, none⟩)] w0 fun v w' => v = .int .i64 (lowF s n) /\ HS w0 w' [] := by
 refine Ret.start fun w hs => ?_
 have hb' := fun {w : World} (hs : HS w0 w []) => hs.oldcell hb (Own.nil.notin (World.block_lt_of_cell? w0 _ hb))
 have hs' := fun {w : World} (hs : HS w0 w []) => hs.oldcell hs12 (Own.nil.notin (World.block_lt_of_cell? w0 _ hs12))
 refine calls_of_W Tryz.func71 rfl rfl rfl ?_
 refine Wsq (Wr (La rfl (Rt (Wsq (W_pht [4, 5, 6] [0, 1, 2, 3, 7] [8, 9] (fun _ _ _ => False) Tryz.mixed (by kernel_rfl) (fun _ _ _ _ _ h => h) hs ?_)))))
 refine Pm rfl (Pv rfl (fun w => R_shl rfl rfl (by omega) (shl1 n hn)) ?_)
 refine Pv rfl (fun w => R_sub rfl rfl (sub1 n hn)) ?_
 refine PL_end (Hl o_86 rfl (fun w hs => (by exact hb' hs)) ?_)
 refine Hv rfl (fun w hs => R_nilCheck rfl) ?_
 refine Hf 12 u_51 rfl i_49 ?_
 refine Hl o_49 rfl (fun w hs => (by (rw [add_lit0]; exact hs' hs))) ?_
 refine Hv rfl (fun w hs => R_ibits (by simp) rfl rfl (and_low16 s n hs16 hn)) ?_
 refine HL_tail ?_
 intro w hs
 have hm : s % 2 ^ n < 65536 := Nat.lt_of_le_of_lt (Nat.mod_le ..) hs16
 refine Lc f_72 rfl (ones_ok _ hm _) ?_
 rintro _ w2 ⟨rfl, h2⟩
 replace hs := hs.nil h2
 refine La rfl (Rt (Wret (Ex_done1 rfl rfl ?_)))
 exact ⟨_, rfl, rfl, hs⟩
def scs (xs : List Stt) : List Value := xs.flatMap Stt.cells
theorem scs_app (xs ys : List Stt) : scs (xs ++ ys) = scs xs ++ scs ys := List.flatMap_append ..
theorem scs_one (s : Stt) : scs [s] = s.cells := by simp [scs]
theorem scs_len (xs : List Stt) : (scs xs).length = xs.length * 5 := by
 induction xs with
 | nil => rfl
 | cons t ts ih =>
  show (t.cells ++ scs ts).length = _
  rw [List.length_append, ih, List.length_cons]
  show 5 + _ = _
  omega
theorem kept_ok (w0 w : World) (v : Value) (M L : Bks) (xs : List Stt) (n : Nat) (s : Stt) (hs : HS w0 w (L ++ M)) (hb : Bl w0 48 5 v n (scs xs) M) (hn : n + 1 <= 1024) :
  Ret Tryz.prog 73 [v, .agg s.cells.toArray] w fun r w' => ∃ M', HS w0 w' (L ++ M') /\ Bl w0 48 5 r (n + 1) (scs (xs ++ [s])) M' := by
 obtain ⟨a, c, rfl, hc⟩ := hb.slice
 refine calls_of_W Tryz.func73 rfl rfl rfl ?_
 refine Wsq (Wr ?_)
 refine L_box rfl hs rfl ?_; intro b3 w hb3 _ hs; replace hs := HS.push hs
 refine La rfl (Rt (Wsq (Wr ?_)))
 replace hs : HS w0 w ((b3, Row 48 s.cells) :: (L ++ M)) := hs
 refine Lm rfl (L_loadA rfl a_48 i_48 rfl (by exact cellsAt_whole (cs := s.cells) (hs.get (i := 0) rfl)) ?_)
 refine L_buildSlice rfl hs u_55 i_48 rfl (by decide) rfl (by simp [Value.cells, Stt.cells]) ?_
 intro b7 w hb7 hnb7 hs
 have h1 : HS w0 w ((((b3, Row 48 s.cells) :: L) ++ M) ++ [(b7, Row 48 s.cells)]) := by simpa [Value.cells] using hs
 clear hs
 refine L_appendT (L := (b3, Row 48 s.cells) :: L) (M := M) (news := s.cells) rfl u_55 i_48 rfl h1 (by assumption) hb rfl rfl rfl (Stt.one _) (by omega) (by omega) ?_
 clear h1
 intro v' w M' hs hb'
 obtain ⟨g, cap, sp, rfl, rfl, hg, hl, hcap⟩ := hb'.own_row (by omega)
 refine La rfl (Rt (Wsq (Wr (Lm rfl (Lm rfl (Le u_55 rfl ?_))))))
 first | refine Csub rfl (wrp_i64 (by omega)) ?_ | refine Csub rfl rfl ?_
 refine RL_val rfl (R_maxI rfl rfl (show (if (0 : Int) < ((n + 1 : Nat) : Int) - 1024 then ((n + 1 : Nat) : Int) - 1024 else 0) = 0 by rw [if_neg (by omega)])) ?_
 refine RL_val rfl (R_slice100 u_55 i_48 rfl rfl (show (0 : Int) = ((0 : Nat) : Int) from rfl) ⟨Nat.zero_le _, hcap⟩) (La rfl (Rt (Wret (Ex_done1 rfl rfl ?_))))
 have e : slA (some (Addr.mk g 0 none)) 0 cap 5 = some ⟨g, 0, none⟩ := by
  unfold slA
  split
  ·
   rfl
  show some ((Addr.mk g 0 none).add (0 * 5)) = _
  rw [add_lit0]
 refine ⟨_, rfl, [(g, Row 48 (scs xs ++ s.cells ++ sp))], HS.pop (p := (b3, Row 48 s.cells)) hs hb3, ?_⟩
 rw [e, scs_app, scs_one]
 exact hb'
end Go.Proofs.YtffobakdngbadaaGreat
namespace Go.Proofs.YtffobakdngbadaaGreat
open Go Go.Lk
structure Rul where
 noise : Nat
 sway : Nat
 gate : Nat
 need : Int
 of : Int
 miss : Int
def Rul.cells (r : Rul) : List Value := [.float .f64 r.noise, .float .f64 r.sway, .float .f64 r.gate, .int .i64 r.need, .int .i64 r.of, .int .i64 r.miss]
structure RulOk (r : Rul) : Prop where
 gate : GateOk r.gate
 noise : r.noise < 18446744073709551616
 sway : r.sway < 18446744073709551616
 of1 : 1 <= r.of
 of16 : r.of <= 16
 need1 : 1 <= r.need
 needof : r.need <= r.of
 miss1 : 1 <= r.miss
 miss16 : r.miss <= 16
def kindF (r : Rul) (kind : Int) (seen : Nat) (steps : Int) : Int := if r.miss <= steps /\ lowF seen r.miss.toNat = 0 then 2 else if kind = 1 ∨ r.need <= (lowF seen r.of.toNat : Int) then 1 else kind
def endT (r : Rul) (t : Trk) (time : Nat) : Trk := { t with kind := kindF r t.kind t.seen (t.steps + 1), steps := t.steps + 1, last := time }
structure On where
 p : Nat
 t : Trk
 vx : Value
 Mx : Bks
 xs : List Stt
 vy : Value
 My : Bks
 ys : List Stt
 c : Nat
def on0 : On := ⟨0, trk0, .slice none 0 0, [], [], .slice none 0 0, [], [], 0⟩
def On.cells (o : On) : List Value := [.int .i64 o.t.id, .int .i8 o.t.kind, .float .f64 o.t.x.x, .float .f64 o.t.x.v, .float .f64 o.t.x.p, .float .f64 o.t.x.q, .float .f64 o.t.x.r, .float .f64 o.t.y.x, .float .f64 o.t.y.v, .float .f64 o.t.y.p, .float .f64 o.t.y.q, .float .f64 o.t.y.r, .int .u16 o.t.seen, .int .i64 o.t.steps, .float .f64 o.t.last, o.vx, o.vy]
def On.row (o : On) : Nat × Obj := (o.p, Row 76 o.cells)
def On.bks (o : On) : Bks := o.row :: (o.Mx ++ o.My)
structure On.ok (w0 : World) (o : On) : Prop where
 p : w0.heap.size <= o.p
 bx : Bl w0 48 5 o.vx o.xs.length (scs o.xs) o.Mx
 by' : Bl w0 48 5 o.vy o.ys.length (scs o.ys) o.My
 seen : o.t.seen < 65536
theorem On.ok.own {w0 : World} {o : On} (h : o.ok w0) : Own w0 o.bks := Own.cons h.p (h.bx.own.app h.by'.own)
def SPL (s : Nat) (f : FuncId) (args : Array Value) (v : Value) : Prop := match f, args.toList with
 | 71, [.int .i64 n, _] => v = .int .i64 (lowF s n.toNat)
 | _, _ => False
theorem lowestH {w0 w : World} {L : Bks} (hs : HS w0 w L) (b p s : Nat) (n : Int) (hb : w.cell? ⟨b, 0, none⟩ = some (.pointer (some ⟨p, 0, none⟩))) (hs12 : w.cell? ⟨p, 12, none⟩ = some (.int .u16 s)) (hs16 : s < 65536) (h0 : 0 <= n) (hn : n <= 16) :
  Ret Tryz.prog 71 ([] ++ [Value.int .i64 n] ++ [Value.pointer (some ⟨b, 0, none⟩)]) w fun v w' => SPL s 71 (([] : List Value) ++ [Value.int .i64 n] ++ [Value.pointer (some ⟨b, 0, none⟩)]).toArray v /\ HS w0 w' L := by
 obtain ⟨m, rfl⟩ : ∃ m : Nat, n = (m : Int) := ⟨n.toNat, by omega⟩
 refine Calls.mono (lowest_ok b p s m w hb hs12 hs16 (by omega)) fun e w' => ?_
 rintro ⟨v, rfl, rfl, hs'⟩
 exact ⟨_, rfl, rfl, hs.nil hs'⟩
abbrev oRow (o : On) (t : Trk) : List Value := On.cells { o with t := t }
def endP (w0 : World) (o : On) (t : Trk) (V : Nat -> Value) (k : Nat) (v : Value) (m : Bks) : Prop := match k with
 | 0 | 1 | 3 | 4 | 7 | 8 | 13 | 14 | 17 | 18 | 22 | 25 => v = .pointer (some ⟨o.p, 0, none⟩) /\ m = []
 | 2 | 12 => v = .func (.func 73) #[] #[] /\ m = []
 | 5 | 23 => v = .pointer (some ((Addr.mk o.p 0 none).add 15)) /\ m = []
 | 15 | 26 => v = .pointer (some ((Addr.mk o.p 0 none).add 16)) /\ m = []
 | 9 => v = .pointer (some ((Addr.mk o.p 0 none).add 2)) /\ m = []
 | 19 => v = .pointer (some ((Addr.mk o.p 0 none).add 7)) /\ m = []
 | 6 => v = o.vx /\ m = []
 | 16 => v = o.vy /\ m = []
 | 10 => v = .agg o.t.x.cells.toArray /\ m = []
 | 20 => v = .agg o.t.y.cells.toArray /\ m = []
 | 11 => Bl w0 48 5 v (o.xs.length + 1) (scs (o.xs ++ [o.t.x])) m
 | 21 => Bl w0 48 5 v (o.ys.length + 1) (scs (o.ys ++ [o.t.y])) m
 | 24 => m = [(o.p, Row 76 ((oRow o t).set 15 (V 11)))]
 | 27 => m = [(o.p, Row 76 (((oRow o t).set 15 (V 11)).set 16 (V 21)))]
 | 100 => m = o.Mx
 | 101 => m = o.My
 | 102 => m = [(o.p, Row 76 (oRow o t))]
 | _ => False
def endM (o : On) (t : Trk) (k : Nat) : Bks := if k = 100 then o.Mx else if k = 101 then o.My else if k = 102 then [(o.p, Row 76 (oRow o t))] else []
theorem endP_loc (w0 : World) (o : On) (t : Trk) : ∀ (k : Nat) (V V' : Nat -> Value) (v : Value) (m : Bks), (∀ d ∈ (([[], [], [], [], [3], [4], [5, 102], [], [7], [8], [9, 102], [2, 6, 10, 100], [], [], [13], [14], [15, 102], [], [17], [18], [19, 102], [12, 16, 20, 101], [0], [22], [23, 11, 102], [1], [25], [26, 21, 24, 11]] : List (List Nat)).getD k []), V d = V' d) -> endP w0 o t V k v m -> endP w0 o t V' k v m := by
 intro k V V' v m h hp
 by_cases h24 : k = 24
 ·
  subst h24
  have e := h 11 (by decide)
  show m = _
  rw [<- e]; exact hp
 by_cases h27 : k = 27
 ·
  subst h27
  have e1 := h 11 (by decide)
  have e2 := h 21 (by decide)
  show m = _
  rw [<- e1, <- e2]; exact hp
 unfold endP at hp
 split at hp <;> first | exact hp | exact absurd rfl h24 | exact absurd rfl h27 | exact False.elim hp
set_option maxHeartbeats 1000000 in
theorem ends_ok (w0 w : World) (B time : Nat) (r : Rul) (rest : List Value) (o : On) (L : Bks) (hs : HS w0 w (L ++ o.bks)) (ho : o.ok w0) (hB : (B, Row 66 (r.cells ++ rest)) ∈ L) (hr : RulOk r) (hst : 0 <= o.t.steps /\ o.t.steps <= 1000000) (hl : o.xs.length + 1 <= 1024) (hl2 : o.ys.length + 1 <= 1024) (hoL : Own w0 L) :
  Ret Tryz.prog 38 [.pointer (some ⟨B, 0, none⟩), .pointer (some ⟨o.p, 0, none⟩), .float .f64 time] w fun _ w' => ∃ o' : On, o'.p = o.p /\ o'.c = o.c /\ o'.t = endT r o.t time /\ o'.xs = o.xs ++ [o.t.x] /\ o'.ys = o.ys ++ [o.t.y] /\ HS w0 w' (L ++ o'.bks) /\ o'.ok w0 := by
 obtain ⟨Z, hZ⟩ : ∃ Z, Z = o.Mx ++ (o.My ++ L) := ⟨_, rfl⟩
 have hBZ : (B, Row 66 (r.cells ++ rest)) ∈ Z := by rw [hZ]; simp [hB]
 have h1 : HS w0 w ((o.p, Row 76 (oRow o o.t)) :: Z) := by
  have h2 : HS w0 w (L ++ (o.row :: (o.Mx ++ o.My))) := hs
  rw [hZ]
  exact HS.re (L' := o.row :: (o.Mx ++ (o.My ++ L))) h2 (fun c => by simp only [mpA, mpC, mpN, smA, smC, smN]; omega)
 clear hs
 have hs := h1
 clear h1
 have hp := ho.p
 have hrB : ∀ {w' : World} {L' : Bks} {j : Nat} {v : Value}, HS w0 w' L' -> (∀ q ∈ Z, q ∈ L') -> (r.cells ++ rest)[j]? = some v -> w'.cell? ⟨B, j, none⟩ = some v := fun h1 h2 h3 => Lk.cell_of_row (h1.has _ (h2 _ hBZ)) h3
 refine calls_of_W Tryz.func38 rfl rfl rfl (Wq (Lm rfl (Ln rfl (Lf 0 u_76 rfl i_51 ?_))))
 refine L_alloc rfl hs i_86 ?_; intro b6 w hb6 _ hs; replace hs := HS.push hs
 refine L_store hs (i := 0) rfl i_86 rfl rfl (by rfl) (by simp) rfl ?_
 intro w hs
 dsimp only [sS, sZ, sA, sN] at hs
 refine Rt (Wsq ?_)
 replace hs : HS w0 w ((b6, Row 86 [.pointer (some ⟨o.p, 0, none⟩)]) :: (o.p, Row 76 (oRow o o.t)) :: Z) := hs
 refine Wr (Ll o_86 rfl (by exact hs.cell (i := 0) rfl rfl) ?_)
 refine Ln rfl (Lf 13 u_51 rfl i_3 (Ll o_3 rfl (by exact hs.cell (i := 1) rfl rfl) ?_))
 refine RL_set 15 (v' := .int .i64 o.t.steps) rfl (rfl) (Cadd rfl (wrp_i64 (by omega)) ?_)
 refine Ln rfl (Lf 13 u_51 rfl i_3 (L_store hs (i := 1) rfl i_3 rfl rfl (by rfl) (by simp [On.cells]) rfl ?_))
 intro w hs
 dsimp only [sS, sZ, sA, sN] at hs
 refine Rq (Ll o_86 rfl (by exact hs.cell (i := 0) rfl rfl) ?_)
 refine Lm rfl (Ln rfl (Lf 14 u_51 rfl i_22 (L_store hs (i := 1) rfl i_22 rfl rfl (by rfl) (by simp [On.cells]) rfl ?_)))
 intro w hs
 dsimp only [sS, sZ, sA, sN] at hs
 refine Rt (Wsq ?_)
 obtain ⟨st, hst'⟩ : ∃ st, st = o.t.steps + 1 := ⟨_, rfl⟩
 replace hs : HS w0 w ((b6, Row 86 [.pointer (some ⟨o.p, 0, none⟩)]) :: (o.p, Row 76 (oRow o { o.t with steps := st, last := time })) :: Z) := by rw [hst']; exact hs
 refine Wr (RL_val rfl (R_makeFunc rfl rfl) (La rfl (Rt (Wsq (W_cut2 (fun (kd : Int) (w : World) => [(0, .pointer (some ⟨B, 0, none⟩)), (1, .pointer (some ⟨o.p, 0, none⟩)), (6, .pointer (some ⟨b6, 0, none⟩))]) (fun kd w => w) (fun kd w => (kd = kindF r o.t.kind o.t.seen st) /\ (HS w0 w ((b6, Row 86 [.pointer (some ⟨o.p, 0, none⟩)]) :: (o.p, Row 76 (oRow o { o.t with kind := kd, steps := st, last := time })) :: Z))) ?_ ?_)))))
 ·
  have hZ1 : ∀ {v1 v2 : Nat × Obj}, ∀ q ∈ Z, q ∈ v1 :: v2 :: Z := fun q hq => List.mem_cons_of_mem _ (List.mem_cons_of_mem _ hq)
  have hm1 := hr.miss1
  have hm16 := hr.miss16
  have ho1 := hr.of1
  have ho16 := hr.of16
  obtain ⟨lm, hlm⟩ : ∃ lm, lm = lowF o.t.seen r.miss.toNat := ⟨_, rfl⟩
  refine W_block (Wsq (W_cut2 (fun (g : Bool) (w : World) => [(0, .pointer (some ⟨B, 0, none⟩)), (1, .pointer (some ⟨o.p, 0, none⟩)), (6, .pointer (some ⟨b6, 0, none⟩)), (7, .func (.func 71) #[] #[.pointer (some ⟨b6, 0, none⟩)]), (24, .bool g)]) (fun g w => w) (fun g w => (g = decide (r.miss <= st /\ lm = 0)) /\ (HS w0 w ((b6, Row 86 [.pointer (some ⟨o.p, 0, none⟩)]) :: (o.p, Row 76 (oRow o { o.t with steps := st, last := time })) :: Z))) ?_ ?_))
  ·
   by_cases h1 : r.miss <= st
   ·
    refine W_pht [4, 5, 6, 7] [0, 1, 2, 3, 8, 9, 10, 11, 12, 13, 14, 15, 16] [17, 18, 19, 20] (fun _ _ _ => False) Tryz.mixed (by kernel_rfl) (fun _ _ _ _ _ h => h) hs ?_
    refine Pm rfl (Pn rfl (Pfa 0 u_66 rfl i_24 (Pfa 5 u_24 rfl i_3 (PL_end (Hv rfl (fun w hs => R_load o_86 rfl (by exact hs.cell (i := 0) rfl rfl)) ?_)))))
    refine Hv rfl (fun w hs => R_nilCheck rfl) ?_
    refine Hf 13 u_51 rfl i_3 (Hl o_3 rfl (fun w hs => (by exact hs.cell (i := 1) rfl rfl)) ?_)
    refine Hl o_3 rfl (fun w hs => (by exact hrB hs hZ1 (j := 5) rfl)) ?_
    refine Hv rfl (fun w hs => R_geq rfl rfl (dtrue (by omega))) ?_
    refine Hm rfl (Hw rfl rfl (Hm rfl (Hw rfl rfl (Hm rfl (Hw rfl rfl (Hv rfl (fun w hs => R_nilCheck rfl) ?_))))))
    refine Hw rfl rfl (Hf 0 u_66 rfl i_24 (Hw rfl rfl (Hf 5 u_24 rfl i_3 (Hw rfl rfl (Hv rfl (fun w hs => R_load o_3 rfl (by exact hrB hs hZ1 (j := 5) rfl)) ?_)))))
    refine HL_tail ?_
    intro w hs
    refine Rw rfl (L_callV rfl f_71 rfl rfl (lowestH hs b6 o.p o.t.seen r.miss (hs.cell (i := 0) rfl rfl) (hs.cell (i := 1) rfl rfl) ho.seen (by omega) hm16) ?_)
    rintro _ w ⟨hv, hs⟩
    obtain rfl := hv
    rw [<- hlm]
    by_cases h2 : lm = 0
    ·
     refine Rw rfl (Ceql rfl (dtrue (by omega)) ?_)
     refine Lpt rfl (La rfl (Rnl (Nx_cutP (true, w) (is := [0, 1, 6, 7, 24]) (I' := (fun (g : Bool) (w : World) => (g = decide (r.miss <= st /\ lm = 0)) /\ (HS w0 w ((b6, Row 86 [.pointer (some ⟨o.p, 0, none⟩)]) :: (o.p, Row 76 (oRow o { o.t with steps := st, last := time })) :: Z))) (true) (w)) rfl rfl rfl ?_)))
     exact ⟨(decide_eq_true ⟨h1, h2⟩).symm, hs⟩
    refine Rw rfl (Ceql rfl (dfalse (by omega)) ?_)
    refine Lpt rfl (La rfl (Rnl (Nx_cutP (false, w) (is := [0, 1, 6, 7, 24]) (I' := (fun (g : Bool) (w : World) => (g = decide (r.miss <= st /\ lm = 0)) /\ (HS w0 w ((b6, Row 86 [.pointer (some ⟨o.p, 0, none⟩)]) :: (o.p, Row 76 (oRow o { o.t with steps := st, last := time })) :: Z))) (false) (w)) rfl rfl rfl ?_)))
    exact ⟨(decide_eq_false fun h => h2 h.2).symm, hs⟩
   refine W_pht [4, 5, 6, 7] [0, 1, 2, 3, 8, 9, 10, 11, 12, 13, 14, 15, 16] [17, 18, 19, 20] (fun _ _ _ => False) Tryz.mixed (by kernel_rfl) (fun _ _ _ _ _ h => h) hs ?_
   refine Pm rfl (Pn rfl (Pfa 0 u_66 rfl i_24 (Pfa 5 u_24 rfl i_3 (PL_end (Hv rfl (fun w hs => R_load o_86 rfl (by exact hs.cell (i := 0) rfl rfl)) ?_)))))
   refine Hv rfl (fun w hs => R_nilCheck rfl) ?_
   refine Hf 13 u_51 rfl i_3 (Hl o_3 rfl (fun w hs => (by exact hs.cell (i := 1) rfl rfl)) ?_)
   refine Hl o_3 rfl (fun w hs => (by exact hrB hs hZ1 (j := 5) rfl)) ?_
   refine Hv rfl (fun w hs => R_geq rfl rfl (dfalse (by omega))) ?_
   refine Hm rfl (HL_skip rfl rfl rfl rfl (HL_skip rfl rfl rfl rfl (HL_skip rfl rfl rfl rfl (HL_skip rfl rfl rfl rfl (HL_skip rfl rfl rfl rfl (HL_skip rfl rfl rfl rfl (HL_tail ?_)))))))
   intro w hs
   refine Rs rfl (Rs rfl (Lpf rfl (La rfl (Rnl (Nx_cutP (false, _) (is := [0, 1, 6, 7, 24]) (I' := (fun (g : Bool) (w : World) => (g = decide (r.miss <= st /\ lm = 0)) /\ (HS w0 w ((b6, Row 86 [.pointer (some ⟨o.p, 0, none⟩)]) :: (o.p, Row 76 (oRow o { o.t with steps := st, last := time })) :: Z))) (false) (_)) rfl rfl rfl ?_)))))
   exact ⟨(decide_eq_false fun h => h1 h.1).symm, hs⟩
  clear hs
  intro g w hI
  show W _ _ _ _ [(0, .pointer (some ⟨B, 0, none⟩)), (1, .pointer (some ⟨o.p, 0, none⟩)), (6, .pointer (some ⟨b6, 0, none⟩)), (7, .func (.func 71) #[] #[.pointer (some ⟨b6, 0, none⟩)]), (24, .bool g)] w
  obtain ⟨hg, hs⟩ := hI
  by_cases h1 : r.miss <= st /\ lm = 0
  ·
   obtain rfl : g = true := by rw [hg]; exact decide_eq_true h1
   have e : (2 : Int) = kindF r o.t.kind o.t.seen st := by unfold kindF; rw [<- hlm, if_pos h1]
   refine Wt rfl (Wr (Ll o_86 rfl (by exact hs.cell (i := 0) rfl rfl) ?_))
   refine Ln rfl (Lf 1 u_51 rfl i_46 (L_store hs (i := 1) rfl i_46 rfl rfl (by rfl) (by simp [On.cells]) rfl ?_))
   intro w hs
   dsimp only [sS, sZ, sA, sN] at hs
   refine Rnl (Nx_block (Nx_cutP (2, w) (is := [0, 1, 6]) (I' := (fun (kd : Int) (w : World) => (kd = kindF r o.t.kind o.t.seen st) /\ (HS w0 w ((b6, Row 86 [.pointer (some ⟨o.p, 0, none⟩)]) :: (o.p, Row 76 (oRow o { o.t with kind := kd, steps := st, last := time })) :: Z))) (2) (w)) rfl rfl rfl ?_))
   exact ⟨e, hs⟩
  obtain rfl : g = false := by rw [hg]; exact decide_eq_false h1
  refine Wf rfl ?_
  by_cases h2 : o.t.kind = 1
  ·
   have e : (1 : Int) = kindF r o.t.kind o.t.seen st := by unfold kindF; rw [<- hlm, if_neg h1, if_pos (.inl h2)]
   refine Wqq (Ll o_86 rfl (by exact hs.cell (i := 0) rfl rfl) ?_)
   refine Ln rfl (Lf 1 u_51 rfl i_46 (Ll o_46 rfl (by exact hs.cell (i := 1) rfl rfl) ?_))
   refine RL_set 52 (v' := .int .i8 o.t.kind) rfl (rfl) (Ceql rfl (dtrue (by omega)) ?_)
   refine La rfl (Rt (Wt rfl (Ws (Wt rfl (Wr (Ll o_86 rfl (by exact hs.cell (i := 0) rfl rfl) ?_))))))
   refine Ln rfl (Lf 1 u_51 rfl i_46 (L_store hs (i := 1) rfl i_46 rfl rfl (by rfl) (by simp [On.cells]) rfl ?_))
   intro w hs
   dsimp only [sS, sZ, sA, sN] at hs
   refine Rnl (Nx_block (Nx_cutP (1, _) (is := [0, 1, 6]) (I' := (fun (kd : Int) (w : World) => (kd = kindF r o.t.kind o.t.seen st) /\ (HS w0 w ((b6, Row 86 [.pointer (some ⟨o.p, 0, none⟩)]) :: (o.p, Row 76 (oRow o { o.t with kind := kd, steps := st, last := time })) :: Z))) (1) (_)) rfl rfl rfl ?_))
   exact ⟨e, hs⟩
  refine Wqq (Ll o_86 rfl (by exact hs.cell (i := 0) rfl rfl) ?_)
  refine Ln rfl (Lf 1 u_51 rfl i_46 (Ll o_46 rfl (by exact hs.cell (i := 1) rfl rfl) ?_))
  refine RL_set 52 (v' := .int .i8 o.t.kind) rfl (rfl) (Ceql rfl (dfalse (by omega)) ?_)
  refine La rfl (Rt (Wf rfl (W_sg Tryz.mixed ?_)))
  replace hs := hs.drewN 1
  refine SG_stageB [0, 1, 2, 3, 4, 7, 8, 9, 10] [5, 6, 11, 12, 13] [] (noBk (SPL o.t.seen)) (g' := 0) (by kernel_rfl) (by kernel_rfl) (fun _ _ _ _ _ h => h) hs ?_
  refine Pm rfl (Pm rfl (Pn rfl (Pfa 0 u_66 rfl i_24 (Pfa 4 u_24 rfl i_3 (Pm rfl (Pn rfl (Pfa 0 u_66 rfl i_24 (Pfa 3 u_24 rfl i_3 (PL_endB (HB_val rfl (fun w R hR hs => R_load o_3 rfl (by exact hrB hs (fun q hq => List.mem_append_left _ (hZ1 q hq)) (j := 4) rfl)) ?_))))))))))
  refine HB_callV rfl f_71 rfl rfl (fun w R hR hs => lowestH hs b6 o.p o.t.seen r.of (hs.cell (i := 0) rfl rfl) (hs.cell (i := 1) rfl rfl) ho.seen (by omega) ho16) ?_
  rintro _ hv
  obtain rfl := hv
  obtain ⟨lo, hlo⟩ : ∃ lo, lo = lowF o.t.seen r.of.toNat := ⟨_, rfl⟩
  rw [<- hlo]
  by_cases h3 : r.need <= (lo : Int)
  ·
   have e : (1 : Int) = kindF r o.t.kind o.t.seen st := by unfold kindF; rw [<- hlm, if_neg h1, if_pos (.inr (by rw [<- hlo]; exact h3))]
   refine HB_val rfl (fun w R hR hs => R_load o_3 rfl (by exact hrB hs (fun q hq => List.mem_append_left _ (hZ1 q hq)) (j := 3) rfl)) ?_
   refine HB_val rfl (fun w R hR hs => R_geq rfl rfl (dtrue (by omega))) ?_
   refine HB_val rfl (fun w R hR hs => R_assign rfl) ?_
   refine HB_tail ?_
   intro w hs
   refine RL_sg (SG_end (by kernel_rfl) ?_)
   refine Nt (Wt rfl (Wr (Ll o_86 rfl (by exact hs.cell (i := 0) rfl rfl) ?_)))
   refine Ln rfl (Lf 1 u_51 rfl i_46 (L_store hs (i := 1) rfl i_46 rfl rfl (by rfl) (by simp [On.cells]) rfl ?_))
   intro w hs
   dsimp only [sS, sZ, sA, sN] at hs
   refine Rnl (Nx_block (Nx_cutP (1, _) (is := [0, 1, 6]) (I' := (fun (kd : Int) (w : World) => (kd = kindF r o.t.kind o.t.seen st) /\ (HS w0 w ((b6, Row 86 [.pointer (some ⟨o.p, 0, none⟩)]) :: (o.p, Row 76 (oRow o { o.t with kind := kd, steps := st, last := time })) :: Z))) (1) (_)) rfl rfl rfl ?_))
   exact ⟨e, by rw [List.append_nil] at hs; exact hs⟩
  have e : o.t.kind = kindF r o.t.kind o.t.seen st := by unfold kindF; rw [<- hlm, if_neg h1, if_neg (fun h => h.elim h2 fun h => h3 (by rw [hlo]; exact h))]
  refine HB_val rfl (fun w R hR hs => R_load o_3 rfl (by exact hrB hs (fun q hq => List.mem_append_left _ (hZ1 q hq)) (j := 3) rfl)) ?_
  refine HB_val rfl (fun w R hR hs => R_geq rfl rfl (dfalse (by omega))) ?_
  refine HB_val rfl (fun w R hR hs => R_assign rfl) ?_
  refine HB_tail ?_
  intro w hs
  refine RL_sg (SG_end (by kernel_rfl) ?_)
  refine Nt (Wf rfl (W_skip' (Nx_block (Nx_cutP (o.t.kind, _) (is := [0, 1, 6]) (I' := (fun (kd : Int) (w : World) => (kd = kindF r o.t.kind o.t.seen st) /\ (HS w0 w ((b6, Row 86 [.pointer (some ⟨o.p, 0, none⟩)]) :: (o.p, Row 76 (oRow o { o.t with kind := kd, steps := st, last := time })) :: Z))) (o.t.kind) (_)) rfl rfl rfl ?_))))
  exact ⟨e, by rw [List.append_nil] at hs; exact hs⟩
 clear hs
 intro kd w hI
 show W _ _ _ _ [(0, .pointer (some ⟨B, 0, none⟩)), (1, .pointer (some ⟨o.p, 0, none⟩)), (6, .pointer (some ⟨b6, 0, none⟩))] w
 obtain ⟨hkd, hs⟩ := hI
 obtain ⟨t1, ht1⟩ : ∃ t1 : Trk, t1 = { o.t with kind := kd, steps := st, last := time } := ⟨_, rfl⟩
 have hx1 : t1.x = o.t.x := by rw [ht1]
 have hy1 : t1.y = o.t.y := by rw [ht1]
 rw [<- ht1] at hs
 obtain ⟨L0, hL0⟩ : ∃ L0, L0 = (b6, Row 86 [.pointer (some ⟨o.p, 0, none⟩)]) :: L := ⟨_, rfl⟩
 have h6L : (b6, Row 86 [.pointer (some ⟨o.p, 0, none⟩)]) ∈ L0 := by rw [hL0]; exact List.mem_cons_self ..
 have hs0 : HS w0 w (L0 ++ [100, 101, 102].flatMap (endM o t1)) := by
  show HS w0 w (L0 ++ (o.Mx ++ (o.My ++ ([(o.p, Row 76 (oRow o t1))] ++ []))))
  rw [hL0]
  rw [hZ] at hs
  exact HS.re hs (fun c => by simp only [mpA, mpC, mpN, smA, smC, smN]; omega)
 clear hs
 have hs := hs0
 clear hs0
 refine Wq (La rfl (Rt ?_))
 have hM0 : ∀ k ∈ [100, 101, 102], ∀ V : Nat -> Value, endP w0 o t1 V k .nilIface (endM o t1 k) /\ Own w0 (endM o t1 k) := by
  intro k hk V
  simp only [List.mem_cons, List.not_mem_nil, or_false] at hk
  rcases hk with rfl | rfl | rfl
  ·
   exact ⟨rfl, ho.bx.own⟩
  ·
   exact ⟨rfl, ho.by'.own⟩
  exact ⟨rfl, Own.cons hp Own.nil⟩
 refine W_anyP (endP w0 o t1) (fun i => ([[], [], [], [], [3], [4], [5, 102], [], [7], [8], [9, 102], [2, 6, 10, 100], [], [], [13], [14], [15, 102], [], [17], [18], [19, 102], [12, 16, 20, 101], [0], [22], [23, 11, 102], [1], [25], [26, 21, 24, 11]] : List (List Nat)).getD i []) (fun i => ([[], [], [], [], [], [], [], [], [], [], [], [100], [], [], [], [], [], [], [], [], [], [101], [], [], [102], [], [], [24]] : List (List Nat)).getD i []) [100, 101, 102] (endM o t1) (hM0) (endP_loc w0 o t1) Tryz.mixed (by kernel_rfl) hs ?_ ?_
 ·
  intro i oo ho' V M E R w Q' hdep hlook hold hR hin hs hc
  match i, ho' with
  | 0, ho' =>
   cases ho'
   refine L_move rfl (hold 1 _ rfl (nd (by kernel_rfl))) ?_
   exact hc _ [] w ⟨rfl, rfl⟩ Own.nil hs
  | 1, ho' =>
   cases ho'
   refine L_move rfl (hold 1 _ rfl (nd (by kernel_rfl))) ?_
   exact hc _ [] w ⟨rfl, rfl⟩ Own.nil hs
  | 3, ho' =>
   cases ho'
   refine L_move rfl (hold 1 _ rfl (nd (by kernel_rfl))) ?_
   exact hc _ [] w ⟨rfl, rfl⟩ Own.nil hs
  | 13, ho' =>
   cases ho'
   refine L_move rfl (hold 1 _ rfl (nd (by kernel_rfl))) ?_
   exact hc _ [] w ⟨rfl, rfl⟩ Own.nil hs
  | 2, ho' =>
   cases ho'
   refine L_move rfl (hold 8 _ rfl (nd (by kernel_rfl))) ?_
   exact hc _ [] w ⟨rfl, rfl⟩ Own.nil hs
  | 12, ho' =>
   cases ho'
   refine L_move rfl (hold 8 _ rfl (nd (by kernel_rfl))) ?_
   exact hc _ [] w ⟨rfl, rfl⟩ Own.nil hs
  | 4, ho' =>
   cases ho'
   have e3 : Lk.look E 73 = some (.pointer (some ⟨o.p, 0, none⟩)) := by rw [hlook 3 (by decide) _ _ rfl rfl, (hdep 3 (by decide)).1.1]
   refine L_nilCheck rfl e3 ?_
   exact hc _ [] w ⟨rfl, rfl⟩ Own.nil hs
  | 8, ho' =>
   cases ho'
   have e7 : Lk.look E 77 = some (.pointer (some ⟨o.p, 0, none⟩)) := by rw [hlook 7 (by decide) _ _ rfl rfl, (hdep 7 (by decide)).1.1]
   refine L_nilCheck rfl e7 ?_
   exact hc _ [] w ⟨rfl, rfl⟩ Own.nil hs
  | 14, ho' =>
   cases ho'
   have e13 : Lk.look E 83 = some (.pointer (some ⟨o.p, 0, none⟩)) := by rw [hlook 13 (by decide) _ _ rfl rfl, (hdep 13 (by decide)).1.1]
   refine L_nilCheck rfl e13 ?_
   exact hc _ [] w ⟨rfl, rfl⟩ Own.nil hs
  | 18, ho' =>
   cases ho'
   have e17 : Lk.look E 87 = some (.pointer (some ⟨o.p, 0, none⟩)) := by rw [hlook 17 (by decide) _ _ rfl rfl, (hdep 17 (by decide)).1.1]
   refine L_nilCheck rfl e17 ?_
   exact hc _ [] w ⟨rfl, rfl⟩ Own.nil hs
  | 22, ho' =>
   cases ho'
   have e0 : Lk.look E 70 = some (.pointer (some ⟨o.p, 0, none⟩)) := by rw [hlook 0 (by decide) _ _ rfl rfl, (hdep 0 (by decide)).1.1]
   refine L_nilCheck rfl e0 ?_
   exact hc _ [] w ⟨rfl, rfl⟩ Own.nil hs
  | 25, ho' =>
   cases ho'
   have e1 : Lk.look E 71 = some (.pointer (some ⟨o.p, 0, none⟩)) := by rw [hlook 1 (by decide) _ _ rfl rfl, (hdep 1 (by decide)).1.1]
   refine L_nilCheck rfl e1 ?_
   exact hc _ [] w ⟨rfl, rfl⟩ Own.nil hs
  | 5, ho' =>
   cases ho'
   have e4 : Lk.look E 74 = some (.pointer (some ⟨o.p, 0, none⟩)) := by rw [hlook 4 (by decide) _ _ rfl rfl, (hdep 4 (by decide)).1.1]
   refine L_fieldAddr rfl (off := 15) u_76 rfl rfl i_55 e4 ?_
   exact hc _ [] w ⟨rfl, rfl⟩ Own.nil hs
  | 15, ho' =>
   cases ho'
   have e14 : Lk.look E 84 = some (.pointer (some ⟨o.p, 0, none⟩)) := by rw [hlook 14 (by decide) _ _ rfl rfl, (hdep 14 (by decide)).1.1]
   refine L_fieldAddr rfl (off := 16) u_76 rfl rfl i_55 e14 ?_
   exact hc _ [] w ⟨rfl, rfl⟩ Own.nil hs
  | 23, ho' =>
   cases ho'
   have e22 : Lk.look E 92 = some (.pointer (some ⟨o.p, 0, none⟩)) := by rw [hlook 22 (by decide) _ _ rfl rfl, (hdep 22 (by decide)).1.1]
   refine L_fieldAddr rfl (off := 15) u_76 rfl rfl i_55 e22 ?_
   exact hc _ [] w ⟨rfl, rfl⟩ Own.nil hs
  | 26, ho' =>
   cases ho'
   have e25 : Lk.look E 94 = some (.pointer (some ⟨o.p, 0, none⟩)) := by rw [hlook 25 (by decide) _ _ rfl rfl, (hdep 25 (by decide)).1.1]
   refine L_fieldAddr rfl (off := 16) u_76 rfl rfl i_55 e25 ?_
   exact hc _ [] w ⟨rfl, rfl⟩ Own.nil hs
  | 9, ho' =>
   cases ho'
   have e8 : Lk.look E 78 = some (.pointer (some ⟨o.p, 0, none⟩)) := by rw [hlook 8 (by decide) _ _ rfl rfl, (hdep 8 (by decide)).1.1]
   refine L_fieldAddr rfl (off := 2) u_51 rfl rfl i_48 e8 ?_
   exact hc _ [] w ⟨rfl, rfl⟩ Own.nil hs
  | 19, ho' =>
   cases ho'
   have e18 : Lk.look E 88 = some (.pointer (some ⟨o.p, 0, none⟩)) := by rw [hlook 18 (by decide) _ _ rfl rfl, (hdep 18 (by decide)).1.1]
   refine L_fieldAddr rfl (off := 7) u_51 rfl rfl i_48 e18 ?_
   exact hc _ [] w ⟨rfl, rfl⟩ Own.nil hs
  | 7, ho' =>
   cases ho'
   refine L_load rfl o_86 (hold 6 _ rfl (nd (by kernel_rfl))) (Lk.cell_of_row (hs.has _ (List.mem_append_left _ (List.mem_append_left _ h6L))) rfl) ?_
   exact hc _ [] w ⟨rfl, rfl⟩ Own.nil hs
  | 17, ho' =>
   cases ho'
   refine L_load rfl o_86 (hold 6 _ rfl (nd (by kernel_rfl))) (Lk.cell_of_row (hs.has _ (List.mem_append_left _ (List.mem_append_left _ h6L))) rfl) ?_
   exact hc _ [] w ⟨rfl, rfl⟩ Own.nil hs
  | 6, ho' =>
   cases ho'
   have e5 : Lk.look E 75 = some (.pointer (some ((Addr.mk o.p 0 none).add 15))) := by rw [hlook 5 (by decide) _ _ rfl rfl, (hdep 5 (by decide)).1.1]
   have hrow : (o.p, Row 76 (oRow o t1)) ∈ (L0 ++ R) ++ [] := by
    have h9 := hin 102 (by decide) (o.p, Row 76 (oRow o t1)) (by rw [(hdep 102 (by decide)).1]; exact List.mem_cons_self ..)
    rw [List.append_nil]
    exact List.mem_append_right _ (by simpa using h9)
   refine L_load rfl o_55 e5 (cellAM hs hrow rfl) ?_
   exact hc _ [] w ⟨rfl, rfl⟩ Own.nil hs
  | 16, ho' =>
   cases ho'
   have e15 : Lk.look E 85 = some (.pointer (some ((Addr.mk o.p 0 none).add 16))) := by rw [hlook 15 (by decide) _ _ rfl rfl, (hdep 15 (by decide)).1.1]
   have hrow : (o.p, Row 76 (oRow o t1)) ∈ (L0 ++ R) ++ [] := by
    have h9 := hin 102 (by decide) (o.p, Row 76 (oRow o t1)) (by rw [(hdep 102 (by decide)).1]; exact List.mem_cons_self ..)
    rw [List.append_nil]
    exact List.mem_append_right _ (by simpa using h9)
   refine L_load rfl o_55 e15 (cellAM hs hrow rfl) ?_
   exact hc _ [] w ⟨rfl, rfl⟩ Own.nil hs
  | 10, ho' =>
   cases ho'
   have e9 : Lk.look E 79 = some (.pointer (some ((Addr.mk o.p 0 none).add 2))) := by rw [hlook 9 (by decide) _ _ rfl rfl, (hdep 9 (by decide)).1.1]
   have hrow : (o.p, Row 76 (oRow o t1)) ∈ (L0 ++ R) ++ [] := by
    have h9 := hin 102 (by decide) (o.p, Row 76 (oRow o t1)) (by rw [(hdep 102 (by decide)).1]; exact List.mem_cons_self ..)
    rw [List.append_nil]
    exact List.mem_append_right _ (by simpa using h9)
   refine L_loadA rfl a_48 i_48 e9 (cellsAt_part (n := 5) (cs := t1.x.cells) (hs.has _ hrow) rfl) ?_
   rw [hx1]
   exact hc _ [] w ⟨rfl, rfl⟩ Own.nil hs
  | 20, ho' =>
   cases ho'
   have e19 : Lk.look E 89 = some (.pointer (some ((Addr.mk o.p 0 none).add 7))) := by rw [hlook 19 (by decide) _ _ rfl rfl, (hdep 19 (by decide)).1.1]
   have hrow : (o.p, Row 76 (oRow o t1)) ∈ (L0 ++ R) ++ [] := by
    have h9 := hin 102 (by decide) (o.p, Row 76 (oRow o t1)) (by rw [(hdep 102 (by decide)).1]; exact List.mem_cons_self ..)
    rw [List.append_nil]
    exact List.mem_append_right _ (by simpa using h9)
   refine L_loadA rfl a_48 i_48 e19 (cellsAt_part (n := 5) (cs := t1.y.cells) (hs.has _ hrow) rfl) ?_
   rw [hy1]
   exact hc _ [] w ⟨rfl, rfl⟩ Own.nil hs
  | 11, ho' =>
   cases ho'
   have ef : Lk.look E 72 = some (.func (.func 73) #[] #[]) := by rw [hlook 2 (by decide) _ _ rfl rfl, (hdep 2 (by decide)).1.1]
   have ev : Lk.look E 76 = some o.vx := by rw [hlook 6 (by decide) _ _ rfl rfl, (hdep 6 (by decide)).1.1]
   have es : Lk.look E 80 = some (.agg o.t.x.cells.toArray) := by rw [hlook 10 (by decide) _ _ rfl rfl, (hdep 10 (by decide)).1.1]
   have em : M 100 = o.Mx := (hdep 100 (by decide)).1
   replace hs : HS w0 w ((L0 ++ R) ++ (M 100 ++ [])) := hs
   rw [List.append_nil, em] at hs
   have ex : evalEs E [.tmp 76, .tmp 80] = some [o.vx, .agg o.t.x.cells.toArray] := by
    have e1 : evalE E (.tmp 76) = some o.vx := ev
    have e2 : evalE E (.tmp 80) = some (.agg o.t.x.cells.toArray) := es
    unfold evalEs evalEs evalEs
    rw [e1, e2]
   refine L_callV (first := []) (cap := []) rfl f_73 ef ex (kept_ok w0 w o.vx o.Mx (L0 ++ R) o.xs o.xs.length o.t.x hs ho.bx (by omega)) ?_
   rintro v w' ⟨M', hs', hb'⟩
   exact hc _ _ _ hb' hb'.own hs'
  | 21, ho' =>
   cases ho'
   have ef : Lk.look E 82 = some (.func (.func 73) #[] #[]) := by rw [hlook 12 (by decide) _ _ rfl rfl, (hdep 12 (by decide)).1.1]
   have ev : Lk.look E 86 = some o.vy := by rw [hlook 16 (by decide) _ _ rfl rfl, (hdep 16 (by decide)).1.1]
   have es : Lk.look E 90 = some (.agg o.t.y.cells.toArray) := by rw [hlook 20 (by decide) _ _ rfl rfl, (hdep 20 (by decide)).1.1]
   have em : M 101 = o.My := (hdep 101 (by decide)).1
   replace hs : HS w0 w ((L0 ++ R) ++ (M 101 ++ [])) := hs
   rw [List.append_nil, em] at hs
   have ex : evalEs E [.tmp 86, .tmp 90] = some [o.vy, .agg o.t.y.cells.toArray] := by
    have e1 : evalE E (.tmp 86) = some o.vy := ev
    have e2 : evalE E (.tmp 90) = some (.agg o.t.y.cells.toArray) := es
    unfold evalEs evalEs evalEs
    rw [e1, e2]
   refine L_callV (first := []) (cap := []) rfl f_73 ef ex (kept_ok w0 w o.vy o.My (L0 ++ R) o.ys o.ys.length o.t.y hs ho.by' (by omega)) ?_
   rintro v w' ⟨M', hs', hb'⟩
   exact hc _ _ _ hb' hb'.own hs'
  | 24, ho' =>
   cases ho'
   have e23 : Lk.look E 93 = some (.pointer (some ((Addr.mk o.p 0 none).add 15))) := by rw [hlook 23 (by decide) _ _ rfl rfl, (hdep 23 (by decide)).1.1]
   have ev : Lk.look E 81 = some (V 11) := hlook 11 (by decide) _ _ rfl rfl
   have em : M 102 = [(o.p, Row 76 (oRow o t1))] := (hdep 102 (by decide)).1
   replace hs : HS w0 w ((L0 ++ R) ++ (M 102 ++ [])) := hs
   rw [List.append_nil, em] at hs
   replace hs := HS.push hs
   have hb11 : Bl w0 48 5 (V 11) (o.xs.length + 1) (scs (o.xs ++ [o.t.x])) (M 11) := (hdep 11 (by decide)).1
   obtain ⟨a1, c1, hv1, _⟩ := hb11.slice
   rw [hv1] at ev
   refine L_store hs (i := 0) rfl i_55 e23 ev (by rfl) (by simp [On.cells]) rfl ?_
   intro w' hs'
   refine hc .nilIface [(o.p, Row 76 ((oRow o t1).set 15 (V 11)))] w' rfl (Own.cons hp Own.nil) ?_
   rw [hv1]
   exact hs'.mem_perm (List.perm_append_comm (l₁ := [_]))
  | 27, ho' =>
   cases ho'
   have e26 : Lk.look E 95 = some (.pointer (some ((Addr.mk o.p 0 none).add 16))) := by rw [hlook 26 (by decide) _ _ rfl rfl, (hdep 26 (by decide)).1.1]
   have ev : Lk.look E 91 = some (V 21) := hlook 21 (by decide) _ _ rfl rfl
   have em : M 24 = [(o.p, Row 76 ((oRow o t1).set 15 (V 11)))] := (hdep 24 (by decide)).1
   replace hs : HS w0 w ((L0 ++ R) ++ (M 24 ++ [])) := hs
   rw [List.append_nil, em] at hs
   replace hs := HS.push hs
   have hb21 : Bl w0 48 5 (V 21) (o.ys.length + 1) (scs (o.ys ++ [o.t.y])) (M 21) := (hdep 21 (by decide)).1
   obtain ⟨a1, c1, hv1, _⟩ := hb21.slice
   rw [hv1] at ev
   refine L_store hs (i := 0) rfl i_55 e26 ev (by rfl) (by simp [On.cells]) rfl ?_
   intro w' hs'
   refine hc .nilIface [(o.p, Row 76 (((oRow o t1).set 15 (V 11)).set 16 (V 21)))] w' rfl (Own.cons hp Own.nil) ?_
   rw [hv1]
   exact hs'.mem_perm (List.perm_append_comm (l₁ := [_]))
 intro V M9 own w hΦ hs hown hnd E hold hlook
 obtain ⟨v11, hv11⟩ : ∃ v, V 11 = v := ⟨_, rfl⟩
 obtain ⟨v21, hv21⟩ : ∃ v, V 21 = v := ⟨_, rfl⟩
 have h11 : Bl w0 48 5 v11 (o.xs.length + 1) (scs (o.xs ++ [o.t.x])) (M9 11) := hv11 ▸ (hΦ 11 (by decide)).1
 have h21 : Bl w0 48 5 v21 (o.ys.length + 1) (scs (o.ys ++ [o.t.y])) (M9 21) := hv21 ▸ (hΦ 21 (by decide)).1
 have h27 : M9 27 = [(o.p, Row 76 (((oRow o t1).set 15 v11).set 16 v21))] := by rw [<- hv11, <- hv21]; exact (hΦ 27 (by decide)).1
 have o11 : 11 ∈ own := (hown 11).2 ⟨.inl (by decide), by decide⟩
 have o21 : 21 ∈ own := (hown 21).2 ⟨.inl (by decide), by decide⟩
 have o27 : 27 ∈ own := (hown 27).2 ⟨.inl (by decide), by decide⟩
 have hoo : ∀ j ∈ own, Own w0 (M9 j) := fun j hj => by
  obtain ⟨h1, h2⟩ := (hown j).1 hj
  rcases h1 with h1 | h1
  ·
   exact (hΦ j h1).2
  exfalso
  simp only [List.mem_cons, List.not_mem_nil, or_false] at h1
  rcases h1 with rfl | rfl | rfl
  ·
   exact h2 11 (by decide) (by decide)
  ·
   exact h2 21 (by decide) (by decide)
  exact h2 24 (by decide) (by decide)
 have h3 := hs.pickOwn3 o11 o21 o27 (by decide) (by decide) (by decide) hoo
 rw [h27, hL0] at h3
 refine Nx_done0 rfl ⟨_, rfl, ⟨o.p, t1, v11, M9 11, o.xs ++ [o.t.x], v21, M9 21, o.ys ++ [o.t.y], o.c⟩, rfl, rfl, ?_, rfl, rfl, ?_, ?_⟩
 ·
  show t1 = _
  rw [ht1, hkd, hst']; rfl
 ·
  have h4 : HS w0 w ((b6, Row 86 [.pointer (some ⟨o.p, 0, none⟩)]) :: (L ++ ((o.p, Row 76 (((oRow o t1).set 15 v11).set 16 v21)) :: (M9 11 ++ M9 21)))) := HS.re h3 (fun c => by simp only [mpA, mpC, mpN, smA, smC, smN]; omega)
  exact HS.pop h4 hb6
 refine ⟨hp, ?_, ?_, ?_⟩
 ·
  show Bl w0 48 5 v11 (o.xs ++ [o.t.x]).length (scs (o.xs ++ [o.t.x])) (M9 11)
  rw [List.length_append]; exact h11
 ·
  show Bl w0 48 5 v21 (o.ys ++ [o.t.y]).length (scs (o.ys ++ [o.t.y])) (M9 21)
  rw [List.length_append]; exact h21
 show t1.seen < 65536
 rw [ht1]; exact ho.seen
end Go.Proofs.YtffobakdngbadaaGreat
namespace Go.Proofs.YtffobakdngbadaaGreat
open Go Go.Lk
def pcs (l : List Plt) : List Value := l.flatMap Plt.cells
theorem pcs_len (l : List Plt) : (pcs l).length = l.length * 5 := by
 induction l with
 | nil => rfl
 | cons t ts ih =>
  show (t.cells ++ pcs ts).length = _
  rw [List.length_append, ih, List.length_cons]
  show 5 + _ = _
  omega
theorem pcs_get : ∀ {ts : List Plt} {i q : Nat} {v : Value}, i < ts.length -> (ts.getD i plt0).cells[q]? = some v -> (pcs ts)[i * 5 + q]? = some v
 | t :: ts, 0, q, v, _, h => by
  show (t.cells ++ pcs ts)[0 * 5 + q]? = some v
  rw [Nat.zero_mul, Nat.zero_add]
  have hq : q < t.cells.length := (List.getElem?_eq_some_iff.1 h).1
  rw [List.getElem?_append_left hq]; exact h
 | t :: ts, i + 1, q, v, hi, h => by
  show (t.cells ++ pcs ts)[(i + 1) * 5 + q]? = some v
  have hl : t.cells.length = 5 := rfl
  rw [List.getElem?_append_right (by omega), show (i + 1) * 5 + q - t.cells.length = i * 5 + q by omega]
  exact pcs_get (by simpa using hi) h
theorem plt_at {w : World} {a : Option Addr} {ts : List Plt} (h : SlC w a (pcs ts)) {i : Nat} (hi : i < ts.length) : CellsAt w ((aD a).add (i * 5)) (ts.getD i plt0).cells := h.sub fun _ _ hv => pcs_get hi hv
theorem Plt.one (t : Plt) : ∀ v ∈ t.cells, v.oneCell' = true := by simp [Plt.cells, Value.oneCell']
structure PltLt (l : Plt) : Prop where
 r : l.r < 18446744073709551616
 b : l.b < 18446744073709551616
def finP (l : Plt) : Bool := [l.r, l.b].all finB
theorem badplot_ok (l : Plt) (hl : PltLt l) (w0 : World) : Ret Tryz.prog 61 [.agg l.cells.toArray] w0 fun v w' => v = .bool (!finP l) /\ HS w0 w' [] := by
 refine Ret.start fun w hs => ?_
 refine calls_of_W Tryz.func61 rfl rfl rfl (Wq (L_box rfl hs rfl ?_))
 intro b1 w hb1 hnb1 hs
 dsimp only [sS, sZ, sA, sN] at hs
 refine La rfl (Rq ?_)
 replace hs : HS w0 w [(b1, Row 42 l.cells)] := hs
 refine Lf 0 u_42 rfl i_22 (Ll o_22 rfl (by exact hs.cell (i := 0) rfl rfl) ?_)
 refine Lf 3 u_42 rfl i_22 (Ll o_22 rfl (by exact hs.cell (i := 0) rfl rfl) ?_)
 refine L_buildSlice1 rfl hs u_96 i_22 rfl (by decide) rfl rfl ?_
 intro b7 w hb7 hnb7 hs
 simp only [List.map_cons, List.map_nil] at hs
 dsimp only [sS, sZ, sA, sN] at hs
 replace hs : HS w0 w [(b1, Row 42 l.cells), (b7, Row 22 (fl [l.r, l.b]))] := hs
 have hx : SlC w (some ⟨b7, 0, none⟩) (fl [l.r, l.b]) := SlC.of_row (sp := []) (hs.get (i := 1) rfl)
 refine Lc f_17 rfl (finite_ok (some ⟨b7, 0, none⟩) 2 2 [l.r, l.b] w hx rfl (by decide) (fun z hz => by match z, hz with | 0, _ => exact hl.r | 1, _ => exact hl.b)) ?_
 rintro _ w1 ⟨rfl, hs'⟩
 replace hs := hs.nil hs'
 refine Lnot rfl (La rfl (Rt (Wret (Ex_done1 rfl rfl ?_))))
 exact ⟨_, rfl, rfl, hs.forget (Own.cons hb1 (Own.cons hb7 Own.nil))⟩
theorem pindex_ok (a : Option Addr) (k c : Nat) (xs : List Plt) (w0 : World) (hx : SlC w0 a (pcs xs)) (hk : xs.length = k) (hk2 : k <= 1000000) (hlt : ∀ i, i < k -> PltLt (xs.getD i plt0)) :
  Ret Tryz.prog 86 [.slice a k c, .func (.func 61) #[] #[]] w0 fun v w' => ∃ j, v = .int .i64 j /\ HS w0 w' [] /\ Found (fun i => finP (xs.getD i plt0) = false) k j := by
 refine Ret.start fun w hs => ?_
 refine calls_of_W Tryz.func86 rfl rfl rfl (Wq (La rfl (Rqq (Lm rfl (Le u_36 rfl (Lm rfl (Rt (W_block ?_))))))))
 refine W_loop2 (fun (i : Nat) (w : World) => [(0, .slice a k c), (1, .func (.func 61) #[] #[]), (7, .int .i64 k), (8, .int .i64 i)]) (fun i w => w) (fun i w => (i <= k) /\ (∀ q, q < i -> finP (xs.getD q plt0) = true) /\ (HS w0 w [])) (fun i w => k - i) (0) (w) (is := [0, 1, 7, 8]) rfl rfl ?_ ?_
 ·
  exact ⟨Nat.zero_le _, fun _ h => absurd h (Nat.not_lt_zero _), hs⟩
 clear hs
 intro i w hI
 show W _ _ _ _ [(0, .slice a k c), (1, .func (.func 61) #[] #[]), (7, .int .i64 k), (8, .int .i64 i)] w
 obtain ⟨hi, hq, hs⟩ := hI
 by_cases hlt2 : i < k
 ·
  have hxw := hx.old hs Own.nil
  refine Wq (Clss rfl (dtrue (by omega)) ?_)
  refine Rt (Wsq (Wt rfl (Ws (Wsq (W_block (Wq (Lm rfl (La rfl (Rt (Wsq (Wr (Lmm rfl rfl (Lm rfl ?_)))))))))))))
  refine LiN u_36 i_42 rfl (natc_k _) (by omega) (hx.ao (by rw [pcs_len]; omega)) ?_
  refine L_loadA rfl a_42 i_42 rfl (by exact plt_at hxw (by omega)) ?_
  refine L_callV rfl f_61 rfl rfl (badplot_ok (xs.getD i plt0) (hlt i hlt2) w) ?_
  rintro _ w' ⟨rfl, hs'⟩
  replace hs := hs.nil hs'
  cases hf : finP (xs.getD i plt0)
  ·
   refine Rt (Wt rfl (Wq (Lm rfl (La rfl (Rt (Wret (Ex_block_ret (Ex_then_ret (Ex_loop_ret (Ex_block_ret (Ex_then_ret (Ex_done1 rfl rfl ?_))))))))))))
   exact ⟨_, rfl, _, rfl, hs, .inl ⟨i, hlt2, rfl, hf, fun q hqi h => by have h := h.symm.trans (hq q hqi); cases h⟩⟩
  refine Rt (Wf rfl (W_skip' (Nx_block (Nt (Wr (Cadd rfl (wrp_i64 (by omega)) ?_))))))
  refine Lm rfl (Rnl (Nq (i + 1, _) [0, 1, 7, 8] rfl ?_ ?_))
  ·
   dsimp only
   refine ⟨by omega, fun q hq2 => ?_, hs⟩
   by_cases hqi : q = i
   ·
    rw [hqi]; exact hf
   exact hq q (by omega)
  omega
 obtain rfl : k = i := by omega
 refine Wq (Clss rfl (dfalse (by omega)) ?_)
 refine Rt (Wsq (Wf rfl (W_exit' (Ex_then_exit (Ex_loop_exit (Ex_block_hit (Nt (Wq (La rfl (Rt (Wret (Ex_done1 rfl rfl ?_))))))))))))
 exact ⟨_, rfl, _, rfl, hs, .inr ⟨rfl, fun q hq2 h => by have h := h.symm.trans (hq q hq2); cases h⟩⟩
theorem pcontains_ok (a : Option Addr) (k c : Nat) (xs : List Plt) (w0 : World) (hx : SlC w0 a (pcs xs)) (hk : xs.length = k) (hk2 : k <= 1000000) (hlt : ∀ i, i < k -> PltLt (xs.getD i plt0)) :
  Ret Tryz.prog 60 [.slice a k c, .func (.func 61) #[] #[]] w0 fun v w' => v = .bool (!xs.all finP) /\ HS w0 w' [] := by
 refine Ret.start fun w hs => ?_
 refine calls_of_W Tryz.func60 rfl rfl rfl (Wq (La rfl (Rq (Lmm rfl rfl (Lc f_86 rfl (pindex_ok a k c xs w (hx.old hs Own.nil) hk hk2 hlt) ?_)))))
 rintro _ w1 ⟨j, rfl, hs', hF⟩
 replace hs := hs.nil hs'
 rcases hF with ⟨i, hi, rfl, hp, _⟩ | ⟨rfl, hn⟩
 ·
  have e : xs.all finP = false := by
   rw [<- Bool.not_eq_true, List.all_eq_true]
   intro h
   have := h (xs.getD i plt0) (getD_mem (by omega))
   rw [hp] at this; cases this
  refine Cgeq rfl (dtrue (by omega)) ?_
  refine La rfl (Rt (Wret (Ex_done1 rfl rfl ?_)))
  exact ⟨_, rfl, by rw [e]; rfl, hs⟩
 have e : xs.all finP = true := by
  rw [List.all_eq_true]
  intro x hx
  obtain ⟨i, hi, rfl⟩ := List.getElem_of_mem hx
  have : ¬ (finP (xs.getD i plt0) = false) := hn i (by omega)
  rw [List.getD_eq_getElem?_getD, List.getElem?_eq_getElem hi] at this
  cases h : finP xs[i] with
  | true => rfl
  | false => exact absurd h this
 refine Cgeq rfl (dfalse (by omega)) ?_
 refine La rfl (Rt (Wret (Ex_done1 rfl rfl ?_)))
 exact ⟨_, rfl, by rw [e]; rfl, hs⟩
def refE (last time : Nat) (l : List Plt) : Int := if 256 < l.length then 3 else if finB time && l.all finP then (if ltB time last then 2 else 0) else 6
theorem refused_ok (B time last : Nat) (a : Option Addr) (n c : Nat) (l : List Plt) (w0 : World) (hB : w0.cell? ⟨B, 8, none⟩ = some (.float .f64 last)) (ht : time < 18446744073709551616) (hx : SlC w0 a (pcs l)) (hn : l.length = n) (hn2 : n <= 1000000) (hlt : ∀ i, i < n -> PltLt (l.getD i plt0)) :
  Ret Tryz.prog 30 [.pointer (some ⟨B, 0, none⟩), .float .f64 time, .slice a n c] w0 fun v w' => v = .int .i64 (refE last time l) /\ HS w0 w' [] := by
 refine Ret.start fun w hs => ?_
 have hBl := World.block_lt_of_cell? w0 _ hB
 refine calls_of_W Tryz.func30 rfl rfl rfl ?_
 by_cases h256 : 256 < n
 ·
  have e : refE last time l = 3 := by unfold refE; rw [if_pos (by omega)]
  refine Wq (La rfl (Rt (Wsq (W_block (Wq (Lm rfl (Le u_36 rfl (Cgtr rfl (dtrue (by omega)) ?_))))))))
  refine La rfl (Rt (Wt rfl (Wq (La rfl (Rt (Wret (Ex_block_ret (Ex_then_ret (Ex_done1 rfl rfl ?_)))))))))
  exact ⟨_, rfl, by rw [e], hs⟩
 refine Wq (La rfl (Rt (Wsq (W_block (Wq (Lm rfl (Le u_36 rfl (Cgtr rfl (dfalse (by omega)) ?_))))))))
 refine La rfl (Rt (Wf rfl (Wqq (Lm rfl (L_buildSlice1 rfl hs u_96 i_22 rfl (by decide) rfl rfl ?_)))))
 intro b13 w hb13 hnb13 hs
 simp only [List.map_cons, List.map_nil] at hs
 dsimp only [sS, sZ, sA, sN] at hs
 have hxf : SlC w (some ⟨b13, 0, none⟩) (fl [time]) := SlC.of_row (sp := []) (hs.get (i := 0) rfl)
 refine Lc f_17 rfl (finite_ok (some ⟨b13, 0, none⟩) 1 1 [time] w hxf rfl (by decide) (fun z hz => by match z, hz with | 0, _ => exact ht)) ?_
 rintro _ w1 ⟨rfl, hs'⟩
 have h1 : HS w0 w1 [] := (hs.nil hs').forget (Own.cons hb13 Own.nil)
 clear hs hs' hxf
 have hs := h1
 clear h1
 rw [show [time].all finB = finB time by simp]
 cases hf : finB time
 ·
  have e : refE last time l = 6 := by unfold refE; rw [if_neg (by omega), hf]; rfl
  refine Lnot rfl (La rfl (Rt (Wt rfl (Ws (Wt rfl (Wq (La rfl (Rt (Wret (Ex_block_ret (Ex_then_ret (Ex_done1 rfl rfl ?_))))))))))))
  exact ⟨_, rfl, by rw [e], hs⟩
 refine Lnot rfl (La rfl (Rt (Wf rfl (Wr (Lm rfl (Lc f_60 rfl (pcontains_ok a n c l w1 (hx.old hs Own.nil) hn hn2 hlt) ?_))))))
 rintro _ w2 ⟨rfl, hs'⟩
 replace hs := hs.nil hs'
 clear hs'
 cases hp : l.all finP
 ·
  have e : refE last time l = 6 := by unfold refE; rw [if_neg (by omega), hf, hp]; rfl
  refine La rfl (Rt (Wt rfl (Wq (La rfl (Rt (Wret (Ex_block_ret (Ex_then_ret (Ex_done1 rfl rfl ?_)))))))))
  exact ⟨_, rfl, by rw [e], hs⟩
 have hq : (FloatKind.f64.format.order time last == some .lt) = ltB time last := rfl
 cases hl : ltB time last
 ·
  have e : refE last time l = 0 := by unfold refE; rw [if_neg (by omega), hf, hp, hl]; rfl
  rw [hl] at hq
  refine La rfl (Rt (Wf rfl (Wq (Lmm rfl rfl (Ln rfl (Lf 8 u_66 rfl i_22 (Ll o_22 rfl (by exact hs.oldcell hB (Own.nil.notin hBl)) ?_)))))))
  refine Cf rfl (fun _ => by rw [binOp_float_cmp_lss, hq]; rfl) ?_
  refine La rfl (Rt (Wf rfl (W_skip' (Nx_block (Nt (Wq (La rfl (Rt (Wret (Ex_done1 rfl rfl ?_))))))))))
  exact ⟨_, rfl, by rw [e], hs⟩
 have e : refE last time l = 2 := by unfold refE; rw [if_neg (by omega), hf, hp, hl]; rfl
 rw [hl] at hq
 refine La rfl (Rt (Wf rfl (Wq (Lmm rfl rfl (Ln rfl (Lf 8 u_66 rfl i_22 (Ll o_22 rfl (by exact hs.oldcell hB (Own.nil.notin hBl)) ?_)))))))
 refine Cf rfl (fun _ => by rw [binOp_float_cmp_lss, hq]; rfl) ?_
 refine La rfl (Rt (Wt rfl (Wq (La rfl (Rt (Wret (Ex_block_ret (Ex_then_ret (Ex_done1 rfl rfl ?_)))))))))
 exact ⟨_, rfl, by rw [e], hs⟩
end Go.Proofs.YtffobakdngbadaaGreat
namespace Go.Proofs.YtffobakdngbadaaGreat
open Go Go.Lk
theorem or_63 {q : Nat} (hq : q < 9223372036854775808) : q ||| 9223372036854775808 = 9223372036854775808 + q := by
 have := Nat.two_pow_add_eq_or_of_lt (i := 63) (b := q) hq 1
 rw [Nat.mul_one] at this
 rw [Nat.or_comm]
 exact this.symm
theorem copF_word (a s : Bool) (q r : Nat) (hq : q < 9223372036854775808) (hr : r < 9223372036854775808) : copF (Ieee.double.word a q) (Ieee.double.word s r) = Ieee.double.word s q := by
 unfold copF
 have h1 : Ieee.double.word a q &&& (18446744073709551615 - 9223372036854775808) = q := by
  rw [show 18446744073709551615 - 9223372036854775808 = 2 ^ 63 - 1 by decide, Nat.and_two_pow_sub_one_eq_mod]
  unfold Ieee.Format.word
  rw [double_sw]
  cases a <;> simp <;> omega
 have h0 : r &&& 9223372036854775808 = 0 := by
  apply Nat.eq_of_testBit_eq
  intro i
  rw [Nat.testBit_and, show (9223372036854775808 : Nat) = 2 ^ 63 by decide, Nat.testBit_two_pow, Nat.zero_testBit]
  by_cases hi : 63 = i
  ·
   subst hi
   rw [Nat.testBit_lt_two_pow (by omega)]; rfl
  simp [hi]
 have h2 : Ieee.double.word s r &&& 9223372036854775808 = if s then 9223372036854775808 else 0 := by
  unfold Ieee.Format.word
  rw [double_sw]
  cases s
  ·
   simp only [Bool.false_eq_true, if_false]
   exact h0
  simp only [if_true]
  rw [<- or_63 hr, Nat.and_or_distrib_right, h0, Nat.and_self, Nat.zero_or]
 rw [h1, h2]
 unfold Ieee.Format.word
 rw [double_sw]
 cases s
 ·
  simp
 simp only [if_true]; exact or_63 hq
def tD (x : Nat) : Nat := if FloatKind.f64.format.order x 0 == some .lt then Op.negFloat .f64 (floW (Op.negFloat .f64 x)) else floW x
theorem fv_word (s : Bool) (r : Nat) (h : r < 9218868437227405312) : FV (Ieee.double.word s r) ((if s then -1 else 1) * (rv r : Int)) := ⟨s, r, rfl, h, rfl⟩
theorem fv_nought : FV 0 0 := fv_zero false
theorem tD_word (s : Bool) (r : Nat) (h : r < 9218868437227405312) : ∃ r1, r1 <= r /\ truF (Ieee.double.word s r) = Ieee.double.word s r1 /\ tD (Ieee.double.word s r) = Ieee.double.word s r1 := by
 obtain ⟨r1, h1, h2, h3, h4⟩ := tru_word s r h
 refine ⟨r1, h1, h2, ?_⟩
 unfold tD
 rw [(fv_word s r h).order fv_nought]
 by_cases hr : r = 0
 ·
  subst hr
  obtain rfl : r1 = 0 := by omega
  rw [show rv 0 = 0 from rv_zero.2 rfl, if_neg (by cases s <;> decide)]
  exact h4 rfl
 have hp : rv r ≠ 0 := fun h0 => hr (rv_zero.1 h0)
 cases s
 ·
  rw [if_neg]
  ·
   exact h3
  simp only [Bool.false_eq_true, if_false, Int.one_mul]
  rw [Int.compare_eq_gt.2 (by omega)]
  decide
 rw [if_pos]
 ·
  rw [neg_word true r (by omega)]
  show Op.negFloat .f64 (floW (Ieee.double.word false r)) = _
  rw [h3, neg_word false r1 (by omega)]
  rfl
 simp only [if_true]
 rw [Int.compare_eq_lt.2 (by omega)]
 rfl
theorem sub_word (s : Bool) (r r1 : Nat) (h : r < 9218868437227405312) (h1 : r1 <= r) : ∃ a q, fop .sub (Ieee.double.word s r) (Ieee.double.word s r1) = Ieee.double.word a q /\ q < 9218868437227405312 /\ (q = 0 ∨ a = s) := by
 obtain ⟨c, hc⟩ : ∃ c, c = 1074 := ⟨_, rfl⟩
 obtain ⟨m, p, e1, e2, e3⟩ := read_both r h
 obtain ⟨n, j, f1, f2, f3⟩ := read_both r1 (by omega)
 have hv : Ieee.signed s m (p + 1074).toNat = (if s then -1 else 1) * (rv r : Int) := by rw [signed_eq, e3]
 have hu : Ieee.signed (!s) n (j + 1074).toNat = - ((if s then -1 else 1) * (rv r1 : Int)) := by rw [signed_not, signed_eq, f3]
 obtain ⟨w, g1, g2, g3⟩ := fv_sum c hc e2 f2 hv hu
 have hw : floatBits .sub .f64 (Ieee.double.word s r) (Ieee.double.word s r1) = some w := by
  rw [<- g1]
  show (Ieee.Datum.sum (Ieee.double.read _) (Ieee.double.read _).opposite).map Ieee.double.write = _
  rw [e1, f1]
  rfl
 have hf : fop .sub (Ieee.double.word s r) (Ieee.double.word s r1) = w := by unfold fop; rw [hw]; rfl
 rw [hf]
 have hle := rv_le.2 h1
 by_cases h0 : (if s then -1 else 1) * (rv r : Int) + - ((if s then -1 else 1) * (rv r1 : Int)) = 0
 ·
  obtain ⟨a, q, h2, h3, h4⟩ := g2 h0
  refine ⟨a, q, h2, h3, .inl (rv_zero.1 ?_)⟩
  cases a <;> simp at h4 <;> omega
 refine ⟨_, _, g3 h0, ?_, .inr ?_⟩
 ·
  have hb : ((if s then -1 else 1) * (rv r : Int) + - ((if s then -1 else 1) * (rv r1 : Int))).natAbs <= rv r := by cases s <;> simp <;> omega
  have hR := rR_mono (c := c) (T := ((if s then -1 else 1) * (rv r : Int) + - ((if s then -1 else 1) * (rv r1 : Int))).natAbs) (by omega) hb
  have hr0 : r ≠ 0 := fun hr => by
   subst hr
   obtain rfl : r1 = 0 := by omega
   rw [show rv 0 = 0 from rv_zero.2 rfl] at h0
   cases s <;> simp at h0
  rw [rR_rv c r hc hr0] at hR
  exact Nat.lt_of_le_of_lt (Nat.min_le_left _ _) (Nat.lt_of_le_of_lt hR h)
 cases s
 ·
  simp at h0 ⊢; omega
 simp at h0 ⊢; omega
theorem isnan_e (y : Nat) : isnan y = !(decide (y % 9223372036854775808 <= 9218868437227405312)) := by
 show (Ieee.Format.read Ieee.double y).isNaN = _
 unfold Ieee.Format.read
 rw [double_sw, double_bin, double_inf]
 dsimp only
 split
 ·
  rw [decide_eq_true (by omega)]; rfl
 split
 ·
  rw [decide_eq_true (by omega)]; rfl
 split
 ·
  rw [decide_eq_true (by omega)]; rfl
 rw [decide_eq_false (by omega)]; rfl
theorem word_of {x : Nat} (h : x < 18446744073709551616) : ∃ s r, x = Ieee.double.word s r /\ r < 9223372036854775808 := by
 refine ⟨decide (9223372036854775808 <= x), x % 9223372036854775808, ?_, Nat.mod_lt _ (by decide)⟩
 unfold Ieee.Format.word
 rw [double_sw]
 by_cases hx : 9223372036854775808 <= x
 ·
  simp only [hx, decide_true, if_true]; omega
 simp only [hx, decide_false, Bool.false_eq_true, if_false]; omega
theorem word_mod (s : Bool) {r : Nat} (h : r < 9223372036854775808) : Ieee.double.word s r % 9223372036854775808 = r := by
 unfold Ieee.Format.word
 rw [double_sw]
 cases s <;> simp <;> omega
theorem word_lt (s : Bool) {r : Nat} (h : r < 9223372036854775808) : Ieee.double.word s r < 18446744073709551616 := by
 unfold Ieee.Format.word
 rw [double_sw]
 cases s <;> simp <;> omega
theorem wrapG_lt {y : Nat} (h : y < 18446744073709551616) : wrapG y < 18446744073709551616 := by
 unfold wrapG
 split
 ·
  exact fop_lt _ _ _
 split
 ·
  exact fop_lt _ _ _
 exact h
theorem fin_self (s : Bool) (r : Nat) (h : r < 9218868437227405312) : FloatKind.f64.format.order (fop .sub (Ieee.double.word s r) (Ieee.double.word s r)) 0 = some .eq := by
 obtain ⟨a, q, h1, h2, _⟩ := sub_word s r r h (Nat.le_refl _)
 obtain ⟨m, p, e1, e2, e3⟩ := read_both r h
 obtain ⟨c, hc⟩ : ∃ c, c = 1074 := ⟨_, rfl⟩
 have hv : Ieee.signed s m (p + 1074).toNat = (if s then -1 else 1) * (rv r : Int) := by rw [signed_eq, e3]
 have hu : Ieee.signed (!s) m (p + 1074).toNat = - ((if s then -1 else 1) * (rv r : Int)) := by rw [signed_not, signed_eq, e3]
 obtain ⟨w, g1, g2, _⟩ := fv_sum c hc e2 e2 hv hu
 have hw : floatBits .sub .f64 (Ieee.double.word s r) (Ieee.double.word s r) = some w := by
  rw [<- g1]
  show (Ieee.Datum.sum (Ieee.double.read _) (Ieee.double.read _).opposite).map Ieee.double.write = _
  rw [e1]
  rfl
 have hf : fop .sub (Ieee.double.word s r) (Ieee.double.word s r) = w := by unfold fop; rw [hw]; rfl
 rw [hf, (g2 (by omega)).order fv_nought]
 rfl
theorem wrap_fin (s : Bool) (r : Nat) (h : r < 9218868437227405312) {y : Nat} (hy : y = wrapG (fop .sub (Ieee.double.word s r) (tD (Ieee.double.word s r)))) :
  (isnan y = true /\ wrapF (Ieee.double.word s r) = qnan) ∨ (isnan y = false /\ wrapF (Ieee.double.word s r) = if (FloatKind.f64.format.order y 0 == some .eq) = true then 0 else y) := by
 obtain ⟨r1, h1, h2, h3⟩ := tD_word s r h
 obtain ⟨a, q, h4, h5, h6⟩ := sub_word s r r1 h h1
 have hw : wrapF (Ieee.double.word s r) = fop .add (wrapG (Ieee.double.word s q)) 0 := by
  unfold wrapF
  rw [fin_self s r h, if_neg (by decide), h2, h4, copF_word a s q r (by omega) (by omega)]
 rw [h3, h4] at hy
 rw [hw]
 rcases h6 with hq | hq
 ·
  subst hq hy
  right
  cases a <;> cases s <;> decide +kernel
 subst hq
 rw [<- hy]
 have hl : y < 18446744073709551616 := by rw [hy]; exact wrapG_lt (word_lt a (by omega))
 cases hn : isnan y with
 | true =>
  left
  refine ⟨rfl, ?_⟩
  have : cn y = cn qnan := by rw [cn_nan hn, cn_nan (by decide +kernel)]
  rw [fop_congr (op := .add) this (rfl : cn 0 = cn 0)]
  decide +kernel
 | false => exact .inr ⟨rfl, fop_add0 hl hn⟩
theorem wrapF_inf (s : Bool) : wrapF (Ieee.double.word s 9218868437227405312) = qnan := by cases s <;> decide +kernel
theorem wrapF_nan {x : Nat} (h : isnan x = true) : wrapF x = qnan := by
 unfold wrapF
 have : cn x = cn qnan := by rw [cn_nan h, cn_nan (by decide +kernel)]
 rw [fop_congr (op := .sub) this this, if_pos (by decide +kernel)]
end Go.Proofs.YtffobakdngbadaaGreat
namespace Go.Proofs.YtffobakdngbadaaGreat
open Go Go.Lk
theorem isnanA (x : Nat) (w : World) : Ret Tryz.prog 43 [.float .f64 x] w fun v w' => v = .bool (FloatKind.f64.format.order x x != some .eq) /\ w' = w := by
 refine calls_of_W Tryz.func43 rfl rfl rfl (Wq (La rfl (Rq (Lmm rfl rfl ?_))))
 refine Cf rfl (fun _ => by rw [binOp_float_cmp_neq]; rfl) ?_
 refine La rfl (Rt (Wret (Ex_done1 rfl rfl ?_)))
 exact ⟨_, rfl, rfl, rfl⟩
theorem isinfA (x : Nat) (hx : x < 18446744073709551616) (w : World) : Ret Tryz.prog 44 [.float .f64 x, .int .i64 0] w fun v w' => v = .bool (FloatKind.f64.format.order (x % 9223372036854775808) 9218868437227405311 == some .gt) /\ w' = w := by
 refine calls_of_W Tryz.func44 rfl rfl rfl (Wq (La rfl (Rqq (Lm rfl (Ceql rfl (dtrue (by omega)) ?_)))))
 refine Rt (Wt rfl (Wr (Lm rfl (Lc f_75 rfl (abs_ok x hx w) ?_))))
 rintro _ w ⟨rfl, rfl⟩
 refine La rfl (Rq (Lm rfl ?_))
 refine Cf rfl (fun _ => by rw [binOp_float_cmp_gtr]; rfl) ?_
 refine La rfl (Rt (Wret (Ex_done1 rfl rfl ?_)))
 exact ⟨_, rfl, rfl, rfl⟩
theorem fin_order (s : Bool) (r : Nat) (h : r < 9218868437227405312) : FloatKind.f64.format.order (Ieee.double.word s r) (Ieee.double.word s r) = some .eq := by
 rw [(fv_word s r h).order (fv_word s r h), Int.compare_eq_eq.2 rfl]
theorem fin_max (r : Nat) (h : r < 9218868437227405312) : (FloatKind.f64.format.order r 9218868437227405311 == some .gt) = false := by
 have h1 := (fv_word false r h).order (fv_word false 9218868437227405311 (by decide))
 have h2 : FloatKind.f64.format.order r 9218868437227405311 = compare ((if false = true then -1 else 1) * (rv r : Int)) ((if false = true then -1 else 1) * (rv 9218868437227405311 : Int)) := h1
 rw [h2]
 have := rv_le.2 (show r <= 9218868437227405311 by omega)
 simp only [Bool.false_eq_true, if_false, Int.one_mul]
 have h3 : compare (rv r : Int) (rv 9218868437227405311 : Int) ≠ .gt := fun hg => by
  have := Int.compare_eq_gt.1 hg
  omega
 cases hc : compare (rv r : Int) (rv 9218868437227405311 : Int) with
 | gt => exact absurd hc h3
 | lt => rfl
 | eq => rfl
theorem isnan_word (s : Bool) (r : Nat) (h : r < 9223372036854775808) : isnan (Ieee.double.word s r) = decide (9218868437227405312 < r) := by
 rw [isnan_e, word_mod s h]
 by_cases hr : r <= 9218868437227405312
 ·
  rw [decide_eq_true hr, decide_eq_false (by omega)]; rfl
 rw [decide_eq_false hr, decide_eq_true (by omega)]; rfl
def WR (x r : Nat) : Prop := (isnan r = true /\ wrapF x = qnan) ∨ (isnan r = false /\ r < 18446744073709551616 /\ wrapF x = if (FloatKind.f64.format.order r 0 == some .eq) = true then 0 else r)
theorem WR.of {s : Bool} {q r : Nat} (h : q < 9218868437227405312) (hr : isnan r = false -> r < 18446744073709551616) (hy : cn r = wrapG (fop .sub (Ieee.double.word s q) (tD (Ieee.double.word s q)))) : WR (Ieee.double.word s q) r := by
 cases hn : isnan r with
 | true =>
  left
  rcases wrap_fin s q h hy with ⟨_, h2⟩ | ⟨h1, _⟩
  ·
   exact ⟨hn, h2⟩
  rw [isnan_cn, hn] at h1; cases h1
 | false =>
  right
  rw [cn_num hn] at hy
  rcases wrap_fin s q h hy with ⟨h1, _⟩ | ⟨_, h2⟩
  ·
   rw [hn] at h1; cases h1
  exact ⟨hn, hr hn, h2⟩
set_option maxHeartbeats 1000000 in
theorem rwrap_ok (x : Nat) (hx : x < 18446744073709551616) (w0 : World) : Ret Tryz.prog 92 [.float .f64 x] w0 fun v w' => ∃ r, v = .float .f64 r /\ WR x r /\ HS w0 w' [] := by
 refine Ret.start fun w hs => ?_
 obtain ⟨s, q, hxw, hq⟩ := word_of hx
 refine calls_of_W Tryz.func92 rfl rfl rfl (Wq (La rfl (Rqq (Lm rfl (Lc f_43 rfl (isnanA x w) ?_)))))
 rintro _ w ⟨rfl, rfl⟩
 by_cases hnn : 9218868437227405312 < q
 ·
  have hxn : isnan x = true := by rw [hxw, isnan_word s q hq]; exact decide_eq_true hnn
  rw [order_nanL hxn]
  refine Lm rfl (Rs rfl (Rs rfl (Lpt rfl (Rt (Wt rfl (Wq (Lc f_93 rfl (nan_ok _) ?_)))))))
  rintro _ w2 ⟨r, rfl, hr, hs'⟩
  replace hs := hs.nil hs'
  refine La rfl (Rt (Wret (Ex_then_ret (Ex_done1 rfl rfl ?_))))
  exact ⟨_, rfl, _, rfl, .inl ⟨hr, wrapF_nan hxn⟩, hs⟩
 by_cases hin : q = 9218868437227405312
 ·
  have e1 : FloatKind.f64.format.order x x = some .eq := by rw [hxw, hin]; cases s <;> decide +kernel
  rw [e1]
  refine Lm rfl (Gm rfl rfl (Rw rfl (Lc f_44 rfl (isinfA x hx w) ?_)))
  rintro _ w ⟨rfl, rfl⟩
  have e2 : (FloatKind.f64.format.order (x % 9223372036854775808) 9218868437227405311 == some .gt) = true := by rw [hxw, word_mod s hq, hin]; decide +kernel
  rw [e2]
  refine Lpf rfl (Rt (Wt rfl (Wq (Lc f_93 rfl (nan_ok _) ?_))))
  rintro _ w2 ⟨r, rfl, hr, hs'⟩
  replace hs := hs.nil hs'
  refine La rfl (Rt (Wret (Ex_then_ret (Ex_done1 rfl rfl ?_))))
  exact ⟨_, rfl, _, rfl, .inl ⟨hr, by rw [hxw, hin]; exact wrapF_inf s⟩, hs⟩
 have hqf : q < 9218868437227405312 := by omega
 have e1 : FloatKind.f64.format.order x x = some .eq := by rw [hxw]; exact fin_order s q hqf
 have hxn : isnan x = false := by rw [hxw, isnan_word s q hq]; exact decide_eq_false hnn
 rw [e1]
 refine Lm rfl (Gm rfl rfl (Rw rfl (Lc f_44 rfl (isinfA x hx w) ?_)))
 rintro _ w ⟨rfl, rfl⟩
 have e2 : (FloatKind.f64.format.order (x % 9223372036854775808) 9218868437227405311 == some .gt) = false := by rw [hxw, word_mod s hq]; exact fin_max q hqf
 rw [e2]
 refine Lpf rfl (Rt (Wf rfl (Ws (Wq (Lm rfl (Lc f_65 rfl (floor_ok x (floW x) hxn rfl w) ?_))))))
 rintro _ w ⟨rfl, rfl⟩
 obtain ⟨td, htd⟩ : ∃ td, td = tD x := ⟨_, rfl⟩
 refine La rfl (Rqq (Lm rfl ?_))
 refine Cf rfl (fun _ => by rw [binOp_float_cmp_lss]; rfl) ?_
 refine Rt (W_cut1 (fun (w : World) => [(0, .float .f64 x), (3, .float .f64 td)]) (fun w => w) (fun w => (HS w0 w [])) ?_ ?_)
 ·
  cases hlt : FloatKind.f64.format.order x 0 == some .lt
  ·
   refine W_set 3 (v' := .float .f64 td) rfl ((by rw [htd]; unfold tD; rw [hlt]; rfl)) ?_
   refine Wf rfl (W_skip' (Nx_cutP (w) (is := [0, 3]) (I' := (fun (w : World) => (HS w0 w [])) (w)) rfl rfl rfl ?_))
   exact hs
  refine Wt rfl (Wr (Lm rfl (L_fneg rfl rfl ?_)))
  refine Lc f_65 rfl (floor_ok (Op.negFloat .f64 x) (floW (Op.negFloat .f64 x)) (by rw [isnan_neg]; exact hxn) rfl _) ?_
  rintro _ w ⟨rfl, rfl⟩
  refine L_fneg rfl rfl (La rfl (Rnl ?_))
  refine Nx_set 3 (v' := .float .f64 td) rfl ((by rw [htd]; unfold tD; rw [hlt]; rfl)) ?_
  refine Nx_cutP (_) (is := [0, 3]) (I' := (fun (w : World) => (HS w0 w [])) (_)) rfl rfl rfl ?_
  exact hs
 clear hs
 intro w hI
 show W _ _ _ _ [(0, .float .f64 x), (3, .float .f64 td)] w
 have hs := hI
 clear hI
 refine Wq (Lmm rfl rfl (L_farith rfl (op := .sub) rfl rfl rfl ?_))
 intro r22 k22 hr22
 replace hs := hs.drewN k22
 refine La rfl (Rt (Wsq (Wsq ?_)))
 have hy : cn r22 = fop .sub x (tD x) := by rw [<- htd]; exact Fs.cn hr22
 have o1 : ∀ z, FloatKind.f64.format.order (fop .sub x (tD x)) z = FloatKind.f64.format.order r22 z := fun z => order_congr ((cn_fop ..).trans hy.symm) rfl
 have c1 : cn r22 = cn (fop .sub x (tD x)) := hy.trans (cn_fop ..).symm
 cases hg : (FloatKind.f64.format.order r22 4602678819172646912 == some .gt || FloatKind.f64.format.order r22 4602678819172646912 == some .eq)
 ·
  refine Wr (Lm rfl ?_)
  refine Cf rfl (fun _ => by rw [binOp_float_cmp_geq]; rfl) ?_
  refine Rt (W_set 24 (v' := .bool false) rfl ((congrArg Value.bool hg)) (Wf rfl (Ws (Wqq (Lm rfl ?_)))))
  refine Cf rfl (fun _ => by rw [binOp_float_cmp_lss]; rfl) ?_
  refine Rt ?_
  cases hl : FloatKind.f64.format.order r22 13826050856027422720 == some .lt
  ·
   refine Wf rfl (Ws (Wq (Lm rfl (La rfl (Rt (Wret (Ex_done1 rfl rfl ?_)))))))
   refine ⟨_, rfl, _, rfl, ?_, hs⟩
   rw [hxw] at hy o1 c1 ⊢
   refine WR.of hqf (fs_lt hr22) ?_
   unfold wrapG; rw [o1, o1, hg, hl, if_neg (by decide), if_neg (by decide)]
   exact hy
  refine Wt rfl (Wq (Lm rfl (L_farith rfl (op := .add) rfl rfl rfl ?_)))
  intro r30 k30 hr30
  replace hs := hs.drewN k30
  refine La rfl (Rt (Wret (Ex_then_ret (Ex_done1 rfl rfl ?_))))
  refine ⟨_, rfl, _, rfl, ?_, hs⟩
  rw [hxw] at hy o1 c1 ⊢
  refine WR.of hqf (fs_lt hr30) ?_
  unfold wrapG; rw [o1, o1, hg, hl, if_neg (by decide), if_pos rfl]
  exact (Fs.cn hr30).trans (fop_congr c1 rfl)
 refine Wr (Lm rfl ?_)
 refine Cf rfl (fun _ => by rw [binOp_float_cmp_geq]; rfl) ?_
 refine Rt (W_set 24 (v' := .bool true) rfl ((congrArg Value.bool hg)) (Wt rfl (Wq (Lm rfl (L_farith rfl (op := .sub) rfl rfl rfl ?_)))))
 intro r26 k26 hr26
 replace hs := hs.drewN k26
 refine La rfl (Rt (Wret (Ex_then_ret (Ex_done1 rfl rfl ?_))))
 refine ⟨_, rfl, _, rfl, ?_, hs⟩
 rw [hxw] at hy o1 c1 ⊢
 refine WR.of hqf (fs_lt hr26) ?_
 unfold wrapG; rw [o1, hg, if_pos rfl]
 exact (Fs.cn hr26).trans (fop_congr c1 rfl)
end Go.Proofs.YtffobakdngbadaaGreat