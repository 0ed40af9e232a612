/-
  A part of the proof: what functions that the statement reaches do, or a plain law on what they do. Each theorem holds under its own premises alone.
-/
import Derived.Test.YtdllakfojligjaaTKH
import Derived.Test.YtdllakfojligjaaTKIS
import Derived.Test.YtdllakfojligjaaKitY
namespace Go.Proofs.Ytdllakfojligjaa
open Go Go.Lk Go.Sort
/-! ### A map's keys, sorted -/
def pv (p : Nat) : Value := .pointer (some ⟨p, 0, none⟩)
theorem sorts_ok (m : Nat) : AnyZI.SortsIn Try.prog Ids.sorted_ren Fence.wide m :=
 ⟨fun blk off cap ss W hH hblk hsz => callsIn_wide.2 (AnyM.slices_Sort_int Ids.sort blk off cap ss W hH hblk hsz),
  fun p cap W => callsIn_wide.2 (AnyM.slices_Sort_int_none Ids.sort p cap W)⟩
structure EntOk (ents : List (Int × Nat × Nat)) (ck : Nat) : Prop where
 asc : (ents.map (·.1)).Pairwise (· < ·)
 rng : ∀ x ∈ ents, 0 ≤ x.1 ∧ x.1 < 9223372036854775807
 born : ∀ x ∈ ents, x.2.2 < ck
 nd : (ents.map (·.2.2)).Nodup
 len : ents.length ≤ 1000
def RZ (H : Type) : Value → Option (DataW H × List MemPlace) := fun _ => some (.lit (.bool false), [])
theorem insert_perm {H : Type} (x : Lit × DataW H) : ∀ l : List (Lit × DataW H), (DataW.insert x l).Perm (x :: l)
 | [] => .refl _
 | y :: r => by
  unfold DataW.insert
  split
  ·
   exact .refl _
  ·
   exact ((insert_perm x r).cons y).trans (List.Perm.swap ..)
theorem foldr_insert_perm {H : Type} : ∀ l : List (Lit × DataW H), (l.foldr DataW.insert []).Perm l
 | [] => .refl _
 | x :: l => (insert_perm x _).trans ((foldr_insert_perm l).cons x)
theorem asc_sort {xs : List Int} (h : xs.Pairwise (· < ·)) : xs.mergeSort (fun x y => decide (x ≤ y)) = xs :=
 List.mergeSort_of_pairwise (h.imp fun {a b} hab => decide_eq_true (Int.le_of_lt hab))
theorem HS.below {w0 w w' : World} {L M : Bks} (hs : HS w0 w L) (hb : Go.RowKit.Below w.heap.size w w') (hM : ∀ p ∈ M, w'.heap[p.1]? = some p.2) (hnd : (M.map (·.1)).Nodup) (ho : ∀ p ∈ M, w.heap.size ≤ p.1) : HS w0 w' (L ++ M) :=
 hs.call (L' := M) ⟨hb.size, hM, hnd, fun b hb' _ => hb.block b hb', hb.os, hb.tape, hb.output⟩ (fun p hp => ho p hp)
theorem rd_ent {x : Int × Nat × Nat} (h : 0 ≤ x.1 ∧ x.1 < 9223372036854775807) : Go.WideElems.rd Try.prog 3 (RZ Unit) ⟨.int .i64 x.1, pv x.2.1, x.2.2⟩ = some (.int .i64 x.1, .lit (.bool false)) := by
 have hw : (Lit.int .i64 x.1).wf = true := by
  have b1 : IntKind.i64.min = -9223372036854775808 := by decide
  have b2 : IntKind.i64.max = 9223372036854775807 := by decide
  simp only [Lit.wf, b1, b2, Bool.and_eq_true, decide_eq_true_eq]
  omega
 simp [Go.WideElems.rd, keyOf, mapKey, Try.underlying3, hw, RZ]
theorem ids_perm {ents : List (Int × Nat × Nat)} {ck : Nat} (h : EntOk ents ck) {D : DataW Unit} (hD : D = .map (((ments (Value.int .i64) pv ents).map (Go.WideElems.rg Try.prog 3 (RZ Unit))).foldr DataW.insert [])) : (intKeys D).Perm (ents.map (·.1)) ∧ Maps.size D = ents.length := by
 have e : (ments (Value.int .i64) pv ents).map (Go.WideElems.rg Try.prog 3 (RZ Unit)) = ents.map fun x => (Lit.int .i64 x.1, (DataW.lit (.bool false) : DataW Unit)) := by
  unfold ments
  rw [List.map_map]
  refine List.map_congr_left fun x hx => ?_
  have h1 := rd_ent (h.rng x hx)
  simp only [Function.comp, Go.WideElems.rg]
  rw [h1, Option.getD_some]
 have hp := foldr_insert_perm (ents.map fun x => (Lit.int .i64 x.1, (DataW.lit (.bool false) : DataW Unit)))
 rw [e] at hD
 subst hD
 constructor
 ·
  show (List.map (fun p : Lit × DataW Unit => Go.intOf p.1) _).Perm _
  refine (hp.map _).trans ?_
  rw [List.map_map]
  exact .refl _
 ·
  show List.length _ = _
  rw [hp.length_eq, List.length_map]
theorem row_of_owns {w w' : World} {v : Value} {n : Nat} {xs : List Int} (h : w'.ownsRow w.heap.size 3 1 v n (il xs)) (hn : xs.length = n) : ∃ M, Bl w 3 1 v n (il xs) M ∧ (∀ p ∈ M, w'.heap[p.1]? = some p.2) ∧ (M.map (·.1)).Nodup := by
 rcases h.2 with ⟨rfl, h0⟩ | ⟨g, cap, cur, rfl, hg, hw, hc, _, hs, ht⟩
 ·
  subst h0
  obtain rfl : xs = [] := List.eq_nil_of_length_eq_zero hn
  exact ⟨[], .nil, fun _ h => absurd h List.not_mem_nil, by simp⟩
 ·
  refine ⟨[(g, Row 3 (il xs ++ cur.toList.drop n))], ?_, ?_, by simp⟩
  ·
   have e : il xs ++ cur.toList.drop n = cur.toList := by
    rw [← ht, Nat.mul_one, List.take_append_drop]
   refine .row hg (by rw [il_length, hn, Nat.mul_one]) ?_ hc
   rw [e, Array.length_toList, hs]
  ·
   intro p hp
   obtain rfl := List.mem_singleton.1 hp
   show w'.heap[g]? = some (.cells (il xs ++ cur.toList.drop n).toArray 3 (0, 0))
   rw [hw, ← ht, Nat.mul_one, List.take_append_drop]
theorem keys_ok (mb ck : Nat) (ents : List (Int × Nat × Nat)) (w0 w : World) (L : Bks) (hs : HS w0 w L) (hm : (mb, MapO (Value.int .i64) pv ents ck) ∈ L) (h : EntOk ents ck) (hL : Own w0 L) :
  Ret Try.prog 69 [.map (some mb)] w fun f w1 => ∃ bm, f = .func (.func 84) #[] #[.pointer (some ⟨bm, 0, none⟩)] ∧ w0.heap.size ≤ bm ∧ HS w0 w1 (L ++ [(bm, Row 85 [.map (some mb)])]) ∧
   Ret Try.prog 68 [f] w1 fun v w' => ∃ M, HS w0 w' (L ++ M) ∧ Bl w0 3 1 v ents.length (il (ents.map (·.1))) M := by
 refine Calls.mono (callsIn_wide.1 (AnyZI.keys_in Ids.keys Fence.wide 5 trivial rfl (some mb) w)) fun e w1 => ?_
 rintro ⟨rfl, rfl⟩
 have hmw := hs.has _ hm
 have hlt : mb < w.heap.size := hs.lt' hm
 have hs1 : HS w0 (w.alloc (.cells #[.map (some mb)] 85)) (L ++ [(w.heap.size, Row 85 [.map (some mb)])]) := by
  refine HS.below hs (by exact (Go.RowKit.Below.refl _ w).alloc (Nat.le_refl _) _) (fun p hp => ?_) (by simp) (fun p hp => ?_)
  ·
   obtain rfl := List.mem_singleton.1 hp
   show (w.heap.push _)[w.heap.size]? = _
   rw [Array.getElem?_push_size]
  ·
   obtain rfl := List.mem_singleton.1 hp
   exact Nat.le_refl _
 refine ⟨_, rfl, w.heap.size, rfl, hs.size, hs1, ?_⟩
 obtain ⟨D, hD⟩ : ∃ D : DataW Unit, D = .map (((ments (Value.int .i64) pv ents).map (Go.WideElems.rg Try.prog 3 (RZ Unit))).foldr DataW.insert []) := ⟨_, rfl⟩
 obtain ⟨hp1, hp2⟩ := ids_perm h hD
 have hown : (w.alloc (.cells #[.map (some mb)] 85)).ownsMap Try.prog 3 (RZ Unit) mb ents.length D := by
  refine ⟨(ments (Value.int .i64) pv ents).toArray, ck, hs1.has _ (List.mem_append_left _ hm), ⟨?_, ⟨?_, ?_, ?_⟩, ?_⟩, ?_, ?_⟩
  ·
   show (ments (Value.int .i64) pv ents).length ≤ maxLen
   rw [ments_len]
   have := h.len
   have : 1000 ≤ maxLen := by decide
   omega
  ·
   intro x hx
   obtain ⟨y, hy, rfl⟩ := List.mem_map.1 hx
   exact h.born y hy
  ·
   show ((ments (Value.int .i64) pv ents).map (·.born)).Nodup
   unfold ments
   rw [List.map_map]
   exact h.nd
  ·
   show ((ments (Value.int .i64) pv ents).map (·.key)).Nodup
   unfold ments
   rw [List.map_map]
   have h1 : (ents.map (·.1)).Nodup := h.asc.imp (fun hab => Int.ne_of_lt hab)
   have h2 : ents.map ((·.key) ∘ fun x => (⟨.int .i64 x.1, pv x.2.1, x.2.2⟩ : MapEntry)) = (ents.map (·.1)).map (Value.int .i64) := by rw [List.map_map]; rfl
   rw [h2]
   exact List.pairwise_map.2 (h1.imp fun hab he => hab (by injection he))
  ·
   intro x hx
   obtain ⟨y, hy, rfl⟩ := List.mem_map.1 hx
   exact ⟨_, rd_ent (h.rng y hy)⟩
  ·
   show (ments (Value.int .i64) pv ents).length ≤ _
   rw [ments_len]; exact Nat.le_refl _
  ·
   exact hD
 have hmax : Maps.size D ≤ maxLen := by
  rw [hp2]
  have := h.len
  have : 1000 ≤ maxLen := by decide
  omega
 have hseq : SeqGives Fence.wide 2 Try.prog 84 #[.pointer (some ⟨w.heap.size, 0, none⟩)] encZ (fun ss => ss.Perm (intKeys D)) (Maps.size D) (w.alloc (.cells #[.map (some mb)] 85)) :=
  AnyZI.keys_gives (ρ := Ids.keys_ren) { Ids.keys with } Fence.wide _ trivial rfl (by omega) w.heap.size mb ents.length D _ (by simp) (by simp) hown
 have cS := AnyZI.sorted_in Ids.sorted Fence.wide 5 trivial trivial trivial trivial rfl (by omega) (sorts_ok _) (enters_of Try.func83 (by kernel_rfl) rfl) 84 #[.pointer (some ⟨w.heap.size, 0, none⟩)] trivial (enters_of Try.func84 (by kernel_rfl) rfl) _ _ hmax (by rw [hp2]; have := h.len; omega) _ hseq
 change CallsIn _ _ Try.prog 68 _ _ _ at cS
 refine Calls.mono (callsIn_wide.1 cS) fun e w' => ?_
 rintro ⟨v, ss, rfl, hS, hrow, _, hb⟩
 have hid : ss.mergeSort (fun x y => decide (x ≤ y)) = ents.map (·.1) := by
  rw [mergeSort_of_perm_i (hS.trans hp1)]
  exact asc_sort h.asc
 have hlen : ss.length = ents.length := by rw [(hS.trans hp1).length_eq, List.length_map]
 rw [hid, hlen] at hrow
 obtain ⟨M, h1, h2, h3⟩ := row_of_owns (xs := ents.map (·.1)) hrow (List.length_map ..)
 refine ⟨_, rfl, M, ?_, h1.mono hs1.size⟩
 have h4 := HS.below hs1 hb h2 h3 h1.own
 have h5 : HS w0 w' (L ++ M) := HS.pop (HS.re (L' := (w.heap.size, Row 85 [.map (some mb)]) :: (L ++ M)) h4 (fun c => by simp only [List.map_append, List.map_cons, List.map_nil, List.sum_append, List.sum_cons, List.sum_nil]; omega)) hs.size
 exact h5
theorem ids_ok (B mb ck : Nat) (ents : List (Int × Nat × Nat)) (w0 w : World) (L : Bks) (cs : List Value) (hs : HS w0 w L) (hB : (B, Row 88 cs) ∈ L) (hc : cs[6]? = some (.map (some mb))) (hm : (mb, MapO (Value.int .i64) pv ents ck) ∈ L) (h : EntOk ents ck) (hL : Own w0 L) :
  Ret Try.prog 41 [.pointer (some ⟨B, 0, none⟩)] w fun v w' => ∃ M, HS w0 w' (L ++ M) ∧ Bl w0 3 1 v ents.length (il (ents.map (·.1))) M := by
 refine calls_of_W Try.func41 rfl rfl rfl ?_
 refine W_seq ?_
 refine W_region ?_
 refine L_assign rfl rfl ?_
 refine RL_then ?_
 refine W_seq ?_
 refine W_region ?_
 refine L_move rfl rfl ?_
 refine L_nilCheck rfl rfl ?_
 refine L_fieldAddr rfl (off := 6) Try.underlying88 rfl rfl Try.ti85 rfl ?_
 refine L_load rfl Try.one85 rfl (by exact cellAM hs hB hc) ?_
 refine L_call rfl Try.fun69 rfl (keys_ok mb ck ents w0 w L hs hm h hL) ?_
 rintro _ w1 ⟨bm, rfl, hbm, hs1, hR⟩
 skip
 refine L_call rfl Try.fun68 rfl (hR) ?_
 rintro v w2 ⟨M, hs2, hb⟩
 refine L_assign rfl rfl ?_
 refine RL_then ?_
 refine W_ret' ?_
 refine Ex_done1 rfl rfl ?_
 exact ⟨_, rfl, M, hs2, hb⟩
end Go.Proofs.Ytdllakfojligjaa
