/-
  A part of the proof: what functions that the statement reaches do, or a plain law on what they do. Each theorem holds under its own premises alone.
-/
import Derived.Test.YtoiobncojfeoiaaTUZ0
import Derived.Test.YtoiobncojfeoiaaTUY0
import Derived.Test.YtoiobncojfeoiaaTUP
namespace Go.Proofs.Ytoiobncojfeoiaa
open Go Go.Lk
/-! ### GuardApart -/
theorem tcs_app (ts us : List Tk) : tcs (ts ++ us) = tcs ts ++ tcs us := List.flatMap_append ..
structure GX where
  B : Nat
  v : Value
  M : Bks
  m : Nat
  es : List KE
  ck : Nat
  z : Zn
def gx0 : GX := ⟨0, .slice none 0 0, [], 0, [], 0, zn0⟩
abbrev GX.bks (far : Nat) (g : GX) : Bks := gbs g.B far g.v g.M 1 g.m g.es g.ck [g.z]
def gxs (far : Nat) (gs : List GX) : Bks := gs.flatMap (GX.bks far)
def gps (gs : List GX) : List Value := gs.map fun g => .pointer (some ⟨g.B, 0, none⟩)
theorem gxs_app (far : Nat) (gs hs : List GX) : gxs far (gs ++ hs) = gxs far gs ++ gxs far hs := List.flatMap_append ..
theorem gps_len (gs : List GX) : (gps gs).length = gs.length := List.length_map ..
theorem gps_get {gs : List GX} {k : Nat} (h : k < gs.length) : (gps gs)[k]? = some (.pointer (some ⟨(gs.getD k gx0).B, 0, none⟩)) := by
  unfold gps
  rw [List.getElem?_map, List.getD_eq_getElem?_getD, List.getElem?_eq_getElem h]; rfl
theorem gxs_perm {far : Nat} {gs : List GX} {k : Nat} (h : k < gs.length) : (gxs far gs).Perm ((gs.getD k gx0).bks far ++ gxs far (gs.eraseIdx k)) := by
  have h1 : gs = gs.take k ++ gs.getD k gx0 :: gs.drop (k + 1) := by
    rw [List.getD_eq_getElem?_getD, List.getElem?_eq_getElem h, Option.getD_some, List.getElem_cons_drop, List.take_append_drop]
  have h2 : gs.eraseIdx k = gs.take k ++ gs.drop (k + 1) := List.eraseIdx_eq_take_drop_succ ..
  rw [h2]
  generalize gs.getD k gx0 = g at h1 ⊢
  generalize gs.take k = A at h1 ⊢
  generalize gs.drop (k + 1) = C at h1 ⊢
  rw [h1, gxs_app, gxs_app, ← List.append_assoc]
  show (gxs far A ++ (g.bks far ++ gxs far C)).Perm _
  rw [← List.append_assoc]
  exact List.Perm.append_right _ List.perm_append_comm
theorem gxs_set {far : Nat} {gs : List GX} {k : Nat} (h : k < gs.length) (g : GX) : (gxs far (gs.set k g)).Perm (g.bks far ++ gxs far (gs.eraseIdx k)) := by
  have := gxs_perm (far := far) (gs := gs.set k g) (k := k) (by rw [List.length_set]; exact h)
  rw [List.eraseIdx_set_eq] at this
  rw [show (gs.set k g).getD k gx0 = g by rw [List.getD_eq_getElem?_getD, List.getElem?_set_self h]; rfl] at this
  exact this
/-- a guard with one zone, told as another's -/
structure XOk (w0 : World) (bg : Int) (back : Bool) (z : Zn) (es : List KE) (j : Nat) (bound : Nat) (g : GX) : Prop where
  G : GOk w0 g.B g.v g.M g.m g.es g.ck [g.z]
  V : VOk g.es
  Z : ∀ x ∈ g.es, ∃ z ∈ [g.z], z.num = x.1.1
  num : g.z.num = 1
  ps : g.z.ps = turnL z.ps (bg % z.ps.length).toNat back
  rel : Rel es ((j : Int) + 1) g.es
  len : g.es.length ≤ bound
theorem gxs_own {w0 : World} {far : Nat} {gs : List GX} (h : ∀ g ∈ gs, GOk w0 g.B g.v g.M g.m g.es g.ck [g.z]) : Own w0 (gxs far gs) := fun p hp => by
  obtain ⟨g, hg, hp⟩ := List.mem_flatMap.1 hp
  exact (h g hg).owns p hp
structure ZAp (gz gzA : List Zn) : Prop where
  nums : gz.map (·.num) = numsN gz.length
  same : gzA.map (fun z => (z.num, z.name, z.ps)) = gz.map (fun z => (z.num, z.name, z.ps))
  fins : ∀ z ∈ gz, Fins z.ps ∧ 3 ≤ z.ps.length
theorem ZAp.two {gz gzA : List Zn} (h : ZAp gz gzA) : gzA.map (fun z => (z.num, z.ps)) = gz.map (fun z => (z.num, z.ps)) := by
  have := congrArg (List.map fun q : Int × ByteArray × List Pt => (q.1, q.2.2)) h.same
  rw [List.map_map, List.map_map] at this
  exact this
theorem ZAp.len {gz gzA : List Zn} (h : ZAp gz gzA) : gzA.length = gz.length := by
  have := congrArg List.length h.same
  simpa using this
theorem addE_congr {gz gzA : List Zn} (h : ZAp gz gzA) (nm : ByteArray) (ps : List Pt) : addE gzA nm ps = addE gz nm ps := by
  have e1 : (gzA.any fun z => z.name == nm) = gz.any fun z => z.name == nm := by
    have := congrArg (fun l : List (Int × ByteArray × List Pt) => l.any fun q => q.2.1 == nm) h.same
    simp only [List.any_map] at this
    exact this
  unfold addE
  rw [e1, h.len]
theorem addE_zero {zs : List Zn} {nm : ByteArray} {ps : List Pt} (h : addE zs nm ps = 0) : 3 ≤ ps.length ∧ ps.length ≤ 64 ∧ ps.any pnf = false := by
  unfold addE at h
  split at h
  · cases h
  · next hb =>
    simp only [Bool.or_eq_true, not_or, decide_eq_true_eq, Bool.not_eq_true] at hb
    exact ⟨by omega, by omega, hb.2⟩
theorem addE_x {ps : List Pt} (h3 : 3 ≤ ps.length) (h64 : ps.length ≤ 64) (hp : ps.any pnf = false) (b0 : Nat) (back : Bool) (hb : b0 < ps.length) : addE [] ⟨#[120]⟩ (turnL ps b0 back) = 0 := by
  have h1 : (turnL ps b0 back).any pnf = false := by
    rw [List.any_eq_false]
    intro p hpp
    unfold turnL at hpp
    obtain ⟨k, hk, rfl⟩ := List.mem_map.1 hpp
    have hk := List.mem_range.1 hk
    have : tIdx ps.length b0 back k < ps.length := by unfold tIdx rot; (repeat' split) <;> omega
    rw [List.any_eq_false] at hp
    exact hp _ (getD_mem this)
  unfold addE
  rw [h1, turnL_len, decide_eq_false (by omega), decide_eq_false (by omega)]
  rw [if_neg (by decide), if_neg (by decide)]
structure LD where
  v : Value
  M : Bks
  gz : List Zn
  vA : Value
  MA : Bks
  gzA : List Zn
  gs : List GX
  ve : Value
  Me : Bks
  vn : Value
  Mn : Bks
structure LE where
  v : Value
  M : Bks
  gz : List Zn
  vA : Value
  MA : Bks
  gzA : List Zn
  gs : List GX
  ae : Option Addr
  ce : Nat
  Me : Bks
  an : Option Addr
  cn : Nat
  Mn : Bks
def restN (T : List Al) (gz : List Zn) (k : Nat) : Nat := ((gz.take k).map fun z => (ofL T z.num 1).length).sum
theorem restN_succ {T : List Al} {gz : List Zn} {k : Nat} (h : k < gz.length) : restN T gz (k + 1) = restN T gz k + (ofL T (gz.getD k zn0).num 1).length := by
  unfold restN
  rw [List.take_add_one, List.getElem?_eq_getElem h, List.getD_eq_getElem?_getD, List.getElem?_eq_getElem h, List.map_append, List.sum_append]
  rfl
theorem ofL_le (T : List Al) (n az : Int) : (ofL T n az).length ≤ T.length := by unfold ofL; rw [List.length_map]; exact List.length_filter_le ..
theorem ZAp.snoc {gz gzA : List Zn} (h : ZAp gz gzA) {z zA : Zn} (h1 : z.num = (gz.length : Int) + 1) (h2 : (zA.num, zA.name, zA.ps) = (z.num, z.name, z.ps)) (h3 : Fins z.ps ∧ 3 ≤ z.ps.length) : ZAp (gz ++ [z]) (gzA ++ [zA]) := by
  refine ⟨?_, ?_, fun y hy => ?_⟩
  · rw [List.map_append, h.nums, List.length_append, List.length_singleton, numsN_succ, List.map_singleton, h1]
  · rw [List.map_append, List.map_append, h.same, List.map_singleton, List.map_singleton, h2]
  · rcases List.mem_append.1 hy with hy | hy
    · exact h.fins y hy
    · rw [List.mem_singleton.1 hy]; exact h3
theorem getD_snoc {α : Type} {l : List α} {x d : α} {j : Nat} (h : j < (l ++ [x]).length) : (j < l.length ∧ (l ++ [x]).getD j d = l.getD j d) ∨ (j = l.length ∧ (l ++ [x]).getD j d = x) := by
  rw [List.length_append, List.length_singleton] at h
  by_cases hj : j < l.length
  · left; exact ⟨hj, by rw [List.getD_eq_getElem?_getD, List.getElem?_append_left hj, ← List.getD_eq_getElem?_getD]⟩
  · right
    obtain rfl : j = l.length := by omega
    exact ⟨rfl, by simp⟩
set_option maxHeartbeats 4000000 in
theorem apart_law (far : Nat) (a b : Option Addr) (c d : Nat) (zs : List AZ) (ls : List LK) (bg : Int) (back : Bool) (id : Int) (w0 : World) (hz : SlC w0 a (azs zs)) (hl : SlC w0 b (lks ls)) (hz1 : zs.length ≤ 1000000000000000) (hl1 : ls.length ≤ 1000000000000000)
    (hz2 : ∀ i, i < zs.length → SlC w0 (zs.getD i az0).a (pcs (zs.getD i az0).ps) ∧ (zs.getD i az0).ps.length ≤ 1000000000000000) (hz3 : ∀ i, i < zs.length → ∀ p ∈ (zs.getD i az0).ps, p.1 < 18446744073709551616 ∧ p.2 < 18446744073709551616)
    (hl2 : ∀ i, i < ls.length → SlC w0 (ls.getD i lk0).a (tcs (ls.getD i lk0).ts) ∧ (ls.getD i lk0).ts.length ≤ 1000000000000000) (hl3 : ∀ i, i < ls.length → TkOk (ls.getD i lk0).ts) :
    Ret Try.prog 5 [.float .f64 far, .slice a zs.length c, .slice b ls.length d, .int .i64 bg, .bool back, .int .i64 id] w0 fun r w' => r = .bool true ∧ HS w0 w' [] := by
  refine Ret.start fun w hs => ?_
  obtain ⟨nz, hnz⟩ : ∃ nz, nz = zs.length := ⟨_, rfl⟩
  obtain ⟨nl, hnl⟩ : ∃ nl, nl = ls.length := ⟨_, rfl⟩
  rw [← hnz, ← hnl]
  refine calls_of_W Try.func5 rfl rfl rfl ?_
  refine W_seq ?_
  refine W_region ?_
  refine L_assign rfl rfl ?_
  refine RL_then ?_
  refine W_seq ?_
  refine W_seq ?_
  refine W_region ?_
  refine L_call rfl Try.fun8 rfl (works_ok w) ?_
  rintro _ w1 ⟨rfl, hs'⟩
  have hs2 := hs.nil hs'
  clear hs hs'
  have hs := hs2
  clear hs2
  refine L_not rfl rfl ?_
  refine L_move rfl rfl ?_
  first | (refine RL_want rfl rfl ?_; refine L_move rfl rfl ?_) | refine RL_skip rfl rfl rfl rfl ?_ | refine RL_skipU rfl rfl rfl ?_
  first | (refine RL_want rfl rfl ?_; refine L_move rfl rfl ?_) | refine RL_skip rfl rfl rfl rfl ?_ | refine RL_skipU rfl rfl rfl ?_
  rw [hnz, hnl]
  refine RL_want rfl rfl ?_
  refine L_call rfl Try.fun12 rfl (great_ok a b c d zs ls w1 (hz.old hs Own.nil) (hl.old hs Own.nil) hz1 hl1 (fun i hi => (hz2 i hi).2) (fun i hi => (hl2 i hi).2)) ?_
  rintro _ w2 ⟨g, rfl, hs', hg⟩
  rw [← hnz, ← hnl]
  have hs2 := hs.nil hs'
  clear hs hs'
  have hs := hs2
  clear hs2
  rcases (show (g = false ∧ nz ≤ 8) ∨ (g = true) ∨ (g = false ∧ 8 < nz) from match g, Nat.lt_or_ge 8 nz with | true, _ => .inr (.inl rfl) | false, .inl h => .inr (.inr ⟨rfl, h⟩) | false, .inr h => .inl ⟨rfl, h⟩) with ⟨rfl, h8⟩ | rfl | ⟨rfl, h8⟩
  · replace hg := hg rfl
    rw [← hnz, ← hnl] at hg
    first | refine L_pick_t rfl rfl rfl ?_ | refine L_pick_f rfl rfl rfl ?_
    refine L_move rfl rfl ?_
    first | (refine RL_want rfl rfl ?_; refine L_move rfl rfl ?_) | refine RL_skip rfl rfl rfl rfl ?_ | refine RL_skipU rfl rfl rfl ?_
    first | (refine RL_want rfl rfl ?_; refine L_len rfl Try.underlying31 rfl ?_) | refine RL_skip rfl rfl rfl rfl ?_ | refine RL_skipU rfl rfl rfl ?_
    first | (refine RL_want rfl rfl ?_; (first | refine L_gtr rfl rfl rfl (dtrue (by omega)) ?_ | refine L_gtr rfl rfl rfl (dfalse (by omega)) ?_ | refine L_gtr rfl rfl rfl rfl ?_)) | refine RL_skip rfl rfl rfl rfl ?_ | refine RL_skipU rfl rfl rfl ?_
    first | refine L_pick_t rfl rfl rfl ?_ | refine L_pick_f rfl rfl rfl ?_
    refine RL_then ?_
    refine W_if_false rfl ?_
    refine W_skip' ?_
    refine Nx_then ?_
    refine W_seq ?_
    refine W_region ?_
    refine L_move rfl rfl ?_
    refine L_call rfl Try.fun13 rfl (newG far w2) ?_
    rintro _ w3 (⟨hbad, rfl, hs'⟩ | ⟨hbad, B, m, rfl, hs', hN⟩)
    · have hs2 := hs.nil hs'
      clear hs hs'
      have hs := hs2
      clear hs2
      refine L_move rfl rfl ?_
      refine L_extract rfl rfl rfl ?_
      refine L_extract rfl rfl rfl ?_
      refine L_assign rfl rfl ?_
      refine L_assign rfl rfl ?_
      refine RL_then ?_
      refine W_seq ?_
      refine W_seq ?_
      refine W_region ?_
      refine L_move rfl rfl ?_
      first | refine L_neq rfl rfl rfl (dtrue (by omega)) ?_ | refine L_neq rfl rfl rfl (dfalse (by omega)) ?_ | refine L_neq rfl rfl rfl rfl ?_
      refine L_move rfl rfl ?_
      first | (refine RL_want rfl rfl ?_; refine L_move rfl rfl ?_) | refine RL_skip rfl rfl rfl rfl ?_ | refine RL_skipU rfl rfl rfl ?_
      first | (refine RL_want rfl rfl ?_; refine L_ptrNil rfl Try.underlying34 rfl rfl ?_) | refine RL_skip rfl rfl rfl rfl ?_ | refine RL_skipU rfl rfl rfl ?_
      first | refine L_pick_t rfl rfl rfl ?_ | refine L_pick_f rfl rfl rfl ?_
      refine RL_then ?_
      refine W_if_true rfl ?_
      refine W_seq ?_
      refine W_region ?_
      refine L_assign rfl rfl ?_
      refine RL_then ?_
      refine W_ret' ?_
      refine Ex_then_ret ?_
      refine Ex_done1 rfl rfl ?_
      exact ⟨_, rfl, rfl, hs⟩
    · have hNo := hN.owns (far := far) (ever := 0)
      replace hN := hN.mono hs.size
      have hs2 := hs.call hs' hNo
      clear hs hs' hNo
      have hs : HS w0 w3 (gbs B far (.slice none 0 0) [] 0 m [] 0 []) := hs2
      clear hs2
      refine L_move rfl rfl ?_
      refine L_extract rfl rfl rfl ?_
      refine L_extract rfl rfl rfl ?_
      refine L_assign rfl rfl ?_
      refine L_assign rfl rfl ?_
      refine RL_then ?_
      refine W_seq ?_
      refine W_seq ?_
      refine W_region ?_
      refine L_move rfl rfl ?_
      first | refine L_neq rfl rfl rfl (dtrue (by omega)) ?_ | refine L_neq rfl rfl rfl (dfalse (by omega)) ?_ | refine L_neq rfl rfl rfl rfl ?_
      refine L_move rfl rfl ?_
      first | (refine RL_want rfl rfl ?_; refine L_move rfl rfl ?_) | refine RL_skip rfl rfl rfl rfl ?_ | refine RL_skipU rfl rfl rfl ?_
      first | (refine RL_want rfl rfl ?_; refine L_ptrNil rfl Try.underlying34 rfl rfl ?_) | refine RL_skip rfl rfl rfl rfl ?_ | refine RL_skipU rfl rfl rfl ?_
      first | refine L_pick_t rfl rfl rfl ?_ | refine L_pick_f rfl rfl rfl ?_
      refine RL_then ?_
      refine W_if_false rfl ?_
      refine W_skip' ?_
      refine Nx_then ?_
      refine W_seq ?_
      refine W_region ?_
      refine L_move rfl rfl ?_
      refine L_call rfl Try.fun13 rfl (newG far w3) ?_
      rintro _ w4 h
      obtain ⟨_, BA, mA, rfl, hs', hNA⟩ := h.resolve_left (fun h => absurd (h.1.symm.trans hbad) (by decide))
      clear h
      have hNo := hNA.owns (far := far) (ever := 0)
      replace hNA := hNA.mono hs.size
      have hs2 := hs.call hs' hNo
      clear hs hs' hNo
      have hs : HS w0 w4 (gbs B far (.slice none 0 0) [] 0 m [] 0 [] ++ (gbs BA far (.slice none 0 0) [] 0 mA [] 0 [] ++ (gxs far [] ++ ([] ++ [])))) := by
        show HS w0 w4 (_ ++ (_ ++ []))
        rw [List.append_nil]
        exact hs2
      clear hs2
      refine L_move rfl rfl ?_
      refine L_extract rfl rfl rfl ?_
      refine L_extract rfl rfl rfl ?_
      refine L_assign rfl rfl ?_
      refine L_assign rfl rfl ?_
      refine RL_then ?_
      refine W_seq ?_
      refine W_region ?_
      refine L_assign rfl rfl ?_
      refine RL_then ?_
      refine W_seq ?_
      refine W_region ?_
      refine L_assign rfl rfl ?_
      refine RL_then ?_
      refine W_seq ?_
      refine W_seq ?_
      refine W_region ?_
      refine L_move rfl rfl ?_
      refine L_len rfl Try.underlying31 rfl ?_
      refine L_move rfl rfl ?_
      refine RL_then ?_
      refine W_cut2 (fun (A : LE) (w : World) => [(2, .slice b nl d), (5, .int .i64 id), (13, .pointer (some ⟨B, 0, none⟩)), (15, .pointer (some ⟨BA, 0, none⟩)), (17, .slice A.ae A.gz.length A.ce), (18, .slice A.an A.gz.length A.cn)]) (fun (A : LE) (w : World) => w) (fun (A : LE) (w : World) => (ZAp A.gz A.gzA) ∧ (A.gs.length = A.gz.length) ∧ (∀ j, j < A.gz.length → XOk w0 bg back (A.gz.getD j zn0) [] j 0 (A.gs.getD j gx0)) ∧ (Bl w0 34 1 (.slice A.ae A.gz.length A.ce) A.gz.length (gps A.gs) A.Me) ∧ (Bl w0 3 1 (.slice A.an A.gz.length A.cn) A.gz.length (il (numsN A.gz.length)) A.Mn) ∧ (GOk w0 B A.v A.M m [] 0 A.gz) ∧ (GOk w0 BA A.vA A.MA mA [] 0 A.gzA) ∧ (HS w0 w (gbs B far A.v A.M A.gz.length m [] 0 A.gz ++ (gbs BA far A.vA A.MA A.gz.length mA [] 0 A.gzA ++ (gxs far A.gs ++ (A.Me ++ A.Mn)))))) ?_ ?_
      · refine W_block ?_
        refine W_loop3 (fun (i : Nat) (A : LD) (w : World) => [(0, .float .f64 far), (2, .slice b nl d), (3, .int .i64 bg), (4, .bool back), (5, .int .i64 id), (13, .pointer (some ⟨B, 0, none⟩)), (15, .pointer (some ⟨BA, 0, none⟩)), (17, A.ve), (18, A.vn), (71, .slice a nz c), (72, .int .i64 nz), (73, .int .i64 i)]) (fun (i : Nat) (A : LD) (w : World) => w) (fun (i : Nat) (A : LD) (w : World) => (i ≤ nz) ∧ (ZAp A.gz A.gzA) ∧ (A.gs.length = A.gz.length) ∧ (∀ j, j < A.gz.length → XOk w0 bg back (A.gz.getD j zn0) [] j 0 (A.gs.getD j gx0)) ∧ (Bl w0 34 1 A.ve A.gz.length (gps A.gs) A.Me) ∧ (Bl w0 3 1 A.vn A.gz.length (il (numsN A.gz.length)) A.Mn) ∧ (GOk w0 B A.v A.M m [] 0 A.gz) ∧ (GOk w0 BA A.vA A.MA mA [] 0 A.gzA) ∧ (HS w0 w (gbs B far A.v A.M A.gz.length m [] 0 A.gz ++ (gbs BA far A.vA A.MA A.gz.length mA [] 0 A.gzA ++ (gxs far A.gs ++ (A.Me ++ A.Mn)))))) (fun (i : Nat) (A : LD) (w : World) => nz - i) (0) (LD.mk (.slice none 0 0) [] [] (.slice none 0 0) [] [] [] (.slice none 0 0) [] (.slice none 0 0) []) (w4) (is := [0, 2, 3, 4, 5, 13, 15, 17, 18, 71, 72, 73]) rfl rfl ?_ ?_
        · exact ⟨Nat.zero_le _, ⟨rfl, rfl, fun z hz => (by cases hz)⟩, rfl, fun j hj => absurd hj (Nat.not_lt_zero _), Bl.nil, Bl.nil, hN, hNA, hs⟩
        · clear hs hN hNA
          intro i A w hI
          show W _ _ _ _ [(0, .float .f64 far), (2, .slice b nl d), (3, .int .i64 bg), (4, .bool back), (5, .int .i64 id), (13, .pointer (some ⟨B, 0, none⟩)), (15, .pointer (some ⟨BA, 0, none⟩)), (17, A.ve), (18, A.vn), (71, .slice a nz c), (72, .int .i64 nz), (73, .int .i64 i)] w
          obtain ⟨hi, hZ, hgl, hX, hbe, hbn, hN, hNA, hs⟩ := hI
          by_cases hlt : i < nz
          · refine W_seq ?_
            refine W_region ?_
            first | refine L_lss rfl rfl rfl (dtrue (by omega)) ?_ | refine L_lss rfl rfl rfl (dfalse (by omega)) ?_ | refine L_lss rfl rfl rfl rfl ?_
            refine RL_then ?_
            refine W_seq ?_
            refine W_if_true rfl ?_
            obtain ⟨z, hzd⟩ : ∃ z, z = zs.getD i az0 := ⟨_, rfl⟩
            have hza : SlC w0 z.a (pcs z.ps) := by rw [hzd]; exact (hz2 i (by omega)).1
            have hzb : ∀ p ∈ z.ps, p.1 < 18446744073709551616 ∧ p.2 < 18446744073709551616 := by rw [hzd]; exact hz3 i (by omega)
            have hzl : z.ps.length ≤ 1000000 := by
              have := cr_le (zs := zs) (i := i) (by omega)
              rw [← hzd, ← hnz] at this
              omega
            have hXG : ∀ g ∈ A.gs, GOk w0 g.B g.v g.M g.m g.es g.ck [g.z] := fun g hg => by
              obtain ⟨j, hj, rfl⟩ := List.getElem_of_mem hg
              have := (hX j (by omega)).G
              rw [List.getD_eq_getElem?_getD, List.getElem?_eq_getElem hj] at this
              exact this
            have hXo := gxs_own (far := far) hXG
            have hoK : Own w0 (A.Me ++ A.Mn) := hbe.own.app hbn.own
            have hoA : Own w0 (gbs BA far A.vA A.MA A.gz.length mA [] 0 A.gzA ++ (gxs far A.gs ++ (A.Me ++ A.Mn))) := hNA.owns.app (hXo.app hoK)
            have hoS : Own w0 (gbs B far A.v A.M A.gz.length m [] 0 A.gz ++ (gbs BA far A.vA A.MA A.gz.length mA [] 0 A.gzA ++ (gxs far A.gs ++ (A.Me ++ A.Mn)))) := hN.owns.app hoA
            have hgz8 := hN.len
            refine W_skip' ?_
            refine Nx_then ?_
            refine W_seq ?_
            refine W_block ?_
            refine W_seq ?_
            refine W_region ?_
            refine L_idxN rfl Try.underlying31 Try.ti40 rfl rfl (by with_reducible first | exact natc_k _ | exact natc_a1 _ | exact natc_0 | exact natc_1 | exact natc_2 | exact natc_s1 _ (by omega) | exact natc_a2 _ | exact natc_add _ _ | exact natc_mul _ _ | exact natc (by omega)) (by omega) (hz.ao (by rw [azs_len]; omega)) ?_
            refine L_loadA rfl Try.agg40 Try.ti40 rfl (by exact (by rw [hzd]; exact azs_at (hz.old hs hoS) (by omega) : CellsAt w ((aD a).add (i * 2)) z.cells)) ?_
            refine L_alloc rfl hs Try.ti40 ?_; intro b20 w hb20 _ hs; replace hs := HS.push hs
            refine L_storeA hs (i := 0) rfl Try.ti40 rfl rfl (by first | rfl | exact add_lit0 _ _ | exact Addr.add_lit .. | (rw [add_add]; exact add_lit0 _ _)) (by simp [AZ.cells]) (by exact AZ.one z) ?_
            intro w hs
            try dsimp only [List.set_cons_succ, List.set_cons_zero, List.cons_append, List.nil_append] at hs
            refine RL_then ?_
            refine W_seq ?_
            obtain ⟨GA, hGA⟩ : ∃ GA, GA = gbs BA far A.vA A.MA A.gz.length mA [] 0 A.gzA := ⟨_, rfl⟩
            have hGAo : Own w0 GA := by rw [hGA]; exact hNA.owns
            have h0 : HS w0 w ((b20, Row 40 z.cells) :: (gbs B far A.v A.M A.gz.length m [] 0 A.gz ++ (GA ++ (gxs far A.gs ++ (A.Me ++ A.Mn))))) := by rw [hGA]; exact hs
            clear hs
            have hs : HS w0 w (gbs B far A.v A.M A.gz.length m [] 0 A.gz ++ ((b20, Row 40 z.cells) :: (GA ++ (gxs far A.gs ++ (A.Me ++ A.Mn))))) := HS.re h0 (fun c => by simp only [List.map_append, List.map_cons, List.map_nil, List.sum_append, List.sum_cons, List.sum_nil]; omega)
            clear h0
            have hR1 : Own w0 ((b20, Row 40 z.cells) :: (GA ++ (gxs far A.gs ++ (A.Me ++ A.Mn)))) := Own.cons hb20 (hGAo.app (hXo.app hoK))
            refine W_region ?_
            refine L_move rfl rfl ?_
            refine L_loadA rfl Try.agg40 Try.ti40 rfl (by exact cellsAt_whole (cs := z.cells) (hs.has _ (List.mem_append_right _ (List.mem_cons_self ..)))) ?_
            refine L_call rfl Try.fun14 rfl (addG w0 w B far A.v A.M A.gz.length m [] 0 A.gz ((b20, Row 40 z.cells) :: (GA ++ (gxs far A.gs ++ (A.Me ++ A.Mn)))) z.name z.a z.ps.length z.c z.ps hs hN hR1 (fun w' L' hs' ho hL => hza.old hs' ho) rfl hzl (by omega) (by omega)) ?_
            rintro _ w5 (⟨he, v', M', zv, zM, rfl, hs', hN'⟩ | ⟨he, rfl, hs'⟩)
            · obtain ⟨hp3, hp64, hpf⟩ := addE_zero he
              have heA : addE A.gzA z.name z.ps = 0 := by rw [addE_congr hZ]; exact he
              obtain ⟨Z1, hZ1⟩ : ∃ Z1 : Zn, Z1 = ⟨(A.gz.length : Int) + 1, z.name, z.ps, zv, zM⟩ := ⟨_, rfl⟩
              rw [← hZ1] at hs' hN'
              obtain ⟨G1, hG1⟩ : ∃ G1, G1 = gbs B far v' M' ((A.gz.length : Int) + 1) m [] 0 (A.gz ++ [Z1]) := ⟨_, rfl⟩
              have hG1o : Own w0 G1 := by rw [hG1]; exact hN'.owns
              rw [← hG1] at hs'
              clear hs
              have hs : HS w0 w5 (gbs BA far A.vA A.MA A.gz.length mA [] 0 A.gzA ++ ((b20, Row 40 z.cells) :: (G1 ++ (gxs far A.gs ++ (A.Me ++ A.Mn))))) := by rw [← hGA]; exact HS.re hs' (fun c => by simp only [List.map_append, List.map_cons, List.map_nil, List.sum_append, List.sum_cons, List.sum_nil]; omega)
              clear hs'
              refine L_move rfl rfl ?_
              refine L_extract rfl rfl rfl ?_
              refine L_extract rfl rfl rfl ?_
              refine L_assign rfl rfl ?_
              refine L_assign rfl rfl ?_
              refine RL_then ?_
              refine W_seq ?_
              refine W_seq ?_
              refine W_region ?_
              refine L_move rfl rfl ?_
              first | refine L_neq rfl rfl rfl (dtrue (by omega)) ?_ | refine L_neq rfl rfl rfl (dfalse (by omega)) ?_ | refine L_neq rfl rfl rfl rfl ?_
              refine RL_then ?_
              refine W_if_false rfl ?_
              refine W_skip' ?_
              refine Nx_then ?_
              refine W_seq ?_
              refine W_region ?_
              refine L_move rfl rfl ?_
              refine L_loadA rfl Try.agg40 Try.ti40 rfl (by exact cellsAt_whole (cs := z.cells) (hs.has _ (List.mem_append_right _ (List.mem_cons_self ..)))) ?_
              refine L_call rfl Try.fun14 rfl (addG w0 w5 BA far A.vA A.MA A.gz.length mA [] 0 A.gzA ((b20, Row 40 z.cells) :: (G1 ++ (gxs far A.gs ++ (A.Me ++ A.Mn)))) z.name z.a z.ps.length z.c z.ps hs hNA (Own.cons hb20 (hG1o.app (hXo.app hoK))) (fun w' L' hs' ho hL => hza.old hs' ho) rfl hzl (by omega) (by omega)) ?_
              rintro _ w6 h
              obtain ⟨_, vA', MA', zvA, zMA, rfl, hs', hNA'⟩ := h.resolve_right (fun h => h.1 heA)
              clear h
              obtain ⟨Z2, hZ2⟩ : ∃ Z2 : Zn, Z2 = ⟨(A.gz.length : Int) + 1, z.name, z.ps, zvA, zMA⟩ := ⟨_, rfl⟩
              rw [← hZ2] at hs' hNA'
              obtain ⟨GA1, hGA1⟩ : ∃ GA1, GA1 = gbs BA far vA' MA' ((A.gz.length : Int) + 1) mA [] 0 (A.gzA ++ [Z2]) := ⟨_, rfl⟩
              have hGA1o : Own w0 GA1 := by rw [hGA1]; exact hNA'.owns
              rw [← hGA1] at hs'
              clear hs
              have hs := hs'
              clear hs'
              refine L_move rfl rfl ?_
              refine L_extract rfl rfl rfl ?_
              refine L_extract rfl rfl rfl ?_
              refine L_assign rfl rfl ?_
              refine L_assign rfl rfl ?_
              refine RL_then ?_
              refine W_seq ?_
              refine W_region ?_
              refine L_move rfl rfl ?_
              refine L_call rfl Try.fun13 rfl (newG far w6) ?_
              rintro _ w7 h
              obtain ⟨_, Bx, mx, rfl, hs', hNx⟩ := h.resolve_left (fun h => absurd (h.1.symm.trans hbad) (by decide))
              clear h
              have hNo := hNx.owns (far := far) (ever := 0)
              replace hNx := hNx.mono hs.size
              have hs2 := hs.call hs' hNo
              clear hs hs' hNo
              have hs := hs2
              clear hs2
              have hb20m : (b20, Row 40 z.cells) ∈ (GA1 ++ ((b20, Row 40 z.cells) :: (G1 ++ (gxs far A.gs ++ (A.Me ++ A.Mn))))) ++ gbs Bx far (.slice none 0 0) [] 0 mx [] 0 [] := List.mem_append_left _ (List.mem_append_right _ (List.mem_cons_self ..))
              have hoW : Own w0 ((GA1 ++ ((b20, Row 40 z.cells) :: (G1 ++ (gxs far A.gs ++ (A.Me ++ A.Mn))))) ++ gbs Bx far (.slice none 0 0) [] 0 mx [] 0 []) := (hGA1o.app (Own.cons hb20 (hG1o.app (hXo.app hoK)))).app hNx.owns
              refine L_move rfl rfl ?_
              refine L_extract rfl rfl rfl ?_
              refine L_extract rfl rfl rfl ?_
              refine L_assign rfl rfl ?_
              refine L_assign rfl rfl ?_
              refine RL_then ?_
              refine W_seq ?_
              refine W_region ?_
              refine L_move rfl rfl ?_
              refine L_fieldAddr rfl (off := 1) Try.underlying40 rfl rfl Try.ti22 rfl ?_
              refine L_load rfl Try.one22 rfl (by exact HS.cellM hs hb20m rfl) ?_
              refine L_move rfl rfl ?_
              refine L_move rfl rfl ?_
              refine L_call rfl Try.fun19 rfl (turned_ok z.a z.ps.length z.c z.ps bg back w7 (hza.old hs hoW) rfl hzl) ?_
              rintro _ w8 ⟨Nt, hs', hbt⟩
              have hbt7 := hbt.own
              replace hbt := hbt.mono hs.size
              obtain ⟨at', ct, rfl, _⟩ := hbt.slice
              have hmn : 0 ≤ bg % (z.ps.length : Int) := Int.emod_nonneg _ (by omega)
              have hml : bg % (z.ps.length : Int) < z.ps.length := Int.emod_lt_of_pos _ (by omega)
              obtain ⟨T, hT⟩ : ∃ T, T = turnL z.ps (bg % (z.ps.length : Int)).toNat back := ⟨_, rfl⟩
              have hTl : T.length = z.ps.length := by rw [hT, turnL_len]
              have haE : addE [] ⟨#[120]⟩ T = 0 := by rw [hT]; exact addE_x hp3 hp64 hpf _ back (by omega)
              rw [← hT] at hbt
              have hs2 := hs.call hs' hbt7
              clear hs hs'
              have hs : HS w0 w8 (gbs Bx far (.slice none 0 0) [] 0 mx [] 0 [] ++ (Nt ++ (GA1 ++ ((b20, Row 40 z.cells) :: (G1 ++ (gxs far A.gs ++ (A.Me ++ A.Mn))))))) := HS.re hs2 (fun c => by simp only [List.map_append, List.map_cons, List.map_nil, List.sum_append, List.sum_cons, List.sum_nil]; omega)
              clear hs2
              have hR3 : Own w0 (Nt ++ (GA1 ++ ((b20, Row 40 z.cells) :: (G1 ++ (gxs far A.gs ++ (A.Me ++ A.Mn)))))) := hbt.own.app (hGA1o.app (Own.cons hb20 (hG1o.app (hXo.app hoK))))
              refine L_build rfl rfl (Pl.built Try.pl40 rfl) ?_
              refine L_call rfl Try.fun14 rfl (addG w0 w8 Bx far (.slice none 0 0) [] 0 mx [] 0 [] (Nt ++ (GA1 ++ ((b20, Row 40 z.cells) :: (G1 ++ (gxs far A.gs ++ (A.Me ++ A.Mn)))))) ⟨#[120]⟩ at' z.ps.length ct T hs hNx hR3 (fun w' L' hs' ho hL => hbt.slm hs' (fun p hp => hL p (List.mem_append_left _ hp))) hTl hzl (by decide) (by decide)) ?_
              rintro _ w9 h
              obtain ⟨_, vx, Mx, zvx, zMx, rfl, hs', hNx'⟩ := h.resolve_right (fun h => h.1 haE)
              clear h
              obtain ⟨X, hX1⟩ : ∃ X : GX, X = ⟨Bx, vx, Mx, mx, [], 0, ⟨1, ⟨#[120]⟩, T, zvx, zMx⟩⟩ := ⟨_, rfl⟩
              have hXN : GOk w0 X.B X.v X.M X.m X.es X.ck [X.z] := by rw [hX1]; exact hNx'
              have hXbo : Own w0 (X.bks far) := hXN.owns
              clear hs
              have hs : HS w0 w9 (X.bks far ++ (Nt ++ (GA1 ++ ((b20, Row 40 z.cells) :: (G1 ++ (gxs far A.gs ++ (A.Me ++ A.Mn))))))) := by rw [hX1]; exact hs'
              clear hs'
              obtain ⟨XB, hXB⟩ : ∃ XB, XB = X.bks far := ⟨_, rfl⟩
              rw [← hXB] at hs hXbo
              refine L_move rfl rfl ?_
              refine L_extract rfl rfl rfl ?_
              refine L_extract rfl rfl rfl ?_
              refine L_assign rfl rfl ?_
              refine L_assign rfl rfl ?_
              refine RL_then ?_
              refine W_seq ?_
              refine W_seq ?_
              refine W_region ?_
              refine L_move rfl rfl ?_
              first | refine L_neq rfl rfl rfl (dtrue (by omega)) ?_ | refine L_neq rfl rfl rfl (dfalse (by omega)) ?_ | refine L_neq rfl rfl rfl rfl ?_
              refine L_move rfl rfl ?_
              first | (refine RL_want rfl rfl ?_; refine L_move rfl rfl ?_) | refine RL_skip rfl rfl rfl rfl ?_ | refine RL_skipU rfl rfl rfl ?_
              first | (refine RL_want rfl rfl ?_; (first | refine L_neq rfl rfl rfl (dtrue (by omega)) ?_ | refine L_neq rfl rfl rfl (dfalse (by omega)) ?_ | refine L_neq rfl rfl rfl rfl ?_)) | refine RL_skip rfl rfl rfl rfl ?_ | refine RL_skipU rfl rfl rfl ?_
              first | refine L_pick_t rfl rfl rfl ?_ | refine L_pick_f rfl rfl rfl ?_
              refine L_move rfl rfl ?_
              first | (refine RL_want rfl rfl ?_; refine L_move rfl rfl ?_) | refine RL_skip rfl rfl rfl rfl ?_ | refine RL_skipU rfl rfl rfl ?_
              first | (refine RL_want rfl rfl ?_; (first | refine L_neq rfl rfl rfl (dtrue (by omega)) ?_ | refine L_neq rfl rfl rfl (dfalse (by omega)) ?_ | refine L_neq rfl rfl rfl rfl ?_)) | refine RL_skip rfl rfl rfl rfl ?_ | refine RL_skipU rfl rfl rfl ?_
              first | refine L_pick_t rfl rfl rfl ?_ | refine L_pick_f rfl rfl rfl ?_
              refine RL_then ?_
              refine W_if_false rfl ?_
              refine W_skip' ?_
              refine Nx_then ?_
              refine W_seq ?_
              refine W_region ?_
              refine L_move rfl rfl ?_
              refine L_move rfl rfl ?_
              refine L_buildSlice1 rfl hs Try.underlying63 Try.ti34 rfl (by decide) rfl rfl ?_
              intro b119 w hb119 hnb119 hs
              simp only [List.map_cons, List.map_nil] at hs
              try dsimp only [List.set_cons_succ, List.set_cons_zero, List.cons_append, List.nil_append] at hs
              have h0 : HS w0 w ((XB ++ (Nt ++ (GA1 ++ ((b20, Row 40 z.cells) :: (G1 ++ (gxs far A.gs ++ (A.Me ++ A.Mn))))))) ++ [(b119, Row 34 [.pointer (some ⟨Bx, 0, none⟩)])]) := hs
              clear hs
              have hs : HS w0 w (((XB ++ (Nt ++ (GA1 ++ ((b20, Row 40 z.cells) :: (G1 ++ (gxs far A.gs ++ A.Mn)))))) ++ A.Me) ++ [(b119, Row 34 [.pointer (some ⟨Bx, 0, none⟩)])]) := HS.re h0 (fun c => by simp only [List.map_append, List.map_cons, List.map_nil, List.sum_append, List.sum_cons, List.sum_nil]; omega)
              clear h0
              refine L_appendT (L := XB ++ (Nt ++ (GA1 ++ ((b20, Row 40 z.cells) :: (G1 ++ (gxs far A.gs ++ A.Mn)))))) (M := A.Me) rfl Try.underlying63 Try.ti34 rfl hs hb119 hbe rfl rfl rfl (by simp [Value.oneCell']) (by omega) (by omega) ?_
              intro ve' w Me' hs hbe'
              refine L_assign rfl rfl ?_
              refine RL_then ?_
              refine W_region ?_
              refine L_move rfl rfl ?_
              refine L_move rfl rfl ?_
              refine L_buildSlice1 rfl hs Try.underlying38 Try.ti3 rfl (by decide) rfl rfl ?_
              intro b123 w hb123 hnb123 hs
              simp only [List.map_cons, List.map_nil] at hs
              try dsimp only [List.set_cons_succ, List.set_cons_zero, List.cons_append, List.nil_append] at hs
              have h0 : HS w0 w (((XB ++ (Nt ++ (GA1 ++ ((b20, Row 40 z.cells) :: (G1 ++ (gxs far A.gs ++ A.Mn)))))) ++ Me') ++ [(b123, Row 3 [.int .i64 ((A.gz.length : Int) + 1)])]) := hs
              clear hs
              have hs : HS w0 w (((XB ++ (Nt ++ (GA1 ++ ((b20, Row 40 z.cells) :: (G1 ++ (gxs far A.gs ++ Me')))))) ++ A.Mn) ++ [(b123, Row 3 [.int .i64 ((A.gz.length : Int) + 1)])]) := HS.re h0 (fun c => by simp only [List.map_append, List.map_cons, List.map_nil, List.sum_append, List.sum_cons, List.sum_nil]; omega)
              clear h0
              refine L_appendT (L := XB ++ (Nt ++ (GA1 ++ ((b20, Row 40 z.cells) :: (G1 ++ (gxs far A.gs ++ Me')))))) (M := A.Mn) rfl Try.underlying38 Try.ti3 rfl hs hb123 hbn rfl rfl rfl (by simp [Value.oneCell']) (by omega) (by omega) ?_
              intro vn' w Mn' hs hbn'
              refine L_assign rfl rfl ?_
              refine RL_nil' ?_
              refine Nx_block ?_
              refine Nx_then ?_
              refine W_region ?_
              first | refine L_add rfl rfl rfl (wrp_i64 (by omega)) ?_ | refine L_add rfl rfl rfl rfl ?_
              refine L_move rfl rfl ?_
              refine RL_nil' ?_
              have hfin : HS w0 w (G1 ++ (GA1 ++ ((gxs far A.gs ++ XB) ++ (Me' ++ Mn')))) := HS.dropR (M := (b20, Row 40 z.cells) :: Nt) (HS.re hs (fun c => by simp only [List.map_append, List.map_cons, List.map_nil, List.sum_append, List.sum_cons, List.sum_nil]; omega)) (Own.cons hb20 hbt.own)
              refine Nx_loopP (i + 1, LD.mk v' M' (A.gz ++ [Z1]) vA' MA' (A.gzA ++ [Z2]) (A.gs ++ [X]) ve' Me' vn' Mn', w) (is := [0, 2, 3, 4, 5, 13, 15, 17, 18, 71, 72, 73]) (I' := (fun (i : Nat) (A : LD) (w : World) => (i ≤ nz) ∧ (ZAp A.gz A.gzA) ∧ (A.gs.length = A.gz.length) ∧ (∀ j, j < A.gz.length → XOk w0 bg back (A.gz.getD j zn0) [] j 0 (A.gs.getD j gx0)) ∧ (Bl w0 34 1 A.ve A.gz.length (gps A.gs) A.Me) ∧ (Bl w0 3 1 A.vn A.gz.length (il (numsN A.gz.length)) A.Mn) ∧ (GOk w0 B A.v A.M m [] 0 A.gz) ∧ (GOk w0 BA A.vA A.MA mA [] 0 A.gzA) ∧ (HS w0 w (gbs B far A.v A.M A.gz.length m [] 0 A.gz ++ (gbs BA far A.vA A.MA A.gz.length mA [] 0 A.gzA ++ (gxs far A.gs ++ (A.Me ++ A.Mn)))))) (i + 1) (LD.mk v' M' (A.gz ++ [Z1]) vA' MA' (A.gzA ++ [Z2]) (A.gs ++ [X]) ve' Me' vn' Mn') (w)) rfl rfl rfl ?_ ?_
              · have hl1 : (A.gz ++ [Z1]).length = A.gz.length + 1 := by simp
                have hz1n : Z1.num = (A.gz.length : Int) + 1 := by rw [hZ1]
                have hz1p : Z1.ps = z.ps := by rw [hZ1]
                have hfz : Fins z.ps := fun q hq => by
                  have hm := getD_mem (d := ((0, 0) : Pt)) hq
                  obtain ⟨b1, b2⟩ := hzb _ hm
                  rw [List.any_eq_false] at hpf
                  have := hpf _ hm
                  unfold pnf at this
                  simp only [Bool.or_eq_true, not_or, Bool.not_eq_true] at this
                  exact ⟨fin_of b1 this.1, fin_of b2 this.2⟩
                refine ⟨by omega, ?_, ?_, fun j hj => ?_, ?_, ?_, hN', hNA', ?_⟩
                · exact hZ.snoc hz1n (by rw [hZ1, hZ2]) (by rw [hz1p]; exact ⟨hfz, hp3⟩)
                · show (A.gs ++ [X]).length = (A.gz ++ [Z1]).length
                  rw [List.length_append, List.length_append, hgl]; rfl
                · show XOk w0 bg back ((A.gz ++ [Z1]).getD j zn0) [] j 0 ((A.gs ++ [X]).getD j gx0)
                  replace hj : j < (A.gz ++ [Z1]).length := hj
                  have hj2 : j < (A.gs ++ [X]).length := by rw [List.length_append, List.length_singleton, hgl]; rw [hl1] at hj; exact hj
                  rcases getD_snoc (d := zn0) hj with ⟨h1, h2⟩ | ⟨h1, h2⟩
                  · rcases getD_snoc (d := gx0) hj2 with ⟨h3, h4⟩ | ⟨h3, h4⟩
                    · rw [h2, h4]; exact hX j h1
                    · omega
                  · rcases getD_snoc (d := gx0) hj2 with ⟨h3, h4⟩ | ⟨h3, h4⟩
                    · omega
                    · rw [h2, h4]
                      refine ⟨hXN, by rw [hX1]; exact fun x hx => (by cases hx), by rw [hX1]; exact fun x hx => (by cases hx), by rw [hX1], ?_, by rw [hX1]; exact fun id => rfl, by rw [hX1]; exact Nat.le_refl _⟩
                      rw [hz1p, ← hT, hX1]
                · show Bl w0 34 1 ve' (A.gz ++ [Z1]).length (gps (A.gs ++ [X])) Me'
                  rw [hl1, show gps (A.gs ++ [X]) = gps A.gs ++ [.pointer (some ⟨Bx, 0, none⟩)] by unfold gps; rw [List.map_append, hX1]; rfl]
                  exact hbe'
                · show Bl w0 3 1 vn' (A.gz ++ [Z1]).length _ Mn'
                  rw [hl1, numsN_succ, il_app]
                  exact hbn'
                · show HS w0 w (gbs B far v' M' ((A.gz ++ [Z1]).length : Nat) m [] 0 (A.gz ++ [Z1]) ++ (gbs BA far vA' MA' ((A.gz ++ [Z1]).length : Nat) mA [] 0 (A.gzA ++ [Z2]) ++ (gxs far (A.gs ++ [X]) ++ (Me' ++ Mn'))))
                  rw [gxs_app, show gxs far [X] = XB by rw [hXB]; unfold gxs; rw [List.flatMap_cons, List.flatMap_nil, List.append_nil], hl1]
                  rw [hG1, hGA1] at hfin
                  exact hfin
              · omega
            · clear hs
              have hs := hs'
              clear hs'
              obtain ⟨er, her⟩ : ∃ er, addE A.gz z.name z.ps = er := ⟨_, rfl⟩
              rw [her] at he ⊢
              refine L_move rfl rfl ?_
              refine L_extract rfl rfl rfl ?_
              refine L_extract rfl rfl rfl ?_
              refine L_assign rfl rfl ?_
              refine L_assign rfl rfl ?_
              refine RL_then ?_
              refine W_seq ?_
              refine W_seq ?_
              refine W_region ?_
              refine L_move rfl rfl ?_
              first | refine L_neq rfl rfl rfl (dtrue (by omega)) ?_ | refine L_neq rfl rfl rfl (dfalse (by omega)) ?_ | refine L_neq rfl rfl rfl rfl ?_
              refine RL_then ?_
              refine W_if_true rfl ?_
              refine W_exit' ?_
              refine Ex_then_exit ?_
              refine Ex_block_hit ?_
              refine Nx_then ?_
              refine W_region ?_
              first | refine L_add rfl rfl rfl (wrp_i64 (by omega)) ?_ | refine L_add rfl rfl rfl rfl ?_
              refine L_move rfl rfl ?_
              refine RL_nil' ?_
              have hfin : HS w0 w5 (gbs B far A.v A.M A.gz.length m [] 0 A.gz ++ (gbs BA far A.vA A.MA A.gz.length mA [] 0 A.gzA ++ (gxs far A.gs ++ (A.Me ++ A.Mn)))) := by rw [← hGA]; exact HS.dropR (M := [(b20, Row 40 z.cells)]) (HS.re hs (fun c => by simp only [List.map_append, List.map_cons, List.map_nil, List.sum_append, List.sum_cons, List.sum_nil]; omega)) (Own.cons hb20 Own.nil)
              refine Nx_loopP (i + 1, A, w5) (is := [0, 2, 3, 4, 5, 13, 15, 17, 18, 71, 72, 73]) (I' := (fun (i : Nat) (A : LD) (w : World) => (i ≤ nz) ∧ (ZAp A.gz A.gzA) ∧ (A.gs.length = A.gz.length) ∧ (∀ j, j < A.gz.length → XOk w0 bg back (A.gz.getD j zn0) [] j 0 (A.gs.getD j gx0)) ∧ (Bl w0 34 1 A.ve A.gz.length (gps A.gs) A.Me) ∧ (Bl w0 3 1 A.vn A.gz.length (il (numsN A.gz.length)) A.Mn) ∧ (GOk w0 B A.v A.M m [] 0 A.gz) ∧ (GOk w0 BA A.vA A.MA mA [] 0 A.gzA) ∧ (HS w0 w (gbs B far A.v A.M A.gz.length m [] 0 A.gz ++ (gbs BA far A.vA A.MA A.gz.length mA [] 0 A.gzA ++ (gxs far A.gs ++ (A.Me ++ A.Mn)))))) (i + 1) (A) (w5)) rfl rfl rfl ?_ ?_
              · exact ⟨by omega, hZ, hgl, hX, hbe, hbn, hN, hNA, hfin⟩
              · omega
          · obtain ⟨ae, ce, hve, _⟩ := hbe.slice
            obtain ⟨an, cn, hvn, _⟩ := hbn.slice
            rw [hve] at hbe
            rw [hvn] at hbn
            rw [hve, hvn]
            refine W_seq ?_
            refine W_region ?_
            first | refine L_lss rfl rfl rfl (dtrue (by omega)) ?_ | refine L_lss rfl rfl rfl (dfalse (by omega)) ?_ | refine L_lss rfl rfl rfl rfl ?_
            refine RL_then ?_
            refine W_seq ?_
            refine W_if_false rfl ?_
            refine W_exit' ?_
            refine Ex_then_exit ?_
            refine Ex_loop_exit ?_
            refine Ex_block_hit ?_
            refine Nx_cutP (LE.mk A.v A.M A.gz A.vA A.MA A.gzA A.gs ae ce A.Me an cn A.Mn, w) (is := [2, 5, 13, 15, 17, 18]) (I' := (fun (A : LE) (w : World) => (ZAp A.gz A.gzA) ∧ (A.gs.length = A.gz.length) ∧ (∀ j, j < A.gz.length → XOk w0 bg back (A.gz.getD j zn0) [] j 0 (A.gs.getD j gx0)) ∧ (Bl w0 34 1 (.slice A.ae A.gz.length A.ce) A.gz.length (gps A.gs) A.Me) ∧ (Bl w0 3 1 (.slice A.an A.gz.length A.cn) A.gz.length (il (numsN A.gz.length)) A.Mn) ∧ (GOk w0 B A.v A.M m [] 0 A.gz) ∧ (GOk w0 BA A.vA A.MA mA [] 0 A.gzA) ∧ (HS w0 w (gbs B far A.v A.M A.gz.length m [] 0 A.gz ++ (gbs BA far A.vA A.MA A.gz.length mA [] 0 A.gzA ++ (gxs far A.gs ++ (A.Me ++ A.Mn)))))) (LE.mk A.v A.M A.gz A.vA A.MA A.gzA A.gs ae ce A.Me an cn A.Mn) (w)) rfl rfl rfl ?_
            exact ⟨hZ, hgl, hX, hbe, hbn, hN, hNA, hs⟩
      · clear hs hN hNA
        intro A w hI
        show W _ _ _ _ [(2, .slice b nl d), (5, .int .i64 id), (13, .pointer (some ⟨B, 0, none⟩)), (15, .pointer (some ⟨BA, 0, none⟩)), (17, .slice A.ae A.gz.length A.ce), (18, .slice A.an A.gz.length A.cn)] w
        obtain ⟨hZ, hgl, hX, hbe, hbn, hN, hNA, hs⟩ := hI
        have hnums : (A.gz.map (·.num)).Nodup := by rw [hZ.nums]; exact numsN_nodup _
        have hnumsA : (A.gzA.map (·.num)).Nodup := by
          have := congrArg (List.map Prod.fst) hZ.same
          rw [List.map_map, List.map_map] at this
          rw [show A.gzA.map (·.num) = A.gz.map (·.num) from this]; exact hnums
        have hgz8 := hN.len
        have hgzA := hNA.len
        obtain ⟨K, hK⟩ : ∃ K, K = A.Me ++ A.Mn := ⟨_, rfl⟩
        have hKo : Own w0 K := by rw [hK]; exact hbe.own.app hbn.own
        have hKe : ∀ p ∈ A.Me, p ∈ K := fun p hp => by rw [hK]; exact List.mem_append_left _ hp
        have hKn : ∀ p ∈ A.Mn, p ∈ K := fun p hp => by rw [hK]; exact List.mem_append_right _ hp
        rw [← hK] at hs
        refine W_seq ?_
        refine W_seq ?_
        refine W_region ?_
        refine L_move rfl rfl ?_
        refine L_len rfl Try.underlying32 rfl ?_
        refine L_move rfl rfl ?_
        refine RL_then ?_
        refine W_block ?_
        refine W_loop7 (fun (i : Nat) (es : List KE) (ck : Nat) (esA : List KE) (ckA : Nat) (gs : List GX) (w : World) => [(5, .int .i64 id), (13, .pointer (some ⟨B, 0, none⟩)), (15, .pointer (some ⟨BA, 0, none⟩)), (17, .slice A.ae A.gz.length A.ce), (18, .slice A.an A.gz.length A.cn), (126, .slice b nl d), (127, .int .i64 nl), (128, .int .i64 i)]) (fun (i : Nat) (es : List KE) (ck : Nat) (esA : List KE) (ckA : Nat) (gs : List GX) (w : World) => w) (fun (i : Nat) (es : List KE) (ck : Nat) (esA : List KE) (ckA : Nat) (gs : List GX) (w : World) => (i ≤ nl) ∧ (VOk es) ∧ (∀ x ∈ es, ∃ z ∈ A.gz, z.num = x.1.1) ∧ (es.length ≤ 64 * tkS ls i) ∧ (VOk esA) ∧ (∀ x ∈ esA, ∃ z ∈ A.gzA, z.num = x.1.1) ∧ (esA.length ≤ 64 * tkS ls i) ∧ (RelA es esA id) ∧ (gps gs = gps A.gs) ∧ (∀ j, j < A.gz.length → XOk w0 bg back (A.gz.getD j zn0) es j (64 * tkS ls i) (gs.getD j gx0)) ∧ (GOk w0 B A.v A.M m es ck A.gz) ∧ (GOk w0 BA A.vA A.MA mA esA ckA A.gzA) ∧ (HS w0 w (gbs B far A.v A.M A.gz.length m es ck A.gz ++ (gbs BA far A.vA A.MA A.gz.length mA esA ckA A.gzA ++ (gxs far gs ++ K))))) (fun (i : Nat) (es : List KE) (ck : Nat) (esA : List KE) (ckA : Nat) (gs : List GX) (w : World) => nl - i) (0) ([]) (0) ([]) (0) (A.gs) (w) (is := [5, 13, 15, 17, 18, 126, 127, 128]) rfl rfl ?_ ?_
        · exact ⟨Nat.zero_le _, fun x hx => (by cases hx), fun x hx => (by cases hx), Nat.zero_le _, fun x hx => (by cases hx), fun x hx => (by cases hx), Nat.zero_le _, fun p => by simp [val, mget], rfl, fun j hj => (by have := hX j hj; exact this), hN, hNA, hs⟩
        · clear hs hN hNA hX
          intro i es ck esA ckA gs w hI
          show W _ _ _ _ [(5, .int .i64 id), (13, .pointer (some ⟨B, 0, none⟩)), (15, .pointer (some ⟨BA, 0, none⟩)), (17, .slice A.ae A.gz.length A.ce), (18, .slice A.an A.gz.length A.cn), (126, .slice b nl d), (127, .int .i64 nl), (128, .int .i64 i)] w
          obtain ⟨hi, hV, hZk, hel, hVA, hZkA, helA, hRA, hgp, hX, hN, hNA, hs⟩ := hI
          have hgsl : gs.length = A.gz.length := by
            have := congrArg List.length hgp
            rw [gps_len, gps_len, hgl] at this; exact this
          have hXG : ∀ g ∈ gs, GOk w0 g.B g.v g.M g.m g.es g.ck [g.z] := fun g hg => by
            obtain ⟨j, hj, rfl⟩ := List.getElem_of_mem hg
            have := (hX j (by omega)).G
            rw [List.getD_eq_getElem?_getD, List.getElem?_eq_getElem hj] at this
            exact this
          have hXo := gxs_own (far := far) hXG
          by_cases hlt : i < nl
          · refine W_seq ?_
            refine W_region ?_
            first | refine L_lss rfl rfl rfl (dtrue (by omega)) ?_ | refine L_lss rfl rfl rfl (dfalse (by omega)) ?_ | refine L_lss rfl rfl rfl rfl ?_
            refine RL_then ?_
            refine W_seq ?_
            refine W_if_true rfl ?_
            obtain ⟨l, hld⟩ : ∃ l, l = ls.getD i lk0 := ⟨_, rfl⟩
            have hla : SlC w0 l.a (tcs l.ts) := by rw [hld]; exact (hl2 i (by omega)).1
            have htok : TkOk l.ts := by rw [hld]; exact hl3 i (by omega)
            have htk : tkS ls (i + 1) = tkS ls i + l.ts.length := by rw [tkS_succ (by omega), hld]
            have htm := tk_mono ls (i := i + 1) (k := nl) (by omega) (by omega)
            obtain ⟨GA, hGA⟩ : ∃ GA, GA = gbs BA far A.vA A.MA A.gz.length mA esA ckA A.gzA := ⟨_, rfl⟩
            have hGAo : Own w0 GA := by rw [hGA]; exact hNA.owns
            rw [← hGA] at hs
            have hoS : Own w0 (gbs B far A.v A.M A.gz.length m es ck A.gz ++ (GA ++ (gxs far gs ++ K))) := hN.owns.app (hGAo.app (hXo.app hKo))
            refine W_skip' ?_
            refine Nx_then ?_
            refine W_seq ?_
            refine W_block ?_
            refine W_seq ?_
            refine W_region ?_
            refine L_idxN rfl Try.underlying32 Try.ti46 rfl rfl (by with_reducible first | exact natc_k _ | exact natc_a1 _ | exact natc_0 | exact natc_1 | exact natc_2 | exact natc_s1 _ (by omega) | exact natc_a2 _ | exact natc_add _ _ | exact natc_mul _ _ | exact natc (by omega)) (by omega) (hl.ao (by rw [lks_len]; omega)) ?_
            refine L_loadA rfl Try.agg46 Try.ti46 rfl (by exact (by rw [hld]; exact lks_at (hl.old hs hoS) (by omega) : CellsAt w ((aD b).add (i * 2)) l.cells)) ?_
            refine L_alloc rfl hs Try.ti46 ?_; intro b30 w hb30 _ hs; replace hs := HS.push hs
            refine L_storeA hs (i := 0) rfl Try.ti46 rfl rfl (by first | rfl | exact add_lit0 _ _ | exact Addr.add_lit .. | (rw [add_add]; exact add_lit0 _ _)) (by simp [LK.cells]) (by exact LK.one l) ?_
            intro w hs
            try dsimp only [List.set_cons_succ, List.set_cons_zero, List.cons_append, List.nil_append] at hs
            refine RL_then ?_
            refine W_seq ?_
            have h0 : HS w0 w ((b30, Row 46 l.cells) :: (gbs B far A.v A.M A.gz.length m es ck A.gz ++ (GA ++ (gxs far gs ++ K)))) := hs
            clear hs
            have hs : HS w0 w (gbs B far A.v A.M A.gz.length m es ck A.gz ++ ((b30, Row 46 l.cells) :: (GA ++ (gxs far gs ++ K)))) := HS.re h0 (fun c => by simp only [List.map_append, List.map_cons, List.map_nil, List.sum_append, List.sum_cons, List.sum_nil]; omega)
            clear h0
            have hoR : Own w0 ((b30, Row 46 l.cells) :: (GA ++ (gxs far gs ++ K))) := Own.cons hb30 (hGAo.app (hXo.app hKo))
            refine W_region ?_
            refine L_move rfl rfl ?_
            refine L_fieldAddr rfl (off := 0) Try.underlying46 rfl rfl Try.ti23 rfl ?_
            refine L_load rfl Try.one23 rfl (by exact HS.cellM hs (List.mem_append_right _ (List.mem_cons_self ..)) rfl) ?_
            refine L_fieldAddr rfl (off := 1) Try.underlying46 rfl rfl Try.ti44 rfl ?_
            refine L_load rfl Try.one44 rfl (by exact HS.cellM hs (List.mem_append_right _ (List.mem_cons_self ..)) rfl) ?_
            refine L_call rfl Try.fun15 rfl (watchG w0 w B far A.v A.M ((b30, Row 46 l.cells) :: (GA ++ (gxs far gs ++ K))) A.gz.length m es ck A.gz l.time l.a l.ts.length l.c l.ts hs hN hoR (fun w' L' hs' ho hL => hla.old hs' ho) (by omega) rfl (by omega)) ?_
            rintro _ w1 ⟨N1, hs1, hn1, hN1, hel1⟩
            obtain ⟨a1, c1, rfl, _⟩ := hn1.slice
            have hsing := fun (j : Nat) (hj : j < A.gz.length) => single (far := far) (time := l.time) (ts := l.ts) (z := A.gz.getD j zn0) (z1 := (gs.getD j gx0).z) hnums hN.map hV hZk (getD_mem hj) (hX j hj).num (hX j hj).G.map (hX j hj).V (hX j hj).Z
              (fun i9 => by
                rw [(hX j hj).ps]
                have hf := hZ.fins _ (getD_mem (d := zn0) hj)
                refine isNow_turn hf.1 back ?_ far htok i9
                have e1 : 0 ≤ bg % ((A.gz.getD j zn0).ps.length : Int) := Int.emod_nonneg _ (by omega)
                have e2 : bg % ((A.gz.getD j zn0).ps.length : Int) < (A.gz.getD j zn0).ps.length := Int.emod_lt_of_pos _ (by omega)
                omega)
              (by rw [zs_get hZ.nums hj]; exact (hX j hj).rel)
            have hsum := told_sum (far := far) (time := l.time) (ts := l.ts) hnums hN.map hV hZk
            have halone := alone (far := far) (time := l.time) (ts := l.ts) hZ.two hnums hN.map hV hZk hNA.map hVA hZkA id hRA
            have htl1 := told_len (far := far) (time := l.time) (ts := l.ts) hnums hN.map hV hZk
            obtain ⟨_, _, _, hV1, hZ1⟩ := watch_closed far l.time A.gz es ck l.ts hnums hN.map hV hZk
            obtain ⟨_, _, _, hVA1, hZA1⟩ := watch_closed far l.time A.gzA esA ckA (l.ts.filter fun t => decide (t.id = id)) hnumsA hNA.map hVA hZkA
            obtain ⟨W1, hW1⟩ : ∃ W1, W1 = watchF far l.time A.gz es ck l.ts := ⟨_, rfl⟩
            rw [← hW1] at hs1 hn1 hN1 hel1 htl1 hV1 hZ1 hsum halone
            have hsing2 : ∀ j, j < A.gz.length → ofL W1.told (A.gz.getD j zn0).num 1 = (watchF far l.time [(gs.getD j gx0).z] (gs.getD j gx0).es (gs.getD j gx0).ck l.ts).told ∧ Rel W1.es (A.gz.getD j zn0).num (watchF far l.time [(gs.getD j gx0).z] (gs.getD j gx0).es (gs.getD j gx0).ck l.ts).es := fun j hj => by rw [hW1]; exact hsing j hj
            clear hsing
            rw [← hW1]
            have htl1' : W1.told.length ≤ 100000000 := Nat.le_trans htl1 (Nat.le_trans (Nat.mul_le_mul_right _ hgz8) (by omega))
            clear hs
            obtain ⟨RY, hRY⟩ : ∃ RY, RY = (b30, Row 46 l.cells) :: N1 := ⟨_, rfl⟩
            have hRYo : Own w0 RY := by rw [hRY]; exact Own.cons hb30 hn1.own
            have hRYb : (b30, Row 46 l.cells) ∈ RY := by rw [hRY]; exact List.mem_cons_self ..
            have hRYn : ∀ p ∈ N1, p ∈ RY := fun p hp => by rw [hRY]; exact List.mem_cons_of_mem _ hp
            obtain ⟨T, hTd⟩ : ∃ T, T = W1.told := ⟨_, rfl⟩
            obtain ⟨nT, hnT⟩ : ∃ nT, nT = T.length := ⟨_, rfl⟩
            rw [← hTd] at hn1 hsum halone hsing2 htl1'
            rw [← hTd, ← hnT]
            rw [← hnT] at hn1 hsum htl1'
            have hs : HS w0 w1 (gbs B far A.v A.M A.gz.length m W1.es W1.ck A.gz ++ (GA ++ (gxs far gs ++ (K ++ RY)))) := by rw [hRY]; exact HS.re hs1 (fun c => by simp only [List.map_append, List.map_cons, List.map_nil, List.sum_append, List.sum_cons, List.sum_nil]; omega)
            clear hs1
            have hGo : Own w0 (gbs B far A.v A.M A.gz.length m W1.es W1.ck A.gz) := hN1.owns
            refine L_assign rfl rfl ?_
            refine RL_then ?_
            refine W_seq ?_
            refine W_region ?_
            refine L_assign rfl rfl ?_
            refine RL_then ?_
            refine W_seq ?_
            refine W_seq ?_
            refine W_region ?_
            refine L_move rfl rfl ?_
            refine L_len rfl Try.underlying63 rfl ?_
            refine L_move rfl rfl ?_
            refine RL_then ?_
            refine W_block ?_
            refine W_loop3 (fun (k : Nat) (gs' : List GX) (w : World) => [(5, .int .i64 id), (13, .pointer (some ⟨B, 0, none⟩)), (15, .pointer (some ⟨BA, 0, none⟩)), (17, .slice A.ae A.gz.length A.ce), (18, .slice A.an A.gz.length A.cn), (30, .pointer (some ⟨b30, 0, none⟩)), (31, .slice a1 nT c1), (32, .int .i64 (restN T A.gz k)), (126, .slice b nl d), (127, .int .i64 nl), (128, .int .i64 i), (138, .slice A.ae A.gz.length A.ce), (139, .int .i64 A.gz.length), (140, .int .i64 k)]) (fun (k : Nat) (gs' : List GX) (w : World) => w) (fun (k : Nat) (gs' : List GX) (w : World) => (k ≤ A.gz.length) ∧ (gps gs' = gps A.gs) ∧ (∀ j, j < k → XOk w0 bg back (A.gz.getD j zn0) W1.es j (64 * tkS ls (i + 1)) (gs'.getD j gx0)) ∧ (∀ j, k ≤ j → gs'.getD j gx0 = gs.getD j gx0) ∧ (restN T A.gz k ≤ k * 100000000) ∧ (HS w0 w (gbs B far A.v A.M A.gz.length m W1.es W1.ck A.gz ++ (GA ++ (gxs far gs' ++ (K ++ RY)))))) (fun (k : Nat) (gs' : List GX) (w : World) => A.gz.length - k) (0) (gs) (w1) (is := [5, 13, 15, 17, 18, 30, 31, 32, 126, 127, 128, 138, 139, 140]) rfl rfl ?_ ?_
            · exact ⟨Nat.zero_le _, hgp, fun j hj => absurd hj (Nat.not_lt_zero _), fun j _ => rfl, (by rw [show restN T A.gz 0 = 0 by simp [restN]]; exact Nat.zero_le _), hs⟩
            · clear hs
              intro k gs' w hI
              show W _ _ _ _ [(5, .int .i64 id), (13, .pointer (some ⟨B, 0, none⟩)), (15, .pointer (some ⟨BA, 0, none⟩)), (17, .slice A.ae A.gz.length A.ce), (18, .slice A.an A.gz.length A.cn), (30, .pointer (some ⟨b30, 0, none⟩)), (31, .slice a1 nT c1), (32, .int .i64 (restN T A.gz k)), (126, .slice b nl d), (127, .int .i64 nl), (128, .int .i64 i), (138, .slice A.ae A.gz.length A.ce), (139, .int .i64 A.gz.length), (140, .int .i64 k)] w
              obtain ⟨hk, hgp', hX1, hX2, hrl, hs⟩ := hI
              have hgsl' : gs'.length = A.gz.length := by
                have := congrArg List.length hgp'
                rw [gps_len, gps_len, hgl] at this; exact this
              have hXG' : ∀ g ∈ gs', GOk w0 g.B g.v g.M g.m g.es g.ck [g.z] := fun g hg => by
                obtain ⟨j, hj, rfl⟩ := List.getElem_of_mem hg
                have e9 : gs'[j] = gs'.getD j gx0 := by rw [List.getD_eq_getElem?_getD, List.getElem?_eq_getElem hj]; rfl
                rw [e9]
                by_cases hjk : j < k
                · exact (hX1 j hjk).G
                · rw [hX2 j (by omega)]; exact (hX j (by omega)).G
              have hXo' := gxs_own (far := far) hXG'
              by_cases hkt : k < A.gz.length
              · obtain ⟨X, hXd⟩ : ∃ X, X = gs'.getD k gx0 := ⟨_, rfl⟩
                have hXe : X = gs.getD k gx0 := by rw [hXd]; exact hX2 k (Nat.le_refl _)
                have hXk : XOk w0 bg back (A.gz.getD k zn0) es k (64 * tkS ls i) X := by rw [hXe]; exact hX k hkt
                obtain ⟨hs1, hs2⟩ := hsing2 k hkt
                rw [← hXe] at hs1 hs2
                rw [zs_get hZ.nums hkt] at hs1 hs2
                have hrs : restN T A.gz (k + 1) = restN T A.gz k + (ofL T ((k : Int) + 1) 1).length := by rw [restN_succ hkt, zs_get hZ.nums hkt]
                have hol := ofL_le T ((k : Int) + 1) 1
                have hec : SlC w A.ae (gps A.gs) := hbe.slm hs (fun p hp => List.mem_append_right _ (List.mem_append_right _ (List.mem_append_right _ (List.mem_append_left _ (hKe p hp)))))
                have hgv : (gps A.gs)[k]? = some (.pointer (some ⟨X.B, 0, none⟩)) := by rw [← hgp', hXd]; exact gps_get (by omega)
                obtain ⟨ER, hER⟩ : ∃ ER, ER = gxs far (gs'.eraseIdx k) := ⟨_, rfl⟩
                have hERo : Own w0 ER := by rw [hER]; exact gxs_own fun g hg => hXG' g (List.mem_of_mem_eraseIdx hg)
                have h0 : HS w0 w (gbs X.B far X.v X.M 1 X.m X.es X.ck [X.z] ++ (gbs B far A.v A.M A.gz.length m W1.es W1.ck A.gz ++ (GA ++ (ER ++ (K ++ RY))))) := by
                  have hp := gxs_perm (far := far) (gs := gs') (k := k) (by omega)
                  rw [← hXd, ← hER] at hp
                  refine hs.mem_perm (perm_by fun c => ?_)
                  have hq := (hp.map c).sum_nat
                  simp only [List.map_append, List.map_cons, List.map_nil, List.sum_append, List.sum_cons, List.sum_nil] at hq ⊢
                  omega
                clear hs
                have hs := h0
                clear h0
                have hoR2 : Own w0 (gbs B far A.v A.M A.gz.length m W1.es W1.ck A.gz ++ (GA ++ (ER ++ (K ++ RY)))) := hGo.app (hGAo.app (hERo.app (hKo.app hRYo)))
                have hb30m : ∀ G : Bks, (b30, Row 46 l.cells) ∈ G ++ (gbs B far A.v A.M A.gz.length m W1.es W1.ck A.gz ++ (GA ++ (ER ++ (K ++ RY)))) := fun G => List.mem_append_right _ (List.mem_append_right _ (List.mem_append_right _ (List.mem_append_right _ (List.mem_append_right _ hRYb))))
                have hec2 : SlC w A.ae (gps A.gs) := hbe.slm hs (fun p hp => List.mem_append_right _ (List.mem_append_right _ (List.mem_append_right _ (List.mem_append_right _ (List.mem_append_left _ (hKe p hp))))))
                refine W_seq ?_
                refine W_region ?_
                first | refine L_lss rfl rfl rfl (dtrue (by omega)) ?_ | refine L_lss rfl rfl rfl (dfalse (by omega)) ?_ | refine L_lss rfl rfl rfl rfl ?_
                refine RL_then ?_
                refine W_seq ?_
                refine W_if_true rfl ?_
                refine W_skip' ?_
                refine Nx_then ?_
                refine W_seq ?_
                refine W_block ?_
                refine W_seq ?_
                refine W_region ?_
                refine L_move rfl rfl ?_
                refine L_idx1 rfl Try.underlying63 Try.ti34 rfl rfl (by with_reducible first | exact natc_k _ | exact natc_a1 _ | exact natc_0 | exact natc_1 | exact natc_2 | exact natc_s1 _ (by omega) | exact natc_a2 _ | exact natc_add _ _ | exact natc_mul _ _ | exact natc (by omega)) (by omega) (hec2.ao (by rw [gps_len, hgl]; omega)) ?_
                refine L_load rfl Try.one34 rfl (by exact hec2.get hgv) ?_
                refine L_assign rfl rfl ?_
                refine L_assign rfl rfl ?_
                refine RL_then ?_
                refine W_seq ?_
                refine W_region ?_
                refine L_move rfl rfl ?_
                refine L_fieldAddr rfl (off := 0) Try.underlying46 rfl rfl Try.ti23 rfl ?_
                refine L_load rfl Try.one23 rfl (by exact HS.cellM hs (hb30m _) rfl) ?_
                refine L_fieldAddr rfl (off := 1) Try.underlying46 rfl rfl Try.ti44 rfl ?_
                refine L_load rfl Try.one44 rfl (by exact HS.cellM hs (hb30m _) rfl) ?_
                refine L_call rfl Try.fun15 rfl (watchG w0 w X.B far X.v X.M (gbs B far A.v A.M A.gz.length m W1.es W1.ck A.gz ++ (GA ++ (ER ++ (K ++ RY)))) 1 X.m X.es X.ck [X.z] l.time l.a l.ts.length l.c l.ts hs hXk.G hoR2 (fun w' L' hs' ho hL => hla.old hs' ho) (by have := hXk.len; omega) rfl (by omega)) ?_
                rintro _ w2 ⟨N2, hs2', hn2, hG2, hel2⟩
                obtain ⟨_, _, _, hV2, hZ2⟩ := watch_closed far l.time [X.z] X.es X.ck l.ts (by simp) hXk.G.map hXk.V hXk.Z
                obtain ⟨a2, c2, rfl, _⟩ := hn2.slice
                obtain ⟨W2, hW2⟩ : ∃ W2, W2 = watchF far l.time [X.z] X.es X.ck l.ts := ⟨_, rfl⟩
                rw [← hW2] at hs2' hn2 hG2 hel2 hs1 hs2 hV2 hZ2
                rw [← hW2]
                clear hs
                have hs := hs2'
                clear hs2'
                obtain ⟨n2, hn2l⟩ : ∃ n2, n2 = W2.told.length := ⟨_, rfl⟩
                have hn2e : (ofL T ((k : Int) + 1) 1).length = n2 := by rw [hs1, hn2l]
                rw [← hn2l] at hn2
                rw [← hn2l]
                rw [hn2e] at hrs hol
                refine L_assign rfl rfl ?_
                refine RL_then ?_
                refine W_seq ?_
                refine W_region ?_
                refine L_move rfl rfl ?_
                refine L_move rfl rfl ?_
                refine L_len rfl Try.underlying47 rfl ?_
                first | refine L_add rfl rfl rfl (wrp_i64 (by omega)) ?_ | refine L_add rfl rfl rfl rfl ?_
                refine L_assign rfl rfl ?_
                refine RL_then ?_
                refine W_seq ?_
                refine W_set 32 (v' := .int .i64 (restN T A.gz (k + 1))) rfl ((by rw [hrs, Int.natCast_add])) ?_
                have hnc : SlC w2 A.an (il (numsN A.gz.length)) := hbn.slm hs (fun p hp => List.mem_append_left _ (List.mem_append_right _ (List.mem_append_right _ (List.mem_append_right _ (List.mem_append_right _ (List.mem_append_left _ (hKn p hp)))))))
                have hng : (il (numsN A.gz.length))[k]? = some (.int .i64 ((k : Int) + 1)) := by rw [il_get (by rw [numsN_len]; exact hkt), numsN_get hkt]
                refine W_region ?_
                refine L_move rfl rfl ?_
                refine L_move rfl rfl ?_
                refine L_move rfl rfl ?_
                refine L_idx1 rfl Try.underlying38 Try.ti3 rfl rfl (by with_reducible first | exact natc_k _ | exact natc_a1 _ | exact natc_0 | exact natc_1 | exact natc_2 | exact natc_s1 _ (by omega) | exact natc_a2 _ | exact natc_add _ _ | exact natc_mul _ _ | exact natc (by omega)) (by omega) (hnc.ao (by rw [il_length, numsN_len]; omega)) ?_
                refine L_load rfl Try.one3 rfl (by exact hnc.get hng) ?_
                refine L_call rfl Try.fun21 rfl (of_ok a1 nT c1 T ((k : Int) + 1) 1 w2 (hn1.slm hs (fun p hp => List.mem_append_left _ (List.mem_append_right _ (List.mem_append_right _ (List.mem_append_right _ (List.mem_append_right _ (List.mem_append_right _ (hRYn p hp)))))))) hnT.symm (by omega)) ?_
                rintro _ w3 ⟨N3, hs', hn3⟩
                have hn3o := hn3.own
                replace hn3 := hn3.mono hs.size
                obtain ⟨a3, c3, rfl, _⟩ := hn3.slice
                rw [hs1, ← hn2l] at hn3
                rw [hs1, ← hn2l]
                have h0 := hs.call hs' hn3o
                clear hs hs'
                have hs := h0
                clear h0
                refine L_move rfl rfl ?_
                refine L_call rfl Try.fun20 rfl (alarms_ok a3 a2 n2 n2 c3 c2 W2.told W2.told w3 (hn3.slm hs (fun p hp => List.mem_append_right _ hp)) (hn2.slm hs (fun p hp => List.mem_append_left _ (List.mem_append_right _ hp))) hn2l.symm hn2l.symm (by omega)) ?_
                rintro _ w4 ⟨rfl, hs'⟩
                rw [alsB_self]
                have h0 : HS w0 w4 (gbs B far A.v A.M A.gz.length m W1.es W1.ck A.gz ++ (gbs X.B far X.v X.M 1 X.m W2.es W2.ck [X.z] ++ (GA ++ (ER ++ (K ++ RY))))) := HS.dropR (M := N2 ++ N3) (HS.re (hs.nil hs') (fun c => by simp only [List.map_append, List.map_cons, List.map_nil, List.sum_append, List.sum_cons, List.sum_nil]; omega)) (hn2.own.app hn3.own)
                clear hs hs'
                have hs := h0
                clear h0
                have hnc2 : SlC w4 A.an (il (numsN A.gz.length)) := hbn.slm hs (fun p hp => List.mem_append_right _ (List.mem_append_right _ (List.mem_append_right _ (List.mem_append_right _ (List.mem_append_left _ (hKn p hp))))))
                refine L_not rfl rfl ?_
                refine L_move rfl rfl ?_
                first | (refine RL_want rfl rfl ?_; refine L_move rfl rfl ?_) | refine RL_skip rfl rfl rfl rfl ?_ | refine RL_skipU rfl rfl rfl ?_
                first | (refine RL_want rfl rfl ?_; refine L_move rfl rfl ?_) | refine RL_skip rfl rfl rfl rfl ?_ | refine RL_skipU rfl rfl rfl ?_
                first | (refine RL_want rfl rfl ?_; refine L_move rfl rfl ?_) | refine RL_skip rfl rfl rfl rfl ?_ | refine RL_skipU rfl rfl rfl ?_
                first | (refine RL_want rfl rfl ?_; refine L_idx1 rfl Try.underlying38 Try.ti3 rfl rfl (by with_reducible first | exact natc_k _ | exact natc_a1 _ | exact natc_0 | exact natc_1 | exact natc_2 | exact natc_s1 _ (by omega) | exact natc_a2 _ | exact natc_add _ _ | exact natc_mul _ _ | exact natc (by omega)) (by omega) (hnc2.ao (by rw [il_length, numsN_len]; omega)) ?_) | refine RL_skip rfl rfl rfl rfl ?_ | refine RL_skipU rfl rfl rfl ?_
                first | (refine RL_want rfl rfl ?_; refine L_load rfl Try.one3 rfl (by exact hnc2.get hng) ?_) | refine RL_skip rfl rfl rfl rfl ?_ | refine RL_skipU rfl rfl rfl ?_
                refine RL_want rfl rfl ?_
                refine L_call rfl Try.fun17 rfl (inG w0 w4 B far A.v A.M (gbs X.B far X.v X.M 1 X.m W2.es W2.ck [X.z] ++ (GA ++ (ER ++ (K ++ RY)))) A.gz.length m W1.es W1.ck A.gz ((k : Int) + 1) hs hN1 (by omega)) ?_
                rintro _ w5 ⟨N4, hs', hn4⟩
                obtain ⟨a4, c4, rfl, _⟩ := hn4.slice
                clear hs
                have hs : HS w0 w5 (gbs X.B far X.v X.M 1 X.m W2.es W2.ck [X.z] ++ (N4 ++ (gbs B far A.v A.M A.gz.length m W1.es W1.ck A.gz ++ (GA ++ (ER ++ (K ++ RY)))))) := HS.re hs' (fun c => by simp only [List.map_append, List.map_cons, List.map_nil, List.sum_append, List.sum_cons, List.sum_nil]; omega)
                clear hs'
                first | (refine RL_want rfl rfl ?_; refine L_move rfl rfl ?_) | refine RL_skip rfl rfl rfl rfl ?_ | refine RL_skipU rfl rfl rfl ?_
                refine RL_want rfl rfl ?_
                refine L_call rfl Try.fun17 rfl (inG w0 w5 X.B far X.v X.M (N4 ++ (gbs B far A.v A.M A.gz.length m W1.es W1.ck A.gz ++ (GA ++ (ER ++ (K ++ RY))))) 1 X.m W2.es W2.ck [X.z] 1 hs hG2 (by have := hXk.len; omega)) ?_
                rintro _ w6 ⟨N5, hs', hn5⟩
                obtain ⟨a5, c5, rfl, _⟩ := hn5.slice
                clear hs
                have hs := hs'
                clear hs'
                have hin := in_same (es := W1.es) (n := (k : Int) + 1) hN1.map.keys hG2.map.keys hs2
                have hil1 := inL_len W1.es ((k : Int) + 1)
                skip
                refine RL_want rfl rfl ?_
                refine L_call rfl Try.fun22 rfl (ints_ok a4 a5 (inL W1.es ((k : Int) + 1)).length (inL W2.es 1).length c4 c5 (isort (inL W1.es ((k : Int) + 1))) (isort (inL W2.es 1)) w6 (hn4.slm hs (fun p hp => List.mem_append_left _ (List.mem_append_right _ (List.mem_append_left _ hp)))) (hn5.slm hs (fun p hp => List.mem_append_right _ hp)) (isort_len _) (isort_len _) (by omega)) ?_
                rintro _ w7 ⟨rfl, hs'⟩
                rw [decide_eq_true hin.symm]
                obtain ⟨X', hX'⟩ : ∃ X' : GX, X' = ⟨X.B, X.v, X.M, X.m, W2.es, W2.ck, X.z⟩ := ⟨_, rfl⟩
                have h0 : HS w0 w7 (gbs B far A.v A.M A.gz.length m W1.es W1.ck A.gz ++ (GA ++ (gxs far (gs'.set k X') ++ (K ++ RY)))) := by
                  have h1 : HS w0 w7 (gbs X.B far X.v X.M 1 X.m W2.es W2.ck [X.z] ++ (gbs B far A.v A.M A.gz.length m W1.es W1.ck A.gz ++ (GA ++ (ER ++ (K ++ RY))))) := HS.dropR (M := N4 ++ N5) (HS.re (hs.nil hs') (fun c => by simp only [List.map_append, List.map_cons, List.map_nil, List.sum_append, List.sum_cons, List.sum_nil]; omega)) (hn4.own.app hn5.own)
                  have hp := gxs_set (far := far) (gs := gs') (k := k) (by omega) X'
                  rw [← hER, hX'] at hp
                  rw [hX']
                  refine h1.mem_perm (perm_by fun c => ?_)
                  have hq := (hp.map c).sum_nat
                  simp only [List.map_append, List.map_cons, List.map_nil, List.sum_append, List.sum_cons, List.sum_nil] at hq ⊢
                  omega
                clear hs hs'
                have hs := h0
                clear h0
                first | (refine RL_want rfl rfl ?_; refine L_not rfl rfl ?_) | refine RL_skip rfl rfl rfl rfl ?_ | refine RL_skipU rfl rfl rfl ?_
                first | refine L_pick_t rfl rfl rfl ?_ | refine L_pick_f rfl rfl rfl ?_
                refine RL_then ?_
                refine W_if_false rfl ?_
                refine W_skip' ?_
                refine Nx_block ?_
                refine Nx_then ?_
                refine W_region ?_
                first | refine L_add rfl rfl rfl (wrp_i64 (by omega)) ?_ | refine L_add rfl rfl rfl rfl ?_
                refine L_move rfl rfl ?_
                refine RL_nil' ?_
                refine Nx_loopP (k + 1, gs'.set k X', _) (is := [5, 13, 15, 17, 18, 30, 31, 32, 126, 127, 128, 138, 139, 140]) (I' := (fun (k : Nat) (gs' : List GX) (w : World) => (k ≤ A.gz.length) ∧ (gps gs' = gps A.gs) ∧ (∀ j, j < k → XOk w0 bg back (A.gz.getD j zn0) W1.es j (64 * tkS ls (i + 1)) (gs'.getD j gx0)) ∧ (∀ j, k ≤ j → gs'.getD j gx0 = gs.getD j gx0) ∧ (restN T A.gz k ≤ k * 100000000) ∧ (HS w0 w (gbs B far A.v A.M A.gz.length m W1.es W1.ck A.gz ++ (GA ++ (gxs far gs' ++ (K ++ RY)))))) (k + 1) (gs'.set k X') (_)) rfl rfl rfl ?_ ?_
                · refine ⟨by omega, ?_, fun j hj => ?_, fun j hj => ?_, by omega, hs⟩
                  · rw [← hgp']
                    unfold gps
                    rw [List.map_set, hX']
                    apply List.ext_getElem?
                    intro j
                    rw [List.getElem?_set]
                    split
                    · next hkj =>
                      subst hkj
                      split
                      · next h9 =>
                        rw [List.getElem?_map, List.getElem?_eq_getElem (by omega), hXd, List.getD_eq_getElem?_getD, List.getElem?_eq_getElem (by omega)]; rfl
                      · next h9 => rw [List.length_map] at h9; omega
                    · rfl
                  · by_cases hjk : j = k
                    · subst hjk
                      rw [show (gs'.set j X').getD j gx0 = X' by rw [List.getD_eq_getElem?_getD, List.getElem?_set_self (by omega)]; rfl, hX']
                      exact ⟨hG2, hV2, hZ2, hXk.num, hXk.ps, hs2, by have := hXk.len; show W2.es.length ≤ _; omega⟩
                    · rw [show (gs'.set k X').getD j gx0 = gs'.getD j gx0 by rw [List.getD_eq_getElem?_getD, List.getElem?_set_ne (fun e => hjk e.symm), ← List.getD_eq_getElem?_getD]]
                      exact hX1 j (by omega)
                  · rw [show (gs'.set k X').getD j gx0 = gs'.getD j gx0 by rw [List.getD_eq_getElem?_getD, List.getElem?_set_ne (by omega), ← List.getD_eq_getElem?_getD]]
                    exact hX2 j (by omega)
                · omega
              · obtain hkn : k = A.gz.length := by omega
                have hall : restN T A.gz k = nT := by
                  unfold restN
                  rw [List.take_of_length_le (by omega)]
                  exact hsum.symm
                rw [hall]
                obtain ⟨QQ, hQQ⟩ : ∃ QQ, QQ = gbs B far A.v A.M A.gz.length m W1.es W1.ck A.gz ++ (GA ++ (gxs far gs' ++ (K ++ RY))) := ⟨_, rfl⟩
                have hQo : Own w0 QQ := by rw [hQQ]; exact hGo.app (hGAo.app (hXo'.app (hKo.app hRYo)))
                have hQb : (b30, Row 46 l.cells) ∈ QQ := by rw [hQQ]; exact List.mem_append_right _ (List.mem_append_right _ (List.mem_append_right _ (List.mem_append_right _ hRYb)))
                have hQn : ∀ p ∈ N1, p ∈ QQ := fun p hp => by rw [hQQ]; exact List.mem_append_right _ (List.mem_append_right _ (List.mem_append_right _ (List.mem_append_right _ (hRYn p hp))))
                have h0 : HS w0 w (QQ ++ []) := by rw [List.append_nil, hQQ]; exact hs
                clear hs
                have hs := h0
                clear h0
                refine W_seq ?_
                refine W_region ?_
                first | refine L_lss rfl rfl rfl (dtrue (by omega)) ?_ | refine L_lss rfl rfl rfl (dfalse (by omega)) ?_ | refine L_lss rfl rfl rfl rfl ?_
                refine RL_then ?_
                refine W_seq ?_
                refine W_if_false rfl ?_
                refine W_exit' ?_
                refine Ex_then_exit ?_
                refine Ex_loop_exit ?_
                refine Ex_block_hit ?_
                refine Nx_then ?_
                refine W_seq ?_
                refine W_seq ?_
                refine W_region ?_
                refine L_move rfl rfl ?_
                refine L_move rfl rfl ?_
                refine L_len rfl Try.underlying47 rfl ?_
                first | refine L_neq rfl rfl rfl (dtrue (by omega)) ?_ | refine L_neq rfl rfl rfl (dfalse (by omega)) ?_ | refine L_neq rfl rfl rfl rfl ?_
                refine RL_then ?_
                refine W_if_false rfl ?_
                refine W_skip' ?_
                refine Nx_then ?_
                refine W_seq ?_
                refine W_region ?_
                refine L_assign rfl rfl ?_
                refine RL_then ?_
                refine W_seq ?_
                refine W_seq ?_
                refine W_region ?_
                refine L_fieldAddr rfl (off := 1) Try.underlying46 rfl rfl Try.ti44 rfl ?_
                refine L_load rfl Try.one44 rfl (by exact HS.cellM hs (List.mem_append_left _ hQb) rfl) ?_
                refine L_len rfl Try.underlying44 rfl ?_
                refine L_move rfl rfl ?_
                refine RL_then ?_
                refine W_block ?_
                refine W_loop4 (fun (r : Nat) (vM : Value) (MM : Bks) (w : World) => [(5, .int .i64 id), (13, .pointer (some ⟨B, 0, none⟩)), (15, .pointer (some ⟨BA, 0, none⟩)), (17, .slice A.ae A.gz.length A.ce), (18, .slice A.an A.gz.length A.cn), (30, .pointer (some ⟨b30, 0, none⟩)), (31, .slice a1 nT c1), (36, vM), (126, .slice b nl d), (127, .int .i64 nl), (128, .int .i64 i), (182, .slice l.a l.ts.length l.c), (183, .int .i64 l.ts.length), (184, .int .i64 r)]) (fun (r : Nat) (vM : Value) (MM : Bks) (w : World) => w) (fun (r : Nat) (vM : Value) (MM : Bks) (w : World) => (r ≤ l.ts.length) ∧ (Bl w0 60 15 vM ((l.ts.take r).filter fun t => decide (t.id = id)).length (tcs ((l.ts.take r).filter fun t => decide (t.id = id))) MM) ∧ (HS w0 w (QQ ++ MM))) (fun (r : Nat) (vM : Value) (MM : Bks) (w : World) => l.ts.length - r) (0) (.slice none 0 0) ([]) (_) (is := [5, 13, 15, 17, 18, 30, 31, 36, 126, 127, 128, 182, 183, 184]) rfl rfl ?_ ?_
                · exact ⟨Nat.zero_le _, Bl.nil, hs⟩
                · clear hs
                  intro r vM MM w hI
                  show W _ _ _ _ [(5, .int .i64 id), (13, .pointer (some ⟨B, 0, none⟩)), (15, .pointer (some ⟨BA, 0, none⟩)), (17, .slice A.ae A.gz.length A.ce), (18, .slice A.an A.gz.length A.cn), (30, .pointer (some ⟨b30, 0, none⟩)), (31, .slice a1 nT c1), (36, vM), (126, .slice b nl d), (127, .int .i64 nl), (128, .int .i64 i), (182, .slice l.a l.ts.length l.c), (183, .int .i64 l.ts.length), (184, .int .i64 r)] w
                  obtain ⟨hr, hbM, hs⟩ := hI
                  by_cases hrt : r < l.ts.length
                  · refine W_seq ?_
                    refine W_region ?_
                    first | refine L_lss rfl rfl rfl (dtrue (by omega)) ?_ | refine L_lss rfl rfl rfl (dfalse (by omega)) ?_ | refine L_lss rfl rfl rfl rfl ?_
                    refine RL_then ?_
                    refine W_seq ?_
                    refine W_if_true rfl ?_
                    have hlc : SlC w l.a (tcs l.ts) := hla.old hs (hQo.app hbM.own)
                    obtain ⟨t, htd⟩ : ∃ t, t = l.ts.getD r tk0 := ⟨_, rfl⟩
                    have hmt : ((l.ts.take (r + 1)).filter fun t => decide (t.id = id)) = ((l.ts.take r).filter fun t => decide (t.id = id)) ++ (if t.id = id then [t] else []) := by
                      rw [take_tk hrt, List.filter_append, ← htd]
                      congr 1
                      by_cases h9 : t.id = id <;> simp [h9]
                    have hml : ((l.ts.take r).filter fun t => decide (t.id = id)).length ≤ r := Nat.le_trans (List.length_filter_le ..) (by rw [List.length_take]; omega)
                    refine W_skip' ?_
                    refine Nx_then ?_
                    refine W_seq ?_
                    refine W_block ?_
                    refine W_seq ?_
                    refine W_region ?_
                    refine L_idxN rfl Try.underlying44 Try.ti60 rfl rfl (by with_reducible first | exact natc_k _ | exact natc_a1 _ | exact natc_0 | exact natc_1 | exact natc_2 | exact natc_s1 _ (by omega) | exact natc_a2 _ | exact natc_add _ _ | exact natc_mul _ _ | exact natc (by omega)) (by omega) (hlc.ao (by rw [tcs_len]; omega)) ?_
                    refine L_loadA rfl Try.agg60 Try.ti60 rfl (by exact (by rw [htd]; exact tk_at hlc hrt : CellsAt w ((aD l.a).add (r * 15)) t.cells)) ?_
                    refine L_alloc rfl hs Try.ti60 ?_; intro b38 w hb38 _ hs; replace hs := HS.push hs
                    refine L_storeA hs (i := 0) rfl Try.ti60 rfl rfl (by first | rfl | exact add_lit0 _ _ | exact Addr.add_lit .. | (rw [add_add]; exact add_lit0 _ _)) (by simp [Tk.cells]) (by exact Tk.one _) ?_
                    intro w hs
                    try dsimp only [List.set_cons_succ, List.set_cons_zero, List.cons_append, List.nil_append] at hs
                    refine RL_then ?_
                    refine W_seq ?_
                    replace hs : HS w0 w ((b38, Row 60 t.cells) :: (QQ ++ MM)) := hs
                    by_cases hm1 : t.id = id
                    · skip
                      refine W_region ?_
                      refine L_fieldAddr rfl (off := 0) Try.underlying60 rfl rfl Try.ti3 rfl ?_
                      refine L_load rfl Try.one3 rfl (by exact hs.cell (i := 0) rfl rfl) ?_
                      refine L_move rfl rfl ?_
                      first | refine L_eql rfl rfl rfl (dtrue (by omega)) ?_ | refine L_eql rfl rfl rfl (dfalse (by omega)) ?_ | refine L_eql rfl rfl rfl rfl ?_
                      refine RL_then ?_
                      refine W_if_true rfl ?_
                      refine W_region ?_
                      refine L_move rfl rfl ?_
                      refine L_loadA rfl Try.agg60 Try.ti60 rfl (by exact cellsAt_whole (cs := t.cells) (hs.get (i := 0) rfl)) ?_
                      refine L_buildSlice rfl hs Try.underlying44 Try.ti60 rfl (by decide) rfl (by simp [Value.cells, Tk.cells]) ?_
                      intro b194 w hb194 hnb194 hs
                      skip
                      have h0 : HS w0 w (((b38, Row 60 t.cells) :: (QQ ++ MM)) ++ [(b194, Row 60 t.cells)]) := hs
                      clear hs
                      have hs : HS w0 w ((((b38, Row 60 t.cells) :: QQ) ++ MM) ++ [(b194, Row 60 t.cells)]) := h0
                      clear h0
                      refine L_appendT (L := (b38, Row 60 t.cells) :: QQ) (M := MM) rfl Try.underlying44 Try.ti60 rfl hs hb194 hbM rfl rfl rfl (Tk.one _) (by omega) (by omega) ?_
                      intro v195 w M195 hs hb195
                      refine L_assign rfl rfl ?_
                      refine RL_nil' ?_
                      refine Nx_block ?_
                      refine Nx_then ?_
                      refine W_region ?_
                      first | refine L_add rfl rfl rfl (wrp_i64 (by omega)) ?_ | refine L_add rfl rfl rfl rfl ?_
                      refine L_move rfl rfl ?_
                      refine RL_nil' ?_
                      refine Nx_loopP (r + 1, v195, M195, _) (is := [5, 13, 15, 17, 18, 30, 31, 36, 126, 127, 128, 182, 183, 184]) (I' := (fun (r : Nat) (vM : Value) (MM : Bks) (w : World) => (r ≤ l.ts.length) ∧ (Bl w0 60 15 vM ((l.ts.take r).filter fun t => decide (t.id = id)).length (tcs ((l.ts.take r).filter fun t => decide (t.id = id))) MM) ∧ (HS w0 w (QQ ++ MM))) (r + 1) (v195) (M195) (_)) rfl rfl rfl ?_ ?_
                      · refine ⟨by omega, ?_, HS.pop (L := QQ ++ M195) hs hb38⟩
                        rw [hmt, if_pos hm1, List.length_append, tcs_app, show tcs [t] = t.cells by simp [tcs]]
                        exact hb195
                      · omega
                    · refine W_region ?_
                      refine L_fieldAddr rfl (off := 0) Try.underlying60 rfl rfl Try.ti3 rfl ?_
                      refine L_load rfl Try.one3 rfl (by exact hs.cell (i := 0) rfl rfl) ?_
                      refine L_move rfl rfl ?_
                      first | refine L_eql rfl rfl rfl (dtrue (by omega)) ?_ | refine L_eql rfl rfl rfl (dfalse (by omega)) ?_ | refine L_eql rfl rfl rfl rfl ?_
                      refine RL_then ?_
                      refine W_if_false rfl ?_
                      refine W_skip' ?_
                      refine Nx_block ?_
                      refine Nx_then ?_
                      refine W_region ?_
                      first | refine L_add rfl rfl rfl (wrp_i64 (by omega)) ?_ | refine L_add rfl rfl rfl rfl ?_
                      refine L_move rfl rfl ?_
                      refine RL_nil' ?_
                      refine Nx_loopP (r + 1, vM, MM, _) (is := [5, 13, 15, 17, 18, 30, 31, 36, 126, 127, 128, 182, 183, 184]) (I' := (fun (r : Nat) (vM : Value) (MM : Bks) (w : World) => (r ≤ l.ts.length) ∧ (Bl w0 60 15 vM ((l.ts.take r).filter fun t => decide (t.id = id)).length (tcs ((l.ts.take r).filter fun t => decide (t.id = id))) MM) ∧ (HS w0 w (QQ ++ MM))) (r + 1) (vM) (MM) (_)) rfl rfl rfl ?_ ?_
                      · refine ⟨by omega, ?_, HS.pop (L := QQ ++ MM) hs hb38⟩
                        rw [hmt, if_neg hm1, List.append_nil]
                        exact hbM
                      · omega
                  · obtain hrn : r = l.ts.length := by omega
                    rw [List.take_of_length_le (by omega)] at hbM
                    obtain ⟨mi, hmi⟩ : ∃ mi, mi = l.ts.filter fun t => decide (t.id = id) := ⟨_, rfl⟩
                    have hmil : mi.length ≤ l.ts.length := by rw [hmi]; exact List.length_filter_le ..
                    rw [← hmi] at hbM halone hVA1 hZA1
                    obtain ⟨am, cm, rfl, _⟩ := hbM.slice
                    obtain ⟨nm, hnm⟩ : ∃ nm, nm = mi.length := ⟨_, rfl⟩
                    rw [← hnm] at hbM
                    rw [← hnm]
                    have h0 : HS w0 w ((QQ ++ MM) ++ []) := by rw [List.append_nil]; exact hs
                    clear hs
                    have hs := h0
                    clear h0
                    refine W_seq ?_
                    refine W_region ?_
                    first | refine L_lss rfl rfl rfl (dtrue (by omega)) ?_ | refine L_lss rfl rfl rfl (dfalse (by omega)) ?_ | refine L_lss rfl rfl rfl rfl ?_
                    refine RL_then ?_
                    refine W_seq ?_
                    refine W_if_false rfl ?_
                    refine W_exit' ?_
                    refine Ex_then_exit ?_
                    refine Ex_loop_exit ?_
                    refine Ex_block_hit ?_
                    refine Nx_then ?_
                    refine W_seq ?_
                    refine W_region ?_
                    refine L_assign rfl rfl ?_
                    refine RL_then ?_
                    refine W_seq ?_
                    refine W_seq ?_
                    refine W_region ?_
                    refine L_move rfl rfl ?_
                    refine L_len rfl Try.underlying47 rfl ?_
                    refine L_move rfl rfl ?_
                    refine RL_then ?_
                    refine W_block ?_
                    refine W_loop4 (fun (r : Nat) (vW : Value) (MW : Bks) (w : World) => [(5, .int .i64 id), (13, .pointer (some ⟨B, 0, none⟩)), (15, .pointer (some ⟨BA, 0, none⟩)), (17, .slice A.ae A.gz.length A.ce), (18, .slice A.an A.gz.length A.cn), (30, .pointer (some ⟨b30, 0, none⟩)), (31, .slice a1 nT c1), (36, .slice am nm cm), (39, vW), (126, .slice b nl d), (127, .int .i64 nl), (128, .int .i64 i), (197, .slice a1 nT c1), (198, .int .i64 nT), (199, .int .i64 r)]) (fun (r : Nat) (vW : Value) (MW : Bks) (w : World) => w) (fun (r : Nat) (vW : Value) (MW : Bks) (w : World) => (r ≤ nT) ∧ (Bl w0 51 4 vW ((T.take r).filter fun x => decide (x.track = id)).length (acs ((T.take r).filter fun x => decide (x.track = id))) MW) ∧ (HS w0 w ((QQ ++ MM) ++ MW))) (fun (r : Nat) (vW : Value) (MW : Bks) (w : World) => nT - r) (0) (.slice none 0 0) ([]) (_) (is := [5, 13, 15, 17, 18, 30, 31, 36, 39, 126, 127, 128, 197, 198, 199]) rfl rfl ?_ ?_
                    · exact ⟨Nat.zero_le _, Bl.nil, hs⟩
                    · clear hs
                      intro r vW MW w hI
                      show W _ _ _ _ [(5, .int .i64 id), (13, .pointer (some ⟨B, 0, none⟩)), (15, .pointer (some ⟨BA, 0, none⟩)), (17, .slice A.ae A.gz.length A.ce), (18, .slice A.an A.gz.length A.cn), (30, .pointer (some ⟨b30, 0, none⟩)), (31, .slice a1 nT c1), (36, .slice am nm cm), (39, vW), (126, .slice b nl d), (127, .int .i64 nl), (128, .int .i64 i), (197, .slice a1 nT c1), (198, .int .i64 nT), (199, .int .i64 r)] w
                      obtain ⟨hr2, hbW, hs⟩ := hI
                      by_cases hrt2 : r < nT
                      · refine W_seq ?_
                        refine W_region ?_
                        first | refine L_lss rfl rfl rfl (dtrue (by omega)) ?_ | refine L_lss rfl rfl rfl (dfalse (by omega)) ?_ | refine L_lss rfl rfl rfl rfl ?_
                        refine RL_then ?_
                        refine W_seq ?_
                        refine W_if_true rfl ?_
                        have hN1c : SlC w a1 (acs T) := hn1.slm hs (fun p hp => List.mem_append_left _ (List.mem_append_left _ (hQn p hp)))
                        obtain ⟨x, hxd⟩ : ∃ x, x = T.getD r al0 := ⟨_, rfl⟩
                        have hwt : ((T.take (r + 1)).filter fun x => decide (x.track = id)) = ((T.take r).filter fun x => decide (x.track = id)) ++ (if x.track = id then [x] else []) := by
                          rw [take_al (by omega), List.filter_append, ← hxd]
                          congr 1
                          by_cases h9 : x.track = id <;> simp [h9]
                        have hwl : ((T.take r).filter fun x => decide (x.track = id)).length ≤ r := Nat.le_trans (List.length_filter_le ..) (by rw [List.length_take]; omega)
                        refine W_skip' ?_
                        refine Nx_then ?_
                        refine W_seq ?_
                        refine W_block ?_
                        refine W_seq ?_
                        refine W_region ?_
                        refine L_idxN rfl Try.underlying47 Try.ti51 rfl rfl (by with_reducible first | exact natc_k _ | exact natc_a1 _ | exact natc_0 | exact natc_1 | exact natc_2 | exact natc_s1 _ (by omega) | exact natc_a2 _ | exact natc_add _ _ | exact natc_mul _ _ | exact natc (by omega)) (by omega) (hN1c.ao (by rw [acs_len]; omega)) ?_
                        refine L_loadA rfl Try.agg51 Try.ti51 rfl (by exact (by rw [hxd]; exact al_at hN1c (by omega) : CellsAt w ((aD a1).add (r * 4)) x.cells)) ?_
                        refine L_alloc rfl hs Try.ti51 ?_; intro b41 w hb41 _ hs; replace hs := HS.push hs
                        refine L_storeA hs (i := 0) rfl Try.ti51 rfl rfl (by first | rfl | exact add_lit0 _ _ | exact Addr.add_lit .. | (rw [add_add]; exact add_lit0 _ _)) (by simp [Al.cells]) (by exact Al.one' x) ?_
                        intro w hs
                        try dsimp only [List.set_cons_succ, List.set_cons_zero, List.cons_append, List.nil_append] at hs
                        refine RL_then ?_
                        refine W_seq ?_
                        replace hs : HS w0 w ((b41, Row 51 x.cells) :: ((QQ ++ MM) ++ MW)) := hs
                        by_cases hm1 : x.track = id
                        · skip
                          refine W_region ?_
                          refine L_fieldAddr rfl (off := 2) Try.underlying51 rfl rfl Try.ti3 rfl ?_
                          refine L_load rfl Try.one3 rfl (by exact hs.cell (i := 0) rfl rfl) ?_
                          refine L_move rfl rfl ?_
                          first | refine L_eql rfl rfl rfl (dtrue (by omega)) ?_ | refine L_eql rfl rfl rfl (dfalse (by omega)) ?_ | refine L_eql rfl rfl rfl rfl ?_
                          refine RL_then ?_
                          refine W_if_true rfl ?_
                          refine W_region ?_
                          refine L_move rfl rfl ?_
                          refine L_loadA rfl Try.agg51 Try.ti51 rfl (by exact cellsAt_whole (cs := x.cells) (hs.get (i := 0) rfl)) ?_
                          refine L_buildSlice rfl hs Try.underlying47 Try.ti51 rfl (by decide) rfl (by simp [Value.cells, Al.cells]) ?_
                          intro b209 w hb209 hnb209 hs
                          skip
                          have h0 : HS w0 w (((b41, Row 51 x.cells) :: ((QQ ++ MM) ++ MW)) ++ [(b209, Row 51 x.cells)]) := hs
                          clear hs
                          have hs : HS w0 w ((((b41, Row 51 x.cells) :: (QQ ++ MM)) ++ MW) ++ [(b209, Row 51 x.cells)]) := h0
                          clear h0
                          refine L_appendT (L := (b41, Row 51 x.cells) :: (QQ ++ MM)) (M := MW) rfl Try.underlying47 Try.ti51 rfl hs hb209 hbW rfl rfl rfl (Al.one' _) (by omega) (by omega) ?_
                          intro v210 w M210 hs hb210
                          refine L_assign rfl rfl ?_
                          refine RL_nil' ?_
                          refine Nx_block ?_
                          refine Nx_then ?_
                          refine W_region ?_
                          first | refine L_add rfl rfl rfl (wrp_i64 (by omega)) ?_ | refine L_add rfl rfl rfl rfl ?_
                          refine L_move rfl rfl ?_
                          refine RL_nil' ?_
                          refine Nx_loopP (r + 1, v210, M210, _) (is := [5, 13, 15, 17, 18, 30, 31, 36, 39, 126, 127, 128, 197, 198, 199]) (I' := (fun (r : Nat) (vW : Value) (MW : Bks) (w : World) => (r ≤ nT) ∧ (Bl w0 51 4 vW ((T.take r).filter fun x => decide (x.track = id)).length (acs ((T.take r).filter fun x => decide (x.track = id))) MW) ∧ (HS w0 w ((QQ ++ MM) ++ MW))) (r + 1) (v210) (M210) (_)) rfl rfl rfl ?_ ?_
                          · refine ⟨by omega, ?_, HS.pop (L := (QQ ++ MM) ++ M210) hs hb41⟩
                            rw [hwt, if_pos hm1, List.length_append, acs_snoc]
                            exact hb210
                          · omega
                        · refine W_region ?_
                          refine L_fieldAddr rfl (off := 2) Try.underlying51 rfl rfl Try.ti3 rfl ?_
                          refine L_load rfl Try.one3 rfl (by exact hs.cell (i := 0) rfl rfl) ?_
                          refine L_move rfl rfl ?_
                          first | refine L_eql rfl rfl rfl (dtrue (by omega)) ?_ | refine L_eql rfl rfl rfl (dfalse (by omega)) ?_ | refine L_eql rfl rfl rfl rfl ?_
                          refine RL_then ?_
                          refine W_if_false rfl ?_
                          refine W_skip' ?_
                          refine Nx_block ?_
                          refine Nx_then ?_
                          refine W_region ?_
                          first | refine L_add rfl rfl rfl (wrp_i64 (by omega)) ?_ | refine L_add rfl rfl rfl rfl ?_
                          refine L_move rfl rfl ?_
                          refine RL_nil' ?_
                          refine Nx_loopP (r + 1, vW, MW, _) (is := [5, 13, 15, 17, 18, 30, 31, 36, 39, 126, 127, 128, 197, 198, 199]) (I' := (fun (r : Nat) (vW : Value) (MW : Bks) (w : World) => (r ≤ nT) ∧ (Bl w0 51 4 vW ((T.take r).filter fun x => decide (x.track = id)).length (acs ((T.take r).filter fun x => decide (x.track = id))) MW) ∧ (HS w0 w ((QQ ++ MM) ++ MW))) (r + 1) (vW) (MW) (_)) rfl rfl rfl ?_ ?_
                          · refine ⟨by omega, ?_, HS.pop (L := (QQ ++ MM) ++ MW) hs hb41⟩
                            rw [hwt, if_neg hm1, List.append_nil]
                            exact hbW
                          · omega
                      · obtain hrn2 : r = nT := by omega
                        rw [List.take_of_length_le (by omega)] at hbW
                        obtain ⟨wt, hwt⟩ : ∃ wt, wt = T.filter fun x => decide (x.track = id) := ⟨_, rfl⟩
                        have hwl : wt.length ≤ nT := by rw [hwt, hnT]; exact List.length_filter_le ..
                        rw [← hwt] at hbW halone
                        obtain ⟨aw, cw, rfl, _⟩ := hbW.slice
                        have h0 : HS w0 w (gbs BA far A.vA A.MA A.gz.length mA esA ckA A.gzA ++ (gbs B far A.v A.M A.gz.length m W1.es W1.ck A.gz ++ (gxs far gs' ++ (K ++ (RY ++ (MM ++ MW)))))) := by
                          rw [hQQ] at hs
                          rw [← hGA]
                          exact HS.re hs (fun c => by simp only [List.map_append, List.map_cons, List.map_nil, List.sum_append, List.sum_cons, List.sum_nil]; omega)
                        clear hs
                        have hs := h0
                        clear h0
                        have hoR9 : Own w0 (gbs B far A.v A.M A.gz.length m W1.es W1.ck A.gz ++ (gxs far gs' ++ (K ++ (RY ++ (MM ++ MW))))) := hGo.app (hXo'.app (hKo.app (hRYo.app (hbM.own.app hbW.own))))
                        refine W_seq ?_
                        refine W_region ?_
                        first | refine L_lss rfl rfl rfl (dtrue (by omega)) ?_ | refine L_lss rfl rfl rfl (dfalse (by omega)) ?_ | refine L_lss rfl rfl rfl rfl ?_
                        refine RL_then ?_
                        refine W_seq ?_
                        refine W_if_false rfl ?_
                        refine W_exit' ?_
                        refine Ex_then_exit ?_
                        refine Ex_loop_exit ?_
                        refine Ex_block_hit ?_
                        refine Nx_then ?_
                        refine W_seq ?_
                        refine W_region ?_
                        refine L_move rfl rfl ?_
                        refine L_fieldAddr rfl (off := 0) Try.underlying46 rfl rfl Try.ti23 rfl ?_
                        refine L_load rfl Try.one23 rfl (by exact HS.cellM hs (List.mem_append_right _ (List.mem_append_right _ (List.mem_append_right _ (List.mem_append_right _ (List.mem_append_left _ hRYb))))) rfl) ?_
                        refine L_move rfl rfl ?_
                        refine L_call rfl Try.fun15 rfl (watchG w0 w BA far A.vA A.MA (gbs B far A.v A.M A.gz.length m W1.es W1.ck A.gz ++ (gxs far gs' ++ (K ++ (RY ++ (MM ++ MW))))) A.gz.length mA esA ckA A.gzA l.time am nm cm mi hs hNA hoR9 (fun w' L' hs' ho hL => hbM.slm hs' (fun p hp => hL p (List.mem_append_right _ (List.mem_append_right _ (List.mem_append_right _ (List.mem_append_right _ (List.mem_append_left _ hp))))))) (by omega) hnm.symm (by omega)) ?_
                        rintro _ w9 ⟨N9, hs', hn9, hNA9, hel9⟩
                        obtain ⟨a9, c9, rfl, _⟩ := hn9.slice
                        obtain ⟨WA, hWA⟩ : ∃ WA, WA = watchF far l.time A.gzA esA ckA mi := ⟨_, rfl⟩
                        rw [← hWA] at hs' hn9 hNA9 hel9 halone hVA1 hZA1
                        rw [← hWA]
                        obtain ⟨hal1, hal2⟩ := halone
                        rw [hal1] at hn9
                        rw [hal1]
                        clear hs
                        have hs := hs'
                        clear hs'
                        refine L_move rfl rfl ?_
                        refine L_call rfl Try.fun20 rfl (alarms_ok a9 aw wt.length wt.length c9 cw wt wt w9 (hn9.slm hs (fun p hp => List.mem_append_right _ hp)) (hbW.slm hs (fun p hp => List.mem_append_left _ (List.mem_append_right _ (List.mem_append_right _ (List.mem_append_right _ (List.mem_append_right _ (List.mem_append_right _ (List.mem_append_right _ hp)))))))) rfl rfl (by omega)) ?_
                        rintro _ w10 ⟨rfl, hs'⟩
                        rw [alsB_self]
                        have h0 : HS w0 w10 (gbs B far A.v A.M A.gz.length m W1.es W1.ck A.gz ++ (gbs BA far A.vA A.MA A.gz.length mA WA.es WA.ck A.gzA ++ (gxs far gs' ++ K))) := HS.dropR (M := (RY ++ (MM ++ MW)) ++ N9) (HS.re (hs.nil hs') (fun c => by simp only [List.map_append, List.map_cons, List.map_nil, List.sum_append, List.sum_cons, List.sum_nil]; omega)) ((hRYo.app (hbM.own.app hbW.own)).app hn9.own)
                        clear hs hs'
                        have hs := h0
                        clear h0
                        refine L_not rfl rfl ?_
                        refine RL_then ?_
                        refine W_if_false rfl ?_
                        refine W_skip' ?_
                        refine Nx_block ?_
                        refine Nx_then ?_
                        refine W_region ?_
                        first | refine L_add rfl rfl rfl (wrp_i64 (by omega)) ?_ | refine L_add rfl rfl rfl rfl ?_
                        refine L_move rfl rfl ?_
                        refine RL_nil' ?_
                        refine Nx_loopP (i + 1, W1.es, W1.ck, WA.es, WA.ck, gs', _) (is := [5, 13, 15, 17, 18, 126, 127, 128]) (I' := (fun (i : Nat) (es : List KE) (ck : Nat) (esA : List KE) (ckA : Nat) (gs : List GX) (w : World) => (i ≤ nl) ∧ (VOk es) ∧ (∀ x ∈ es, ∃ z ∈ A.gz, z.num = x.1.1) ∧ (es.length ≤ 64 * tkS ls i) ∧ (VOk esA) ∧ (∀ x ∈ esA, ∃ z ∈ A.gzA, z.num = x.1.1) ∧ (esA.length ≤ 64 * tkS ls i) ∧ (RelA es esA id) ∧ (gps gs = gps A.gs) ∧ (∀ j, j < A.gz.length → XOk w0 bg back (A.gz.getD j zn0) es j (64 * tkS ls i) (gs.getD j gx0)) ∧ (GOk w0 B A.v A.M m es ck A.gz) ∧ (GOk w0 BA A.vA A.MA mA esA ckA A.gzA) ∧ (HS w0 w (gbs B far A.v A.M A.gz.length m es ck A.gz ++ (gbs BA far A.vA A.MA A.gz.length mA esA ckA A.gzA ++ (gxs far gs ++ K))))) (i + 1) (W1.es) (W1.ck) (WA.es) (WA.ck) (gs') (_)) rfl rfl rfl ?_ ?_
                        · exact ⟨by omega, hV1, hZ1, by omega, hVA1, hZA1, by omega, hal2, hgp', fun j hj => hX1 j (by omega), hN1, hNA9, hs⟩
                        · omega
          · refine W_seq ?_
            refine W_region ?_
            first | refine L_lss rfl rfl rfl (dtrue (by omega)) ?_ | refine L_lss rfl rfl rfl (dfalse (by omega)) ?_ | refine L_lss rfl rfl rfl rfl ?_
            refine RL_then ?_
            refine W_seq ?_
            refine W_if_false rfl ?_
            refine W_exit' ?_
            refine Ex_then_exit ?_
            refine Ex_loop_exit ?_
            refine Ex_block_hit ?_
            refine Nx_then ?_
            refine W_seq ?_
            refine W_region ?_
            refine L_assign rfl rfl ?_
            refine RL_then ?_
            refine W_ret' ?_
            refine Ex_done1 rfl rfl ?_
            exact ⟨_, rfl, rfl, hs.forget (hN.owns.app (hNA.owns.app (hXo.app hKo)))⟩
  · first | refine L_pick_t rfl rfl rfl ?_ | refine L_pick_f rfl rfl rfl ?_
    refine L_move rfl rfl ?_
    first | (refine RL_want rfl rfl ?_; refine L_move rfl rfl ?_) | refine RL_skip rfl rfl rfl rfl ?_ | refine RL_skipU rfl rfl rfl ?_
    first | (refine RL_want rfl rfl ?_; refine L_len rfl Try.underlying31 rfl ?_) | refine RL_skip rfl rfl rfl rfl ?_ | refine RL_skipU rfl rfl rfl ?_
    first | (refine RL_want rfl rfl ?_; (first | refine L_gtr rfl rfl rfl (dtrue (by omega)) ?_ | refine L_gtr rfl rfl rfl (dfalse (by omega)) ?_ | refine L_gtr rfl rfl rfl rfl ?_)) | refine RL_skip rfl rfl rfl rfl ?_ | refine RL_skipU rfl rfl rfl ?_
    first | refine L_pick_t rfl rfl rfl ?_ | refine L_pick_f rfl rfl rfl ?_
    refine RL_then ?_
    refine W_if_true rfl ?_
    refine W_seq ?_
    refine W_region ?_
    refine L_call rfl Try.fun8 rfl (works_ok w2) ?_
    rintro _ w3 ⟨rfl, hs'⟩
    have hs2 := hs.nil hs'
    refine L_assign rfl rfl ?_
    refine RL_then ?_
    refine W_ret' ?_
    refine Ex_then_ret ?_
    refine Ex_done1 rfl rfl ?_
    exact ⟨_, rfl, rfl, hs2⟩
  · first | refine L_pick_t rfl rfl rfl ?_ | refine L_pick_f rfl rfl rfl ?_
    refine L_move rfl rfl ?_
    first | (refine RL_want rfl rfl ?_; refine L_move rfl rfl ?_) | refine RL_skip rfl rfl rfl rfl ?_ | refine RL_skipU rfl rfl rfl ?_
    first | (refine RL_want rfl rfl ?_; refine L_len rfl Try.underlying31 rfl ?_) | refine RL_skip rfl rfl rfl rfl ?_ | refine RL_skipU rfl rfl rfl ?_
    first | (refine RL_want rfl rfl ?_; (first | refine L_gtr rfl rfl rfl (dtrue (by omega)) ?_ | refine L_gtr rfl rfl rfl (dfalse (by omega)) ?_ | refine L_gtr rfl rfl rfl rfl ?_)) | refine RL_skip rfl rfl rfl rfl ?_ | refine RL_skipU rfl rfl rfl ?_
    first | refine L_pick_t rfl rfl rfl ?_ | refine L_pick_f rfl rfl rfl ?_
    refine RL_then ?_
    refine W_if_true rfl ?_
    refine W_seq ?_
    refine W_region ?_
    refine L_call rfl Try.fun8 rfl (works_ok w2) ?_
    rintro _ w3 ⟨rfl, hs'⟩
    have hs2 := hs.nil hs'
    refine L_assign rfl rfl ?_
    refine RL_then ?_
    refine W_ret' ?_
    refine Ex_then_ret ?_
    refine Ex_done1 rfl rfl ?_
    exact ⟨_, rfl, rfl, hs2⟩
end Go.Proofs.Ytoiobncojfeoiaa
