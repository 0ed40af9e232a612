/-
  A part of the proof: laws for walks, and plain laws, over any program of the model. Each theorem holds under its own premises alone.
-/
import Derived.Test.YtffobakdngbadaaGreatKit
import Derived.Test.YtffobakdngbadaaGreatP16
import Derived.Test.YtffobakdngbadaaGreatP11
namespace Go.Proofs.YtffobakdngbadaaGreat
open Go Go.Lk
theorem jgU {β : Type} {c : β -> List Value} {sz : Nat} (hc : ∀ b, (c b).length = sz) : ∀ xs : List β, (xs.flatMap c).length = xs.length * sz
 | [] => by simp
 | x :: xs => by rw [List.flatMap_cons, List.length_append, hc, jgU hc xs, List.length_cons, Nat.add_mul]; omega
theorem jr7 {β : Type} {c : β -> List Value} {sz : Nat} (hc : ∀ b, (c b).length = sz) {xs : List β} {o : β} {sp : List Value} {i : Nat} (h : i < xs.length) :
  (xs.flatMap c ++ sp).take (i * sz) ++ c o ++ (xs.flatMap c ++ sp).drop (i * sz + (c o).length) = (xs.set i o).flatMap c ++ sp := by
 obtain ⟨X, Y, o0, e, hl, e'⟩ := set_split (o := o) h
 rw [e', e, hc]
 have hX := jgU hc X
 rw [hl] at hX
 have ee : ∀ q, (X ++ q :: Y).flatMap c ++ sp = X.flatMap c ++ (c q ++ (Y.flatMap c ++ sp)) := fun q => by simp only [List.flatMap_append, List.flatMap_cons, List.append_assoc]
 rw [ee, ee, List.take_left' hX, <- List.append_assoc (X.flatMap c) (c o0), List.drop_left' (by rw [List.length_append, hX, hc]), List.append_assoc]
theorem Bl.funG {β : Type} {c : β -> List Value} {sz : Nat} (hc : ∀ b, (c b).length = sz) {w0 : World} {E : TypeId} {al : Option Addr} {m cl : Nat} {xs : List β} {M : Bks} (h : Bl w0 E sz (.slice al m cl) m (xs.flatMap c) M) :
  ∃ lf : List β -> Bks, M = lf xs /\ (∀ ys, ys.length = m -> Bl w0 E sz (.slice al m cl) m (ys.flatMap c) (lf ys)) /\ (0 < m -> ∃ g sp, al = some ⟨g, 0, none⟩ /\ lf = fun ys => [(g, Row E (ys.flatMap c ++ sp))]) := by
 obtain ⟨v, hv⟩ : ∃ v, v = Value.slice al m cl := ⟨_, rfl⟩
 obtain ⟨cs, hcs⟩ : ∃ cs, cs = xs.flatMap c := ⟨_, rfl⟩
 rw [<- hv, <- hcs] at h
 cases h with
 | nil =>
  injection hv with h1 h2 h3
  subst h1 h3
  refine ⟨fun _ => [], rfl, fun ys hy => ?_, fun h => absurd h (by decide)⟩
  rw [List.eq_nil_of_length_eq_zero hy]; exact .nil
 | row hg hx hcc hn =>
  rename_i g cap sp
  injection hv with h1 h2 h3
  subst h1 h3
  refine ⟨fun ys => [(g, Row E (ys.flatMap c ++ sp))], by rw [hcs], fun ys hl => ?_, fun _ => ⟨g, sp, rfl, rfl⟩⟩
  refine .row hg (by rw [jgU hc, hl]) ?_ hn
  rw [List.length_append, jgU hc, hl]
  rw [List.length_append, hx] at hcc
  exact hcc
theorem BEq.find {k d : Bok} (h : BEq k d) {o : On} (ho : o ∈ d.os) : ∃ u ∈ k.os, OEq u o := All2.right h.os o ho
theorem BEq.none {k d : Bok} (h : BEq k d) {id : Int} (hn : ∀ o ∈ d.os, o.t.id ≠ id) : ∀ u ∈ k.os, u.t.id ≠ id := fun u hu e => by
 obtain ⟨o, ho, he⟩ := All2.left h.os u hu
 exact hn o ho (he.t.id.symm.trans e)
theorem BEq.out {k d : Bok} (h : BEq k d) (id : Int) : BEq { k with os := jeQ id k.os } { d with os := jeQ id d.os } :=
 ⟨h.r, All2.filt (fun a b h => by rw [h.t.id]) h.os, h.next, h.last⟩
theorem BEq.trks {k d : Bok} (h : BEq k d) : All2 TEq (k.os.map On.t) (d.os.map On.t) := by
 have : ∀ {l m : List On}, All2 OEq l m -> All2 TEq (l.map On.t) (m.map On.t) := fun {l m} h => by
  induction h with
  | nil => exact .nil
  | cons a _ ih => exact .cons a.t ih
 exact this h.os
def HL (k : Bok) : Prop := ∀ o ∈ k.os, o.xs.length = o.ys.length
theorem NewsTo.HL {r : Rul} {time : Nat} {ps : List Pq} {s u : NS} {j : Nat} (h : NewsTo r time ps s j u) (h0 : ∀ o ∈ s.os, o.xs.length = o.ys.length) : ∀ o ∈ u.os, o.xs.length = o.ys.length := by
 induction h with
 | zero => exact h0
 | old _ _ ih => exact ih
 | new _ _ _ _ hx hy ih =>
  intro o ho
  rcases List.mem_append.1 ho with ho | ho
  ·
   exact ih o ho
  obtain rfl := List.mem_singleton.1 ho
  rw [hx, hy]; rfl
theorem StepTo.HL {k k' : Bok} {time : Nat} {l : List Plt} {told : List Int} {os2 : List On} {ps : List Pq} {ms : List Int} {os3 : List On} (hk : HL k) (h : StepTo k time l k' told os2 ps ms os3) : HL k' := by
 refine NewsTo.HL h.news ?_
 intro o ho
 obtain ⟨z, hz, _, _, _, _, _, e1, e2⟩ := All2.right h.hits o ho
 obtain ⟨o2, ho2, _, _, _, _, e3⟩ := All2.right h.ahead z.1 (List.of_mem_zip (show (z.1, z.2) ∈ _ from hz)).1
 have h2 := hk o2 (List.mem_filter.1 ho2).1
 have h3 : z.1.xs.length = z.1.ys.length := by rw [e3]; exact h2
 rw [e1, e2]; exact (capL_len h3.symm _ _).symm
theorem StpU.HL {k k' : Bok} {time : Nat} {l : List Plt} {told : List Int} {er : Int} (hk : HL k) (h : StpU k time l k' told er) : HL k' := by
 rcases h with ⟨_, _, rfl⟩ | ⟨_, _, _, _, _, _, h⟩
 ·
  exact hk
 exact StepTo.HL hk h
theorem HL.out {k : Bok} (hk : HL k) (id : Int) : HL { k with os := jeQ id k.os } := fun o ho => hk o (jqY o ho)
def PastIs (k : Bok) (id : Int) (X Y : List Stt) : Prop := (∃ o ∈ k.os, o.t.id = id /\ X = o.xs /\ Y = o.ys) ∨ ((∀ o ∈ k.os, o.t.id ≠ id) /\ X = [] /\ Y = [])
theorem PastIs.eq {k d : Bok} (h : BEq k d) {id : Int} {X Y : List Stt} (hp : PastIs d id X Y) : ∃ X' Y', PastIs k id X' Y' /\ X'.map Stt.c = X.map Stt.c /\ Y'.map Stt.c = Y.map Stt.c := by
 rcases hp with ⟨o, ho, e, rfl, rfl⟩ | ⟨hn, rfl, rfl⟩
 ·
  obtain ⟨u, hu, he⟩ := h.find ho
  exact ⟨u.xs, u.ys, .inl ⟨u, hu, he.t.id.trans e, rfl, rfl⟩, he.xs, he.ys⟩
 exact ⟨[], [], .inr ⟨h.none hn, rfl, rfl⟩, rfl, rfl⟩
theorem dpastU (w0 w : World) (N : Nat) (d : Dbk) (L : Bks) (id : Int) (hs : HS w0 w (d.bks ++ L)) (hd : d.ok w0 N) :
  Ret Tryz.prog 24 [bv d.B, .int .i64 id] w fun v w' => ∃ vx vy X Y MX MY, v = .tuple #[vx, vy] /\ HS w0 w' (d.bks ++ L) /\ PastIs d.k id X Y /\ Bo w0 48 5 vx X.length (scs X) MX /\ Bo w0 48 5 vy Y.length (scs Y) MY /\ (∀ p ∈ MX, p ∈ d.bks) /\ (∀ p ∈ MY, p ∈ d.bks) /\ X.length <= N := by
 refine Ret.imp' (dpast_ok w0 w N d L id hs hd) ?_
 rintro v w' ⟨⟨o, ho, e, rfl⟩ | ⟨hn, rfl⟩, h⟩
 ·
  have hsub : ∀ p ∈ oM o, p ∈ d.bks := fun p hp => List.mem_cons_of_mem _ (List.mem_append_right _ (List.mem_flatMap.2 ⟨o, ho, hp⟩))
  exact ⟨_, _, o.xs, o.ys, o.Mx, o.My, rfl, h, .inl ⟨o, ho, e, rfl, rfl⟩, (hd.each o ho).bx, (hd.each o ho).by', fun p hp => hsub p (List.mem_append_left _ hp), fun p hp => hsub p (List.mem_append_right _ hp), (hd.hist o ho).1⟩
 exact ⟨_, _, [], [], [], [], rfl, h, .inr ⟨hn, rfl, rfl⟩, .nil, .nil, fun _ h => (by cases h), fun _ h => (by cases h), Nat.zero_le _⟩
theorem pastU (w0 w : World) (N : Nat) (k : Bok) (L : Bks) (id : Int) (X Y : List Stt) (hs : HS w0 w (k.bks ++ L)) (hk : k.ok w0 N) (hL : Own w0 L) (hn : N <= 1000000) (hp : PastIs k id X Y) :
  Ret Tryz.prog 14 [bv k.B, .int .i64 id] w fun v w' => ∃ vx Mx vy My, v = .tuple #[vx, vy] /\ HS w0 w' (k.bks ++ L ++ (Mx ++ My)) /\ Bl w0 48 5 vx X.length (scs X) Mx /\ Bl w0 48 5 vy Y.length (scs Y) My := by
 rcases hp with ⟨o, ho, rfl, rfl, rfl⟩ | ⟨hno, rfl, rfl⟩
 ·
  exact past_some w0 w N k L o hs hk ho hL hn
 refine Ret.imp' (past_none w0 w N k L id hs hk hno) ?_
 rintro v w' ⟨rfl, h⟩
 exact ⟨_, [], _, [], rfl, by rw [List.append_nil, List.append_nil]; exact h, .nil, .nil⟩
theorem PastIs.len {k : Bok} {id : Int} {X Y : List Stt} (hk : HL k) (hp : PastIs k id X Y) : X.length = Y.length := by
 rcases hp with ⟨o, ho, _, rfl, rfl⟩ | ⟨_, rfl, rfl⟩
 ·
  exact hk o ho
 rfl
def s7 : Stt := ⟨13842939354630062080, 0, 0, 0, 0⟩
def t9 : Trk := { trk0 with id := -9 }
def s8 : Stt := ⟨13844065254536904704, 0, 0, 0, 0⟩
structure MvIn (w0 : World) (N : Nat) (k : Bok) (d : Dbk) (m : Mv) (L : Bks) : Prop where
 ob : k.ok w0 N
 od : d.ok w0 N
 eq : BEq k d.k
 hl : HL k
 N : N + 1 <= 4096
 own : Own w0 L
 pl : ∀ w' L', HS w0 w' L' -> Own w0 L' -> (∀ p ∈ L, p ∈ L') -> SlC w' m.a (pcs m.ps)
 len2 : m.ps.length <= 900000
 lt : ∀ i, i < m.ps.length -> PltLt (m.ps.getD i plt0)
 time : m.time < 18446744073709551616
 next : k.next + 256 <= 1000000
set_option maxHeartbeats 4000000 in
theorem move_ok (w0 w : World) (N : Nat) (k : Bok) (d : Dbk) (m : Mv) (L : Bks) (hs : HS w0 w (k.bks ++ (d.bks ++ L))) (hI : MvIn w0 N k d m L) :
  Ret Tryz.prog 9 [bv k.B, bv d.B, .agg m.cells.toArray] w fun v w' => v = .bool true /\ ∃ (k' : Bok) (d' : Dbk), k'.ok w0 (N + 1) /\ d'.ok w0 (N + 1) /\ BEq k' d'.k /\ HL k' /\ k'.B = k.B /\ d'.B = d.B /\ k'.r = k.r /\ k'.next <= k.next + 256 /\ HS w0 w' (k'.bks ++ (d'.bks ++ L)) /\ (m.q ≠ 0 -> m.q ≠ 1 -> k' = k /\ d' = d) := by
 have hk := hI.ob
 have hd := hI.od
 have hN := hI.N
 have hbe := hI.eq
 obtain ⟨id, hid⟩ : ∃ id, id = m.id := ⟨_, rfl⟩
 refine ja7 Tryz.func9 rfl rfl rfl (Wq (jeH rfl hs rfl ?_))
 intro b5 w hb5 hnb5 hs
 dsimp only [sS, sZ, sA, sN] at hs
 obtain ⟨L5, hL5⟩ : ∃ L5, L5 = L ++ [(b5, Row 38 m.cells)] := ⟨_, rfl⟩
 have hL5o : Own w0 L5 := by rw [hL5]; exact hI.own.app (Own.cons hb5 Own.nil)
 replace hs : HS w0 w (k.bks ++ (d.bks ++ L5)) := by
  have h1 : HS w0 w ((k.bks ++ (d.bks ++ L)) ++ [(b5, Row 38 m.cells)]) := hs
  rw [hL5]; exact HS.re h1 (fun c => by simp only [mpA, mpC, mpN, smA, smC, smN]; omega)
 have h5L : (b5, Row 38 m.cells) ∈ L5 := by rw [hL5]; exact List.mem_append_right _ (List.mem_singleton.2 rfl)
 have hLL5 : ∀ p ∈ L, p ∈ L5 := fun p hp => by rw [hL5]; exact List.mem_append_left _ hp
 have hmI : ∀ {w' : World} {L' : Bks}, HS w0 w' L' -> (∀ p ∈ L5, p ∈ L') -> w'.cell? ((Addr.mk b5 0 none).add 3) = some (.int .i64 id) := fun h1 h2 => jb6 h1 (h2 _ h5L) (by rw [hid]; rfl)
 have hin1 : ∀ {A : Bks}, ∀ p ∈ L5, p ∈ A ++ (d.bks ++ L5) := fun {A} p hp => List.mem_append_right _ (List.mem_append_right _ hp)
 have hdrop : ∀ {w' : World} {A B : Bks}, HS w0 w' (A ++ (B ++ L5)) -> HS w0 w' (A ++ (B ++ L)) := fun {w' A B} h => by
  rw [hL5, <- List.append_assoc, <- List.append_assoc, List.append_assoc A] at h
  exact HS.dropR h (Own.cons hb5 Own.nil)
 have hmore1 := hk.more (Nat.le_succ N)
 have hmore2 := hd.more (Nat.le_succ N)
 have hnx0 : k.next <= k.next + 256 := by omega
 refine La rfl (Rqq (Lf 0 u_38 rfl i_3 (Ll o_3 rfl (by exact jb6 hs (hin1 _ h5L) (j := 0) rfl) ?_)))
 refine Rt (ja4 (Wq (jdS rfl rfl (La rfl (Rt ?_)))))
 by_cases h0 : m.q = 0
 ·
  refine jcG 22 (v' := .bool true) rfl ((congrArg Value.bool (decide_eq_true h0))) (Wt rfl (Wq (Lmm rfl rfl (Lf 1 u_38 rfl jaS (Ll jb5 rfl (by exact jb6 hs (hin1 _ h5L) (j := 1) rfl) ?_)))))
  refine Lf 2 u_38 rfl i_36 (Ll o_36 rfl (by exact jb6 hs (hin1 _ h5L) (j := 2) rfl) ?_)
  refine Lc f_11 rfl (lstep_ok w0 w N m.ps.length k d m.time m.a m.c m.ps L5 hs ⟨hk, hd, hbe, hN, hL5o, fun w' L' h1 h2 h3 => hI.pl w' L' h1 h2 (fun p hp => h3 p (hLL5 p hp)), rfl, hI.len2, hI.lt, hI.time, hI.next⟩) ?_
  rintro _ w1 ⟨rfl, k', d', hk', hd', hbe', hkB, hdB, hkr, hkn, hs1, told, hU⟩
  refine La rfl (Rt (jaW (jaG (ja2 (ja9 rfl rfl ?_)))))
  exact ⟨_, rfl, rfl, k', d', hk', hd', hbe', StpU.HL hI.hl hU, hkB, hdB, hkr, hkn, hdrop hs1, fun h => absurd h0 h⟩
 refine jcG 22 (v' := .bool false) rfl ((congrArg Value.bool (decide_eq_false h0))) (Wf rfl ?_)
 by_cases h1 : m.q = 1
 ·
  refine Wq (jdS rfl (jaF (by omega)) ?_)
  refine La rfl (Rt (Wt rfl (Wq (Lm rfl (Lf 3 u_38 rfl i_3 (Ll o_3 rfl (by exact hmI hs hin1) ?_))))))
  obtain ⟨Ld, hLd⟩ : ∃ Ld, Ld = k.bks ++ L5 := ⟨_, rfl⟩
  have hLdo : Own w0 Ld := by rw [hLd]; exact hk.own.app hL5o
  have hsd : HS w0 w (d.bks ++ Ld) := by rw [hLd]; exact HS.re hs (fun c => by simp only [mpA, mpC, mpN, smA, smC, smN]; omega)
  clear hs
  refine Lc f_21 rfl (ddrop_ok w0 w N d Ld id hsd hd hLdo) ?_
  rintro _ w1 (⟨⟨o, ho, hoid⟩, rfl, d', hdB, hdk, hd', hs1⟩ | ⟨hno, rfl, hs1⟩)
  ·
   obtain ⟨u, hu, he⟩ := hbe.find ho
   obtain ⟨Lk, hLk⟩ : ∃ Lk, Lk = d'.bks ++ L5 := ⟨_, rfl⟩
   have hs : HS w0 w1 (k.bks ++ Lk) := by rw [hLk]; rw [hLd] at hs1; exact HS.re hs1 (fun c => by simp only [mpA, mpC, mpN, smA, smC, smN]; omega)
   clear hs1 hsd
   have hin2 : ∀ p ∈ L5, p ∈ k.bks ++ Lk := fun p hp => by rw [hLk]; exact List.mem_append_right _ (List.mem_append_right _ hp)
   have huid : u.t.id = id := he.t.id.trans hoid
   refine La rfl (Rq (Lm rfl (Lf 3 u_38 rfl i_3 (Ll o_3 rfl (by exact hmI hs hin2) ?_))))
   have hR := drop_some w0 w1 N k Lk u hs hk hu
   rw [huid] at hR
   refine Lc f_16 rfl (hR) ?_
   rintro _ w2 ⟨rfl, hs1⟩
   refine Lm rfl (jdS rfl (jaF (by omega)) ?_)
   refine La rfl (Rt (jaW (jaG (ja2 (ja9 rfl rfl ?_)))))
   rw [hLk] at hs1
   have hbe' : BEq { k with os := jeQ id k.os } d'.k := by rw [hdk]; exact hbe.out id
   exact ⟨_, rfl, rfl, { k with os := jeQ id k.os }, d', (Bok.ok.out hk id).more (Nat.le_succ N), hd'.more (Nat.le_succ N), hbe', HL.out hI.hl id, rfl, hdB, rfl, hnx0, hdrop hs1, fun _ h => absurd h1 h⟩
  obtain ⟨Lk, hLk⟩ : ∃ Lk, Lk = d.bks ++ L5 := ⟨_, rfl⟩
  have hs : HS w0 w1 (k.bks ++ Lk) := by rw [hLk]; rw [hLd] at hs1; exact HS.re hs1 (fun c => by simp only [mpA, mpC, mpN, smA, smC, smN]; omega)
  clear hs1 hsd
  have hin2 : ∀ p ∈ L5, p ∈ k.bks ++ Lk := fun p hp => by rw [hLk]; exact List.mem_append_right _ (List.mem_append_right _ hp)
  refine La rfl (Rq (Lm rfl (Lf 3 u_38 rfl i_3 (Ll o_3 rfl (by exact hmI hs hin2) ?_))))
  refine Lc f_16 rfl (drop_none w0 w1 N k Lk id hs hk (hbe.none hno)) ?_
  rintro _ w2 ⟨rfl, hs1⟩
  refine Lm rfl (jdS rfl (jaF (by omega)) ?_)
  refine La rfl (Rt (jaW (jaG (ja2 (ja9 rfl rfl ?_)))))
  rw [hLk] at hs1
  exact ⟨_, rfl, rfl, k, d, hmore1, hmore2, hbe, hI.hl, rfl, rfl, rfl, hnx0, hdrop hs1, fun _ _ => ⟨rfl, rfl⟩⟩
 refine Wq (jdS rfl (jaA (by omega)) ?_)
 refine La rfl (Rt (Wf rfl ?_))
 by_cases h2 : m.q = 2
 ·
  refine Wq (jdS rfl (jaF (by omega)) ?_)
  refine La rfl (Rt (Wt rfl (Wq (Lm rfl (Lf 3 u_38 rfl i_3 (Ll o_3 rfl (by exact hmI hs hin1) ?_))))))
  obtain ⟨Ld, hLd⟩ : ∃ Ld, Ld = k.bks ++ L5 := ⟨_, rfl⟩
  have hLdo : Own w0 Ld := by rw [hLd]; exact hk.own.app hL5o
  have hsd : HS w0 w (d.bks ++ Ld) := by rw [hLd]; exact HS.re hs (fun c => by simp only [mpA, mpC, mpN, smA, smC, smN]; omega)
  clear hs
  have hR : Ret Tryz.prog 22 [bv d.B, .int .i64 id] w fun v w' => ∃ (g t : Trk) (is : Bool), v = .tuple #[.agg t.cells.toArray, .bool is] /\ TEq g t /\ HS w0 w' (d.bks ++ Ld) /\ ∀ (w1 : World) (Lk : Bks), HS w0 w1 (k.bks ++ Lk) -> Ret Tryz.prog 15 [bv k.B, .int .i64 id] w1 fun v w' => v = .tuple #[.agg g.cells.toArray, .bool is] /\ HS w0 w' (k.bks ++ Lk) := by
   refine Ret.imp' (dget_ok w0 w N d Ld id hsd hd) ?_
   rintro v w' ⟨⟨o, ho, hoid, rfl⟩ | ⟨hno, rfl⟩, hs1⟩
   ·
    obtain ⟨u, hu, he⟩ := hbe.find ho
    refine ⟨u.t, o.t, true, rfl, he.t, hs1, fun w1 Lk h1 => ?_⟩
    have h2 := get_some w0 w1 N k Lk u h1 hk hu
    rw [he.t.id.trans hoid] at h2
    exact h2
   exact ⟨trk0, trk0, false, rfl, TEq.refl _, hs1, fun w1 Lk h1 => get_none w0 w1 N k Lk id h1 hk (hbe.none hno)⟩
  refine Lc f_22 rfl (hR) ?_
  rintro _ w1 ⟨gt, dt, is, rfl, hte, hs1, hget⟩
  clear hsd hR
  have hs := hs1
  clear hs1
  refine Lm rfl (Lx rfl rfl (Lx rfl rfl ?_))
  refine jbL rfl hs jcE ?_; intro b8 w hb8 _ hs; replace hs := HS.push hs
  refine jaQ hs (i := 0) rfl jcE rfl rfl (by rfl) (by simp [Trk.cells]) (by exact Trk.one _) ?_
  intro w hs
  dsimp only [sS, sZ, sA, sN] at hs
  replace hs : HS w0 w (k.bks ++ ((b8, Row 51 dt.cells) :: (d.bks ++ L5))) := by
   have h1 : HS w0 w ((b8, Row 51 dt.cells) :: (d.bks ++ Ld)) := hs
   rw [hLd] at h1
   exact HS.re h1 (fun c => by simp only [mpA, mpC, mpN, smA, smC, smN]; omega)
  obtain ⟨Lk, hLk⟩ : ∃ Lk, Lk = (b8, Row 51 dt.cells) :: (d.bks ++ L5) := ⟨_, rfl⟩
  rw [<- hLk] at hs
  have hin2 : ∀ p ∈ L5, p ∈ k.bks ++ Lk := fun p hp => by rw [hLk]; exact List.mem_append_right _ (List.mem_cons_of_mem _ (List.mem_append_right _ hp))
  have h8L : (b8, Row 51 dt.cells) ∈ k.bks ++ Lk := by rw [hLk]; exact List.mem_append_right _ (List.mem_cons_self ..)
  refine La rfl (Rq (Lm rfl (Lf 3 u_38 rfl i_3 (Ll o_3 rfl (by exact hmI hs hin2) ?_))))
  refine Lc f_15 rfl (hget w Lk hs) ?_
  rintro _ w1 ⟨rfl, hs1⟩
  clear hs
  have hs := hs1
  clear hs1
  refine Lm rfl (Lx rfl rfl (Lx rfl rfl ?_))
  refine jbL rfl hs jcE ?_; intro b10 w hb10 _ hs; replace hs := HS.push hs
  refine jaQ hs (i := 0) rfl jcE rfl rfl (by rfl) (by simp [Trk.cells]) (by exact Trk.one _) ?_
  intro w hs
  dsimp only [sS, sZ, sA, sN] at hs
  replace hs : HS w0 w ((b10, Row 51 gt.cells) :: (k.bks ++ Lk)) := hs
  refine La rfl (Rq (Lmm rfl rfl (jaT rfl (R_beql u_4 rfl rfl) (je7 61 (v' := .bool true) rfl ((by cases is <;> rfl)) ?_))))
  refine Lm rfl (Rw rfl (jb7 rfl a_51 jcE rfl (by exact jaE (cs := gt.cells) (hs.get (i := 0) rfl)) ?_))
  refine Rw rfl (jb7 rfl a_51 jcE rfl (by exact jaE (cs := dt.cells) (hs.has _ (List.mem_cons_of_mem _ h8L))) ?_)
  refine Rw rfl (Lc f_23 rfl (jmD gt dt hte w) ?_)
  rintro _ w1 ⟨rfl, hs'⟩
  have hs1 := hs.nil hs'
  clear hs hs'
  have hs := HS.pop hs1 hb10
  clear hs1
  refine Lpt rfl (La rfl (Rt (jaW (jaG (ja2 (ja9 rfl rfl ?_))))))
  have hs1 : HS w0 w1 (k.bks ++ (d.bks ++ L5)) := by
   rw [hLk] at hs
   have h1 : HS w0 w1 ((b8, Row 51 dt.cells) :: (k.bks ++ (d.bks ++ L5))) := HS.re hs (fun c => by simp only [mpA, mpC, mpN, smA, smC, smN]; omega)
   exact HS.pop h1 hb8
  exact ⟨_, rfl, rfl, k, d, hmore1, hmore2, hbe, hI.hl, rfl, rfl, rfl, hnx0, hdrop hs1, fun _ _ => ⟨rfl, rfl⟩⟩
 refine Wq (jdS rfl (jaA (by omega)) ?_)
 refine La rfl (Rt (Wf rfl ?_))
 by_cases h3 : m.q = 3
 ·
  refine Wq (jdS rfl (jaF (by omega)) ?_)
  refine La rfl (Rt (Wt rfl (Wq (Lm rfl (Lf 3 u_38 rfl i_3 (Ll o_3 rfl (by exact hmI hs hin1) ?_))))))
  obtain ⟨Ld, hLd⟩ : ∃ Ld, Ld = k.bks ++ L5 := ⟨_, rfl⟩
  have hLdo : Own w0 Ld := by rw [hLd]; exact hk.own.app hL5o
  have hsd : HS w0 w (d.bks ++ Ld) := by rw [hLd]; exact HS.re hs (fun c => by simp only [mpA, mpC, mpN, smA, smC, smN]; omega)
  clear hs
  refine Lc f_24 rfl (dpastU w0 w N d Ld id hsd hd) ?_
  rintro _ w1 ⟨vX, vY, X, Y, MX, MY, rfl, hs1, hpi, hbX, hbY, hMX, hMY, hXN⟩
  clear hsd
  obtain ⟨Lk, hLk⟩ : ∃ Lk, Lk = d.bks ++ L5 := ⟨_, rfl⟩
  have hLko : Own w0 Lk := by rw [hLk]; exact hd.own.app hL5o
  have hs : HS w0 w1 (k.bks ++ Lk) := by rw [hLk]; rw [hLd] at hs1; exact HS.re hs1 (fun c => by simp only [mpA, mpC, mpN, smA, smC, smN]; omega)
  clear hs1
  obtain ⟨X', Y', hpk, hX, hY⟩ := hpi.eq hbe
  have hXY : X'.length = Y'.length := hpk.len hI.hl
  have hXl : X'.length = X.length := by have := congrArg List.length hX; rwa [List.length_map, List.length_map] at this
  have hYl : Y'.length = Y.length := by have := congrArg List.length hY; rwa [List.length_map, List.length_map] at this
  obtain ⟨n, hn⟩ : ∃ n, n = X'.length := ⟨_, rfl⟩
  rw [show X.length = n by omega] at hbX hXN
  rw [show Y.length = n by omega] at hbY
  obtain ⟨aX, cX, rfl, _⟩ := hbX.slice
  obtain ⟨aY, cY, rfl, _⟩ := hbY.slice
  have hMXk : ∀ p ∈ MX, p ∈ Lk := fun p hp => by rw [hLk]; exact List.mem_append_left _ (hMX p hp)
  have hMYk : ∀ p ∈ MY, p ∈ Lk := fun p hp => by rw [hLk]; exact List.mem_append_left _ (hMY p hp)
  have hin2 : ∀ p ∈ L5, p ∈ k.bks ++ Lk := fun p hp => by rw [hLk]; exact List.mem_append_right _ (List.mem_append_right _ hp)
  refine Lm rfl (Lx rfl rfl (Lx rfl rfl (La rfl (La rfl (Rq (Lm rfl (Lf 3 u_38 rfl i_3 (Ll o_3 rfl (by exact hmI hs hin2) ?_))))))))
  refine Lc f_14 rfl (pastU w0 w1 N k Lk id X' Y' hs hk hLko (by omega) hpk) ?_
  rintro _ w2 ⟨vp, Mp, vq, Mq, rfl, hs1, hbp, hbq⟩
  clear hs
  have hs := hs1
  clear hs1
  rw [<- hn] at hbp
  rw [<- hXY, <- hn] at hbq
  obtain ⟨ap, cp, rfl, _⟩ := hbp.slice
  obtain ⟨aq, cq, rfl, _⟩ := hbq.slice
  obtain ⟨lf, rfl, hlfB, hlfR⟩ := Bl.funG (c := Stt.cells) (fun _ => rfl) hbp
  obtain ⟨lg, rfl, hlgB, hlgR⟩ := Bl.funG (c := Stt.cells) (fun _ => rfl) hbq
  obtain ⟨Z, hZ⟩ : ∃ Z, Z = k.bks ++ Lk := ⟨_, rfl⟩
  have hZo : Own w0 Z := by rw [hZ]; exact hk.own.app hLko
  replace hs : HS w0 w2 (Z ++ (lf X' ++ lg Y')) := by rw [hZ]; exact hs
  refine Lm rfl (Lx rfl rfl (Lx rfl rfl (La rfl (La rfl (Rqq (Lmm rfl rfl ?_))))))
  refine Lc f_25 rfl (jkB ap aX n cp cX X' X hX w2 (Bl.slcM hbp hs (fun p hp => List.mem_append_right _ (List.mem_append_left _ hp))) (Bo.slcM hbX hs (fun p hp => List.mem_append_left _ (by rw [hZ]; exact List.mem_append_right _ (hMXk p hp)))) hn.symm (by omega)) ?_
  rintro _ w3 ⟨rfl, hs'⟩
  replace hs := hs.nil hs'
  clear hs'
  refine jcP rfl (Lm rfl (Gm rfl rfl (Gm rfl rfl (Rw rfl ?_))))
  refine Lc f_25 rfl (jkB aq aY n cq cY Y' Y hY w3 (Bl.slcM hbq hs (fun p hp => List.mem_append_right _ (List.mem_append_right _ hp))) (Bo.slcM hbY hs (fun p hp => List.mem_append_left _ (by rw [hZ]; exact List.mem_append_right _ (hMYk p hp)))) (by omega) (by omega)) ?_
  rintro _ w4 ⟨rfl, hs'⟩
  replace hs := hs.nil hs'
  clear hs'
  refine Rw rfl (jcP rfl (Lpf rfl (Rt (Wf rfl (Ws (Wqq (La rfl (Rt (ja4 (jcK (fun (P : List Stt) (Q : List Stt) (i : Nat) (w : World) => [(0, bv k.B), (5, .pointer (some ⟨b5, 0, none⟩)), (12, .slice aX n cX), (13, .slice aY n cY), (14, .slice ap n cp), (15, .slice aq n cq), (16, .int .i64 i)]) (fun P Q i w => w) (fun P Q i w => (i <= n) /\ (P.length = n /\ Q.length = n) /\ (HS w0 w (Z ++ (lf P ++ lg Q)))) (fun P Q i w => n - i) (X') (Y') (0) (_) (is := [0, 5, 12, 13, 14, 15, 16]) rfl rfl ?_ ?_))))))))))
  ·
   exact ⟨Nat.zero_le _, ⟨hn.symm, by omega⟩, hs⟩
  clear hs
  intro P Q i w hI
  show W _ _ _ _ [(0, bv k.B), (5, .pointer (some ⟨b5, 0, none⟩)), (12, .slice aX n cX), (13, .slice aY n cY), (14, .slice ap n cp), (15, .slice aq n cq), (16, .int .i64 i)] w
  obtain ⟨hi, ⟨hP, hQ⟩, hs⟩ := hI
  by_cases hlt : i < n
  ·
   obtain ⟨gp, sp, rfl, hlf⟩ := hlfR (by omega)
   obtain ⟨gq, sq, rfl, hlg⟩ := hlgR (by omega)
   rw [hlf, hlg] at hs
   replace hs : HS w0 w ((gp, Row 48 (P.flatMap Stt.cells ++ sp)) :: (gq, Row 48 (Q.flatMap Stt.cells ++ sq)) :: Z) := HS.re hs (fun c => by simp only [mpA, mpC, mpN, smA, smC, smN]; omega)
   refine Wqq (Lmm rfl rfl (Le jkX rfl (jaZ rfl (jaF (by omega)) ?_)))
   refine Rt (Wt rfl (Ws (Wsq (ja4 (Wq (Lmm rfl rfl (jbE rfl rfl (Pl.builtN Tryz.pl48 rfl) (je7 101 (v' := .agg s7.cells.toArray) rfl (rfl) (LiN jkX jbP rfl (ja6 _) (by omega) rfl ?_)))))))))
   refine jaQ hs (i := 0) rfl jbP rfl rfl (by exact jaM _ _) (by rw [List.length_append, jgU (sz := 5) (fun _ => rfl)]; show i * 5 + 5 <= _; omega) (by exact Stt.one _) ?_
   intro w hs
   dsimp only [sS, sZ, sA, sN] at hs
   refine Rr (Lmm rfl rfl (jbE rfl rfl (Pl.builtN Tryz.pl48 rfl) (je7 105 (v' := .agg s8.cells.toArray) rfl (rfl) (LiN jkX jbP rfl (ja6 _) (by omega) rfl ?_))))
   refine jaQ hs (i := 1) rfl jbP rfl rfl (by exact jaM _ _) (by rw [List.length_append, jgU (sz := 5) (fun _ => rfl)]; show i * 5 + 5 <= _; omega) (by exact Stt.one _) ?_
   intro w hs
   dsimp only [sS, sZ, sA, sN] at hs
   refine Rnl (jaB (Nt (Wr (Lm rfl (jbG rfl (ja3 (by omega)) ?_)))))
   refine La rfl (Rnl ?_)
   have hs1 : HS w0 w (Z ++ (lf (P.set i s7) ++ lg (Q.set i s8))) := by
    have h1 : HS w0 w ((gp, Row 48 ((P.flatMap Stt.cells ++ sp).take (i * 5) ++ s7.cells ++ (P.flatMap Stt.cells ++ sp).drop (i * 5 + s7.cells.length))) :: (gq, Row 48 ((Q.flatMap Stt.cells ++ sq).take (i * 5) ++ s8.cells ++ (Q.flatMap Stt.cells ++ sq).drop (i * 5 + s8.cells.length))) :: Z) := hs
    rw [jr7 (c := Stt.cells) (sz := 5) (xs := P) (fun _ => rfl) (by omega), jr7 (c := Stt.cells) (sz := 5) (xs := Q) (fun _ => rfl) (by omega)] at h1
    rw [hlf, hlg]
    exact HS.re h1 (fun c => by simp only [mpA, mpC, mpN, smA, smC, smN]; omega)
   clear hs
   refine Nq (P.set i s7, Q.set i s8, i + 1, _) [0, 5, 12, 13, 14, 15, 16] rfl ?_ ?_
   ·
    dsimp only
    exact ⟨by omega, ⟨by rw [List.length_set]; exact hP, by rw [List.length_set]; exact hQ⟩, hs1⟩
   show n - (i + 1) < n - i; omega
  refine Wqq (Lmm rfl rfl (Le jkX rfl (jaZ rfl (jaA (by omega)) ?_)))
  refine Rt (Wf rfl ?_)
  have hs1 := HS.dropR hs ((hlfB P hP).own.app (hlgB Q hQ).own)
  rw [hZ] at hs1
  clear hs
  have hs := hs1
  clear hs1
  refine jaK (ja0 (ja8 (ja1 (Nt (Wq (Lm rfl (Lf 3 u_38 rfl i_3 (Ll o_3 rfl (by exact hmI hs hin2) ?_))))))))
  refine Lc f_14 rfl (pastU w0 w N k Lk id X' Y' hs hk hLko (by omega) hpk) ?_
  rintro _ w2 ⟨vp, Mp, vq, Mq, rfl, hs1, hbp, hbq⟩
  clear hs
  have hs := hs1
  clear hs1
  rw [<- hn] at hbp
  rw [<- hXY, <- hn] at hbq
  obtain ⟨bp, ep, rfl, _⟩ := hbp.slice
  obtain ⟨bq, eq, rfl, _⟩ := hbq.slice
  refine Lm rfl (Lx rfl rfl (Lx rfl rfl (La rfl (La rfl (Rq (Lmm rfl rfl (Lc f_25 rfl (jkB bp aX n ep cX X' X hX w2 (Bl.slcM hbp hs (fun p hp => List.mem_append_right _ (List.mem_append_left _ hp))) (Bo.slcM hbX hs (fun p hp => List.mem_append_left _ (List.mem_append_right _ (hMXk p hp)))) hn.symm (by omega)) ?_)))))))
  rintro _ w3 ⟨rfl, hs'⟩
  replace hs := hs.nil hs'
  clear hs'
  refine Lm rfl (Gm rfl rfl (Gm rfl rfl (Rw rfl (Lc f_25 rfl (jkB bq aY n eq cY Y' Y hY w3 (Bl.slcM hbq hs (fun p hp => List.mem_append_right _ (List.mem_append_right _ hp))) (Bo.slcM hbY hs (fun p hp => List.mem_append_left _ (List.mem_append_right _ (hMYk p hp)))) (by omega) (by omega)) ?_))))
  rintro _ w4 ⟨rfl, hs'⟩
  replace hs := hs.nil hs'
  clear hs'
  refine Lpt rfl (La rfl (Rt (jaW (jaG (ja2 (ja9 rfl rfl ?_))))))
  have hs1 := HS.dropR hs (hbp.own.app hbq.own)
  rw [hLk] at hs1
  exact ⟨_, rfl, rfl, k, d, hmore1, hmore2, hbe, hI.hl, rfl, rfl, rfl, hnx0, hdrop hs1, fun _ _ => ⟨rfl, rfl⟩⟩
 refine Wq (jdS rfl (jaA (by omega)) ?_)
 refine La rfl (Rt (Wf rfl ?_))
 obtain ⟨Lk, hLk⟩ : ∃ Lk, Lk = d.bks ++ L5 := ⟨_, rfl⟩
 have hLko : Own w0 Lk := by rw [hLk]; exact hd.own.app hL5o
 rw [<- hLk] at hs
 refine jaY (jaB (Nt (Wq (Lm rfl (Lc f_12 rfl (jnB w0 w N k Lk hs hk hLko) ?_)))))
 rintro _ w1 ⟨M, hs1, hbt⟩
 clear hs
 obtain ⟨n, hn⟩ : ∃ n, n = k.os.length := ⟨_, rfl⟩
 have hnd : d.k.os.length = n := by rw [hn]; exact (hbe.os.len)
 have hcnt := hk.cnt
 rw [<- hn] at hbt
 obtain ⟨at', ct, rfl, _⟩ := hbt.slice
 obtain ⟨Ld, hLd⟩ : ∃ Ld, Ld = L5 ++ (k.bks ++ M) := ⟨_, rfl⟩
 have hLdo : Own w0 Ld := by rw [hLd]; exact hL5o.app (hk.own.app hbt.own)
 have hs : HS w0 w1 (d.bks ++ Ld) := by rw [hLd]; rw [hLk] at hs1; exact HS.re hs1 (fun c => by simp only [mpA, mpC, mpN, smA, smC, smN]; omega)
 clear hs1
 have hMd : ∀ p ∈ M, p ∈ Ld := fun p hp => by rw [hLd]; exact List.mem_append_right _ (List.mem_append_right _ hp)
 refine La rfl (Rqq (Lmm rfl rfl (Lc f_27 rfl (dtracks_ok w0 w1 N d Ld hs hd) ?_)))
 rintro _ w2 ⟨M2, hs1, hbu⟩
 clear hs
 have hs := hs1
 clear hs1
 rw [hnd] at hbu
 obtain ⟨au, cu, rfl, _⟩ := hbu.slice
 refine Lc f_26 rfl (jqP at' au n ct cu (k.os.map On.t) (d.k.os.map On.t) hbe.trks w2 (Bl.slcM hbt hs (fun p hp => List.mem_append_left _ (List.mem_append_right _ (hMd p hp)))) (Bl.slcM hbu hs (fun p hp => List.mem_append_right _ hp)) (by rw [List.length_map, hn]) (by omega)) ?_
 rintro _ w3 ⟨rfl, hs'⟩
 replace hs := hs.nil hs'
 clear hs'
 obtain ⟨lf, rfl, hlfB, hlfR⟩ := Bl.funG (c := Trk.cells) (fun _ => rfl) hbt
 obtain ⟨Z, hZ⟩ : ∃ Z, Z = M2 ++ (k.bks ++ (d.bks ++ L5)) := ⟨_, rfl⟩
 have hZo : Own w0 Z := by rw [hZ]; exact hbu.own.app (hk.own.app (hd.own.app hL5o))
 replace hs : HS w0 w3 (Z ++ lf (k.os.map On.t)) := by rw [hZ]; rw [hLd] at hs; exact HS.re hs (fun c => by simp only [mpA, mpC, mpN, smA, smC, smN]; omega)
 refine jcP rfl (Rt (Wf rfl (Ws (Wqq (La rfl (Rt (ja4 (jcT (fun (P : List Trk) (i : Nat) (w : World) => [(17, .slice at' n ct), (18, .int .i64 i)]) (fun P i w => w) (fun P i w => (i <= n) /\ (P.length = n) /\ (HS w0 w (Z ++ lf P))) (fun P i w => n - i) (k.os.map On.t) (0) (_) (is := [17, 18]) rfl rfl ?_ ?_))))))))
 ·
  exact ⟨Nat.zero_le _, by rw [List.length_map, hn], hs⟩
 clear hs
 intro P i w hI
 show W _ _ _ _ [(17, .slice at' n ct), (18, .int .i64 i)] w
 obtain ⟨hi, hP, hs⟩ := hI
 by_cases hlt : i < n
 ·
  obtain ⟨gp, sp, rfl, hlf⟩ := hlfR (by omega)
  rw [hlf] at hs
  replace hs : HS w0 w ((gp, Row 51 (P.flatMap Trk.cells ++ sp)) :: Z) := HS.re hs (fun c => by simp only [mpA, mpC, mpN, smA, smC, smN]; omega)
  refine Wqq (Lmm rfl rfl (Le jnA rfl (jaZ rfl (jaF (by omega)) ?_)))
  refine Rt (Wt rfl (Ws (Wsq (ja4 (Wr (Lmm rfl rfl (jbE rfl rfl (Pl.builtN Tryz.pl51 rfl) (je7 137 (v' := .agg t9.cells.toArray) rfl (rfl) (LiN jnA jcE rfl (ja6 _) (by omega) rfl ?_)))))))))
  refine jaQ hs (i := 0) rfl jcE rfl rfl (by exact jaM _ _) (by rw [List.length_append, jgU (sz := 15) (fun _ => rfl)]; show i * 15 + 15 <= _; omega) (by exact Trk.one _) ?_
  intro w hs
  dsimp only [sS, sZ, sA, sN] at hs
  refine Rnl (jaB (Nt (Wr (Lm rfl (jbG rfl (ja3 (by omega)) ?_)))))
  refine La rfl (Rnl ?_)
  have hs1 : HS w0 w (Z ++ lf (P.set i t9)) := by
   have h1 : HS w0 w ((gp, Row 51 ((P.flatMap Trk.cells ++ sp).take (i * 15) ++ t9.cells ++ (P.flatMap Trk.cells ++ sp).drop (i * 15 + t9.cells.length))) :: Z) := hs
   rw [jr7 (c := Trk.cells) (sz := 15) (xs := P) (fun _ => rfl) (by omega)] at h1
   rw [hlf]
   exact HS.re h1 (fun c => by simp only [mpA, mpC, mpN, smA, smC, smN]; omega)
  clear hs
  refine Nq (P.set i t9, i + 1, _) [17, 18] rfl ?_ ?_
  ·
   dsimp only
   exact ⟨by omega, by rw [List.length_set]; exact hP, hs1⟩
  show n - (i + 1) < n - i; omega
 refine Wqq (Lmm rfl rfl (Le jnA rfl (jaZ rfl (jaA (by omega)) ?_)))
 refine Rt (Wf rfl ?_)
 have hbt' := hlfB P hP
 obtain ⟨M3, hM3⟩ : ∃ M3, M3 = lf P := ⟨_, rfl⟩
 rw [<- hM3] at hs hbt'
 refine jaK (ja0 (ja8 (ja1 (Nt (Wqq (La rfl (Rt (ja4 (jcK (fun (cb : VB) (P : List Trk) (i : Nat) (w : World) => [(17, cb.v), (19, .int .i64 i)]) (fun cb P i w => w) (fun cb P i w => (i <= 20) /\ (P.length = n + i) /\ (Bl w0 51 15 cb.v (n + i) (tcs P) cb.M) /\ (HS w0 w (Z ++ cb.M))) (fun cb P i w => 20 - i) (⟨.slice at' n ct, M3⟩) (P) (0) (_) (is := [17, 19]) rfl rfl ?_ ?_)))))))))
 ·
  exact ⟨Nat.zero_le _, hP, hbt', hs⟩
 clear hs
 intro cb P i w hI
 show W _ _ _ _ [(17, cb.v), (19, .int .i64 i)] w
 obtain ⟨hi, hP, hbc, hs⟩ := hI
 by_cases hlt : i < 20
 ·
  refine Wqq (Lm rfl (jaZ rfl (jaF (by omega)) ?_))
  refine Rt (Wt rfl (Ws (Wsq (ja4 (Wr (Lm rfl (jbE rfl rfl (Pl.builtN Tryz.pl51 rfl) (jb4 rfl hs jnA jcE rfl (by decide) rfl (by simp [Value.cells]) ?_))))))))
  intro b145 w hb145 hnb145 hs
  replace hs : HS w0 w ((Z ++ cb.M) ++ [(b145, Row 51 trk0.cells)]) := hs
  refine jb8 (L := Z) rfl jnA jcE rfl hs hb145 hbc rfl rfl rfl (Trk.one _) (by omega) (by omega) ?_
  intro v' w M' hs hbc'
  refine La rfl (Rnl (jaB (Nt (Wr (Lm rfl (jbG rfl (ja3 (by omega)) ?_))))))
  refine La rfl (Rnl (Nq (⟨v', M'⟩, P ++ [trk0], i + 1, _) [17, 19] rfl ?_ ?_))
  ·
   dsimp only
   refine ⟨by omega, by rw [List.length_append, hP]; rfl, ?_, hs⟩
   rw [tcs_app, show tcs [trk0] = trk0.cells by simp [tcs]]
   exact hbc'
  show 20 - (i + 1) < 20 - i; omega
 obtain ⟨cv, cM⟩ := cb
 have hbc : Bl w0 51 15 cv (n + i) (tcs P) cM := hbc
 obtain ⟨ac, cc, rfl, _⟩ := hbc.slice
 refine Wqq (Lm rfl (jaZ rfl (jaA (by omega)) ?_))
 refine Rt (Wf rfl (jaK (ja0 (ja8 (ja1 (Nt (Wq (Lm rfl (Le jnA rfl (jgM rfl (jaF (by omega)) ?_))))))))))
 refine La rfl (Rt (jaW (ja9 rfl rfl ?_)))
 have hs1 := HS.dropR hs hbc.own
 rw [hZ] at hs1
 exact ⟨_, rfl, rfl, k, d, hmore1, hmore2, hbe, hI.hl, rfl, rfl, rfl, hnx0, hdrop (HS.dropL hs1 hbu.own), fun _ _ => ⟨rfl, rfl⟩⟩
inductive PS where
 | no
 | so (k : Bok) (d : Dbk)
def PS.bks : PS -> Bks
 | .no => []
 | .so k d => k.bks ++ d.bks
structure TwoOk (w0 : World) (N : Nat) (k : Bok) (d : Dbk) : Prop where
 ob : k.ok w0 N
 od : d.ok w0 N
 eq : BEq k d.k
 hl : HL k
 next : k.next <= 1 + 256 * (N : Int)
def PS.ok (w0 : World) (N : Nat) : PS -> Prop
 | .no => True
 | .so k d => TwoOk w0 N k d
theorem PS.ok.more {w0 : World} {N : Nat} {x : PS} (h : x.ok w0 N) : x.ok w0 (N + 1) := by
 cases x with
 | no => trivial
 | so k d =>
  have := h.next
  exact ⟨h.ob.more (Nat.le_succ N), h.od.more (Nat.le_succ N), h.eq, h.hl, by omega⟩
def NB (w0 : World) (r : Rul) (p : Option Addr) (M : Bks) : Prop := (jfA r ≠ 0 /\ p = none /\ M = []) ∨ (jfA r = 0 /\ ∃ B mb, p = some ⟨B, 0, none⟩ /\ M = (bok0 r B mb).bks /\ (bok0 r B mb).ok w0 0)
def NR (w0 : World) (r : Rul) (p : Option Addr) (M : Bks) : Prop := (jfA r ≠ 0 /\ p = none /\ M = []) ∨ (jfA r = 0 /\ ∃ B, p = some ⟨B, 0, none⟩ /\ M = [(B, Row 70 (jcA r (.slice none 0 0) 0 false 1))] /\ w0.heap.size <= B)
theorem NB.own {w0 : World} {r : Rul} {p : Option Addr} {M : Bks} (h : NB w0 r p M) : Own w0 M := by
 rcases h with ⟨_, _, rfl⟩ | ⟨_, B, mb, _, rfl, h⟩
 ·
  exact Own.nil
 exact h.own
theorem NR.own {w0 : World} {r : Rul} {p : Option Addr} {M : Bks} (h : NR w0 r p M) : Own w0 M := by
 rcases h with ⟨_, _, rfl⟩ | ⟨_, B, _, rfl, h⟩
 ·
  exact Own.nil
 exact Own.cons h Own.nil
theorem NB.mono {w0 w : World} {r : Rul} {p : Option Addr} {M : Bks} (h : NB w r p M) (hle : w0.heap.size <= w.heap.size) : NB w0 r p M := by
 rcases h with h | ⟨e, B, mb, e1, e2, h⟩
 ·
  exact .inl h
 exact .inr ⟨e, B, mb, e1, e2, h.mono hle⟩
theorem NR.mono {w0 w : World} {r : Rul} {p : Option Addr} {M : Bks} (h : NR w r p M) (hle : w0.heap.size <= w.heap.size) : NR w0 r p M := by
 rcases h with h | ⟨e, B, e1, e2, h⟩
 ·
  exact .inl h
 exact .inr ⟨e, B, e1, e2, Nat.le_trans hle h⟩
structure RulLt (r : Rul) : Prop where
 noise : r.noise < 18446744073709551616
 sway : r.sway < 18446744073709551616
 gate : r.gate < 18446744073709551616
theorem unew_ok (r : Rul) (hr : RulLt r) (w0 : World) : Ret Tryz.prog 7 [.agg r.cells.toArray] w0 fun v w' => ∃ p M, v = .tuple #[.pointer p, .int .i64 (jfA r)] /\ HS w0 w' M /\ NB w0 r p M := by
 refine Ret.imp' (new_ok r hr.noise hr.sway hr.gate w0) ?_
 rintro v w' (⟨h, rfl, h2⟩ | ⟨h, B, mb, rfl, h2, h3⟩)
 ·
  exact ⟨_, [], rfl, h2, .inl ⟨h, rfl, rfl⟩⟩
 exact ⟨_, _, by rw [h]; rfl, h2, .inr ⟨h, B, mb, rfl, rfl, h3⟩⟩
theorem urnew_ok (r : Rul) (hr : RulLt r) (w0 : World) : Ret Tryz.prog 8 [.agg r.cells.toArray] w0 fun v w' => ∃ p M, v = .tuple #[.pointer p, .int .i64 (jfA r)] /\ HS w0 w' M /\ NR w0 r p M := by
 refine Ret.imp' (rnew_ok r hr.noise hr.sway hr.gate w0) ?_
 rintro v w' (⟨h, rfl, h2⟩ | ⟨h, B, rfl, h2, h3⟩)
 ·
  exact ⟨_, [], rfl, h2, .inl ⟨h, rfl, rfl⟩⟩
 exact ⟨_, _, by rw [h]; rfl, h3, .inr ⟨h, B, rfl, rfl, h2⟩⟩
def Bok.to (k : Bok) (B : Nat) : Bok := { k with B := B }
def Dbk.to (d : Dbk) (B : Nat) : Dbk := { d with B := B }
end Go.Proofs.YtffobakdngbadaaGreat
namespace Go.Proofs.YtffobakdngbadaaGreat
open Go Go.Lk Go.Pr
theorem jqT {c x y : Nat} {u : Int} (hc : c = 1074) (hx : FV x 0) (hy : FV y u) (hu : 0 < u) {g : Nat} (hg : g = 900) (hb : u.natAbs <= 2 ^ g * 2 ^ c) : FV (fop .quo x y) 0 := by
 obtain ⟨e, he⟩ : ∃ e, e = 2000 := ⟨_, rfl⟩
 have hue : u.natAbs <= 2 ^ e := by
  have := jnC (g := g) hc he (by omega)
  omega
 obtain ⟨f, f1, _, _, f2⟩ := jm2 c hc (k := 0) (by omega) hx hy (Int.le_refl _) (by rw [show ((2 ^ 0 : Nat) : Int) = 1 from rfl]; omega) hu e he hue
 rw [f2 rfl] at f1
 exact f1
theorem small_le {c k g : Nat} (hg : g = 900) (hk : k <= 1024) : k * 2 ^ c <= 2 ^ g * 2 ^ c := Nat.mul_le_mul_right _ (Nat.le_trans (show k <= 2 ^ 10 from hk) (jdQ (by omega)))
structure StZ (c : Nat) (vx : Int) (s : Stt) : Prop where
 x : FV s.x vx
 v : FV s.v 0
 p : NM c s.p (2 ^ 20)
 q : FV s.q 0
 r : FV s.r 0
theorem nm0 {c M x : Nat} (h : FV x 0) : NM c x M := ⟨0, h, Int.le_refl _, Int.natCast_nonneg _⟩
theorem StZ.congr {c : Nat} {v : Int} {s u : Stt} (h : StZ c v s) (e : u.c = s.c) : StZ c v u := by
 obtain ⟨e1, e2, e3, e4, e5⟩ := Stt.parts e
 exact ⟨jeM h.x e1, jeM h.v e2, h.p.congr e3, jeM h.q e4, jeM h.r e5⟩
theorem StZ.ahead {c : Nat} {vx T : Int} {s : Stt} {t : Nat} (hc : c = 1074) (h : StZ c vx s) (ht : FV t T) : StZ c vx (jdB s t 0) := by
 unfold jdB
 split
 ·
  have hw : FV (fop .mul 0 t) 0 := jeE fv_0 ht (Int.zero_mul _)
  have hw2 : FV (fop .mul (fop .mul 0 t) t) 0 := jeE hw ht (Int.zero_mul _)
  have hw3 : FV (fop .mul (fop .mul (fop .mul 0 t) t) t) 0 := jeE hw2 ht (Int.zero_mul _)
  have pc := Nat.two_pow_pos c
  obtain ⟨g, hg⟩ : ∃ g, g = 900 := ⟨_, rfl⟩
  have hq3 := jqT hc hw3 (fv_three c hc) (by omega) hg (by rw [Int.natAbs_natCast]; exact small_le hg (by decide))
  have hq2 := jqT hc hw2 (fv_two c hc) (by omega) hg (by rw [Int.natAbs_natCast]; exact small_le hg (by decide))
  have hqt : FV (fop .mul s.q t) 0 := jeE h.q ht (Int.zero_mul _)
  have hrt : FV (fop .mul s.r t) 0 := jeE h.r ht (Int.zero_mul _)
  have hrt2 : FV (fop .mul (fop .mul s.r t) t) 0 := jeE hrt ht (Int.zero_mul _)
  obtain ⟨p, p1, p2, p3⟩ := h.p
  refine ⟨jeF hc h.x (jeE h.v ht (Int.zero_mul _)), h.v, nm_above ⟨p, ?_, p2, p3⟩, ?_, ?_⟩
  ·
   exact jeF hc (jeF hc (jeF hc (jeF hc p1 hqt) hqt) hrt2) hq3
  ·
   exact jeF hc (jeF hc h.q hrt) hq2
  exact jeF hc h.r hw
 exact h
theorem StZ.seen {c : Nat} {vx : Int} {s : Stt} {x n : Nat} (hc : c = 1074) (h : StZ c vx s) (hx : FV x vx) (hn : FV n ((2 ^ c : Nat) : Int)) : StZ c vx (jcY s x n) /\ FV (jpS s x n) 0 := by
 have pc := Nat.two_pow_pos c
 have ha : AhS c 70 42 vx s := ⟨h.x, h.v, h.p.mono (jdQ (by omega)), nm0 h.q, nm0 h.r⟩
 have hn0 : ((2 ^ c : Nat) : Int) <= ((2 ^ c : Nat) : Int) * 1048576 := by omega
 have hn1 : ((2 ^ c : Nat) : Int) <= ((1048576 * 2 ^ c : Nat) : Int) := by omega
 obtain ⟨hS, hF⟩ := ha.seen hc (by omega) (by omega) (by omega) hx hn hn0 hn1
 obtain ⟨p, p1, p2, p3⟩ := h.p
 obtain ⟨hgt, ⟨u, u1, u2, _, _, u3⟩, _⟩ := seen_pqr (x := x) (E := 70) (G := 20) (R := 1) hc (by omega) (by omega) (by omega) (by omega) p1 p2 p3 (nm0 h.q) h.r (Int.le_refl _) (Int.natCast_nonneg _) hn hn0 hn1
 obtain ⟨g, hg⟩ : ∃ g, g = 900 := ⟨_, rfl⟩
 have hH : FV (jh3 s n) 0 := jqT hc h.q u1 u2 hg (by
  have := Nat.mul_le_mul_right (2 ^ c) (jdQ (show 20 + 21 <= g by omega))
  omega)
 refine ⟨⟨hS.x, hS.v, hS.p, ?_, ?_⟩, hF⟩
 ·
  unfold jcY
  rw [if_pos hgt]
  exact jeE hH hn (Int.zero_mul _)
 unfold jcY
 rw [if_pos hgt]
 have := jrH (fv_self hc h.r (jeE hH h.q (Int.zero_mul _)))
 rwa [show max (0 : Int) 0 = 0 from rfl] at this
theorem jr2 {w0 : World} {N : Nat} {k k' : Bok} {time : Nat} {told : List Int} (hk : k.ok w0 N) (h : StpU k time [] k' told 0) : k'.r = k.r /\ k'.last = time /\ ∀ o' ∈ k'.os, ∃ o ∈ k.os, o'.t.seen = jcF o.t.seen /\ o'.t.steps = o.t.steps + 1 /\ o'.t.kind = jeC k.r o.t.kind (jcF o.t.seen) (o.t.steps + 1) := by
 rcases h with ⟨h, _⟩ | ⟨_, _, os2, ps, ms, os3, h⟩
 ·
  exact absurd rfl h
 have hps : ps.length = 0 := h.pts.len
 have ho2 : os2.length <= 256 := by
  rw [h.ahead.len]
  exact Nat.le_trans (List.length_filter_le ..) hk.cnt
 obtain ⟨cnt, t, hm⟩ := h.most
 obtain ⟨_, _, hms⟩ := jr3 hk.rul.gate (by omega) ho2 hm
 have hn := NewsTo.zero_inv h.news
 injection hn with g1 g2 g3 g4
 refine ⟨h.samer, h.last, fun o' ho' => ?_⟩
 rw [g1] at ho'
 obtain ⟨z, hz, t, h1, h2, h3, h4, h5, h6⟩ := All2.right h.hits o' ho'
 have hzm := List.of_mem_zip (show (z.1, z.2) ∈ _ from hz)
 have hneg : ¬ 0 <= z.2 := by
  have := hms z.2 hzm.2
  omega
 rw [if_neg hneg] at h1
 obtain ⟨o, ho, x, y, _, _, e⟩ := All2.right h.ahead z.1 hzm.1
 refine ⟨o, (List.mem_filter.1 ho).1, ?_, ?_, ?_⟩
 ·
  rw [h4, h1]; show jcF z.1.t.seen = _; rw [e]
 ·
  rw [h4, h1]; show z.1.t.steps + 1 = _; rw [e]
 rw [h4, h1]; show jeC k.r z.1.t.kind (jcF z.1.t.seen) (z.1.t.steps + 1) = _; rw [e]
theorem low_two : ∀ a, a < 4 -> a % 2 = 0 -> popF (2 * a % 4) = 0 := by decide +kernel
theorem low_odd : ∀ a, a < 4 -> a % 2 = 1 -> popF a ≠ 0 := by decide +kernel
theorem kind_gone {s : Nat} {kd st : Int} (hst : 2 <= st) (hs : s % 2 = 0) : jeC rW kd (jcF s) st = 2 := by
 unfold jeC
 rw [if_pos]
 refine ⟨hst, ?_⟩
 show popF (jcF s % 4) = 0
 have h1 : jcF s % 4 = 2 * (s % 4) % 4 := by unfold jcF; omega
 rw [h1]
 exact low_two _ (Nat.mod_lt _ (by decide)) (by omega)
theorem or_odd (x : Nat) : (x ||| 1) % 2 = 1 := by
 have h : (x ||| 1).testBit 0 = true := by rw [Nat.testBit_or]; simp
 rw [Nat.testBit_zero] at h
 exact of_decide_eq_true h
theorem kind_stay {s : Nat} {kd st : Int} (hk : kd ≠ 2) : jeC rW kd (jnS s) st ≠ 2 := by
 unfold jeC
 rw [if_neg]
 ·
  split
  ·
   decide
  exact hk
 rintro ⟨_, h⟩
 have h1 : popF (jnS s % 4) = 0 := h
 exact low_odd _ (Nat.mod_lt _ (by decide)) (by have := or_odd s; unfold jnS; omega) h1
theorem two_nil {w0 : World} {N M : Nat} {k k' k'' : Bok} {t1 t2 : Nat} {told told' : List Int} (hk : k.ok w0 N) (hk' : k'.ok w0 M) (hr : k.r = rW) (h : StpU k t1 [] k' told 0) (h' : StpU k' t2 [] k'' told' 0) : k''.r = rW /\ k''.last = t2 /\ ∀ o ∈ k''.os, o.t.kind = 2 := by
 obtain ⟨a1, _, a2⟩ := jr2 hk h
 obtain ⟨b1, b3, b2⟩ := jr2 hk' h'
 refine ⟨by rw [b1, a1, hr], b3, fun o'' ho'' => ?_⟩
 obtain ⟨o', ho', c1, c2, c3⟩ := b2 o'' ho''
 obtain ⟨o, ho, d1, d2, d3⟩ := a2 o' ho'
 have hh := hk.hist o ho
 rw [c3, a1, hr, d1, d2]
 exact kind_gone (by omega) (by unfold jcF; omega)
theorem most_one1 {m : Int} {ms : List Int} {cnt t : Int} (h0 : 0 <= m) (h1 : m <= 1099511627776) (h : MostAns [[m]] ms cnt t 0) : ms = [0] := by
 rcases h with ⟨h2, _⟩ | ⟨_, _, f, hf, rfl, _⟩
 ·
  exfalso
  rcases h2 with h2 | h2
  ·
   apply h2
   unfold chk
   rw [if_neg (by simp), if_neg (by simp [wid]), if_neg]
   intro h3
   rw [List.any_eq_true] at h3
   obtain ⟨x, hx, h4⟩ := h3
   rw [List.mem_singleton.1 hx, List.any_eq_true] at h4
   obtain ⟨y, hy, h5⟩ := h4
   rw [List.mem_singleton.1 hy, decide_eq_true_eq] at h5
   omega
  exact absurd h2 (show ¬ (1 : Nat) = 0 by decide)
 have hf : Best 2 1 (msC [[m]] 1) f := hf
 have hid : Bij 2 (fun j => j) := ⟨fun j h => h, fun a b _ _ h => h⟩
 have hl := hf.least _ hid
 have b0 := hf.bij.lt 0 (by decide)
 have b1 := hf.bij.lt 1 (by decide)
 have bi := hf.bij.inj 0 1 (by decide) (by decide)
 have hel : el [[m]] 0 0 = m := rfl
 have hlen : [[m]].length = 1 := rfl
 have c00 : msC [[m]] 1 0 0 = m := by
  unfold msC
  rw [hel, hlen, if_pos (show 0 < 1 by decide), if_neg (by decide), if_neg (by omega)]
 have c01 : msC [[m]] 1 0 1 = 562949953421312 := by
  unfold msC
  rw [hlen, if_pos (show 0 < 1 by decide), if_pos (by decide)]
 have c1 : ∀ j, msC [[m]] 1 1 j = 0 := fun j => by
  unfold msC
  rw [hlen, if_neg (show ¬ 1 < 1 by decide)]
 have hc : ∀ g : Nat -> Nat, cst 2 (msC [[m]] 1) g = msC [[m]] 1 0 (g 0) := fun g => by
  show ((0 : Int) + msC [[m]] 1 0 (g 0)) + msC [[m]] 1 1 (g 1) = _
  rw [c1]; omega
 rw [hc, hc] at hl
 have hf0 : f 0 = 0 := by
  apply Classical.byContradiction
  intro hh
  have : f 0 = 1 := by omega
  rw [this, c00, c01] at hl
  omega
 show [(if f 0 < 1 then (f 0 : Int) else -1)] = [0]
 rw [hf0]; rfl
structure Zt (c : Nat) (vx vy : Int) (time : Nat) (o : On) : Prop where
 kind : o.t.kind ≠ 2
 last : o.t.last = time
 x : StZ c vx o.t.x
 y : StZ c vy o.t.y
theorem fv_rW {c : Nat} (hc : c = 1074) : FV rW.noise ((2 ^ c : Nat) : Int) := fv_one c hc
theorem one_new {c : Nat} {p : Plt} {vx vy : Int} {time : Nat} {k k' : Bok} {told : List Int} (hc : c = 1074) (hx : FV (ptX p) vx) (hy : FV (ptY p) vy) (hr : k.r = rW) (hk : ∀ o ∈ k.os, o.t.kind = 2) (h : StpU k time [p] k' told 0) : k'.r = rW /\ k'.last = time /\ ∃ o, k'.os = [o] /\ Zt c vx vy time o := by
 rcases h with ⟨h, _⟩ | ⟨_, _, os2, ps, ms, os3, h⟩
 ·
  exact absurd rfl h
 have ha := h.ahead
 have hf : k.os.filter jcB = [] := List.filter_eq_nil_iff.2 fun o ho => by unfold jcB; rw [hk o ho]; decide
 rw [hf] at ha
 have hos2 : os2 = [] := List.eq_nil_of_length_eq_zero (by rw [ha.len]; rfl)
 subst hos2
 have hp := h.pts
 obtain ⟨q, rfl⟩ : ∃ q, ps = [q] := by
  cases hp with
  | cons h1 h2 => cases h2; exact ⟨_, rfl⟩
 have hpp : PtOk p q := by cases hp with | cons h1 _ => exact h1
 have hh := h.hits
 have hos3 : os3 = [] := List.eq_nil_of_length_eq_zero (by rw [hh.len]; rfl)
 subst hos3
 refine ⟨h.samer.trans hr, h.last, ?_⟩
 obtain ⟨u, hu, hc2⟩ := NewsTo.succ_inv h.news
 obtain rfl := NewsTo.zero_inv hu
 rcases hc2 with ⟨hc2, _⟩ | ⟨_, o, h1, h2, h3, h4, h5⟩
 ·
  exfalso
  rcases hc2 with hc2 | hc2
  ·
   exact absurd hc2 (by show ¬ (0 : Int) < 0; decide)
  exact absurd hc2 (by show ¬ 256 <= 0; decide)
 rw [hr] at h2
 injection h5 with g1 g2 g3 g4
 have hn : NM c rW.noise (2 ^ 20) := by
  have pc := Nat.two_pow_pos c
  refine ⟨_, fv_rW hc, Int.natCast_nonneg _, Int.ofNat_le.2 ?_⟩
  rw [show 2 ^ 20 = 1048576 from rfl]; omega
 refine ⟨o, by rw [g1]; rfl, ?_, by rw [h2]; rfl, ?_, ?_⟩
 ·
  rw [h2, jr5]; decide +kernel
 ·
  rw [h2]
  exact ⟨jeM hx (hpp.1.trans (cn_ptX p).symm), fv_0, hn, fv_0, fv_0⟩
 rw [h2]
 exact ⟨jeM hy (hpp.2.trans (cn_ptY p).symm), fv_0, hn, fv_0, fv_0⟩
theorem one_stay {c : Nat} {p : Plt} {vx vy T : Int} {time time' : Nat} {k k' : Bok} {told : List Int} {o : On} (hc : c = 1074) (hx : FV (ptX p) vx) (hy : FV (ptY p) vy) (hr : k.r = rW) (hro : RulOk rW) (hk : k.os = [o]) (hid : 1 <= o.t.id) (ho : Zt c vx vy time o) (ht : FV (fop .sub time' time) T) (h : StpU k time' [p] k' told 0) : k'.r = rW /\ k'.last = time' /\ ∃ o', k'.os = [o'] /\ Zt c vx vy time' o' := by
 rcases h with ⟨h, _⟩ | ⟨_, _, os2, ps, ms, os3, h⟩
 ·
  exact absurd rfl h
 have ha := h.ahead
 rw [hk, hr] at ha
 have hal : [o].filter jcB = [o] := by
  rw [List.filter_cons_of_pos (by unfold jcB; rw [decide_eq_false ho.kind]; rfl)]; rfl
 rw [hal] at ha
 obtain ⟨o', rfl⟩ : ∃ o', os2 = [o'] := by
  cases ha with
  | cons h1 h2 => cases h2; exact ⟨_, rfl⟩
 have hA : AheadR time' rW.sway o o' := by cases ha with | cons h1 _ => exact h1
 have hp := h.pts
 obtain ⟨q, rfl⟩ : ∃ q, ps = [q] := by
  cases hp with
  | cons h1 h2 => cases h2; exact ⟨_, rfl⟩
 have hpp : PtOk p q := by cases hp with | cons h1 _ => exact h1
 obtain ⟨x, y, hxc, hyc, rfl⟩ := hA
 rw [ho.last] at hxc hyc
 have ax : StZ c vx x := (ho.x.ahead hc ht).congr hxc
 have ay : StZ c vy y := (ho.y.ahead hc ht).congr hyc
 have hqx : FV q.x vx := jeM hx (hpp.1.trans (cn_ptX p).symm)
 have hqy : FV q.y vy := jeM hy (hpp.2.trans (cn_ptY p).symm)
 obtain ⟨sx, fx⟩ := ax.seen hc hqx (fv_rW hc)
 obtain ⟨sy, fy⟩ := ay.seen hc hqy (fv_rW hc)
 have hcost : 0 <= jdV rW.noise rW.gate x y q.x q.y := cost_still fx fy (FV.nat (r := 4621256167635550208) (by decide)) (Int.natCast_nonneg _)
 have hcr : jdV rW.noise rW.gate x y q.x q.y <= 1099511627776 := by
  have := costT_rng (n := rW.noise) (x := x) (y := y) (px := q.x) (py := q.y) hro.gate
  omega
 obtain ⟨cnt, tt, hm⟩ := h.most
 have hrow : jbX k.r [q] [{ o with t := { o.t with x := x, y := y } }] = [[jdV rW.noise rW.gate x y q.x q.y]] := by rw [hr]; rfl
 rw [hrow] at hm
 have hms : ms = [0] := most_one1 hcost hcr hm
 subst hms
 have hh := h.hits
 obtain ⟨o3, rfl⟩ : ∃ o3, os3 = [o3] := by
  cases hh with
  | cons h1 h2 => cases h2; exact ⟨_, rfl⟩
 have hH : HitR k.r time' [q] ({ o with t := { o.t with x := x, y := y } }, 0) o3 := by cases hh with | cons h1 _ => exact h1
 obtain ⟨t, g1, g2, g3, g4, g5, g6⟩ := hH
 rw [if_pos (by show (0 : Int) <= 0; decide)] at g1
 obtain ⟨x', y', hx', hy', rfl⟩ := g1
 refine ⟨h.samer.trans hr, h.last, ?_⟩
 obtain ⟨u, hu, hc2⟩ := NewsTo.succ_inv h.news
 obtain rfl := NewsTo.zero_inv hu
 rcases hc2 with ⟨_, h5⟩ | ⟨hc2, _⟩
 ·
  injection h5 with i1 i2 i3 i4
  have ex : o3.t.x = x' := by rw [g4]; rfl
  have ey : o3.t.y = y' := by rw [g4]; rfl
  rw [hr] at hx' hy'
  refine ⟨o3, i1, ?_, by rw [g4]; rfl, ?_, ?_⟩
  ·
   rw [g4, hr]
   exact kind_stay ho.kind
  ·
   rw [ex]; exact sx.congr hx'
  rw [ey]; exact sy.congr hy'
 exfalso
 exact hc2 (.inl (by
  show (0 : Int) < (jmT [0] ({ o with t := { o.t with x := x, y := y } }, 0)).getD 0 0
  unfold jmT
  rw [if_pos (by show (0 : Int) <= 0; decide)]
  show (0 : Int) < o.t.id
  omega))
theorem StpU.r {k k' : Bok} {time : Nat} {l : List Plt} {told : List Int} {er : Int} (h : StpU k time l k' told er) : k'.r = k.r := by
 rcases h with ⟨_, _, rfl⟩ | ⟨_, _, _, _, _, _, h⟩
 ·
  rfl
 exact h.samer
theorem StpU.last {k k' : Bok} {time : Nat} {l : List Plt} {told : List Int} {er : Int} (h : StpU k time l k' told er) : k'.last = time ∨ k'.last = k.last := by
 rcases h with ⟨_, _, rfl⟩ | ⟨_, _, _, _, _, _, h⟩
 ·
  exact .inr rfl
 exact .inl h.last
theorem ref_ok {last t : Nat} {T L : Int} {p : Plt} (ht : FV t T) (hf : jgW p = true) (l1 : FV last L) (l2 : L <= T) : jeZ last t [p] = 0 := by
 unfold jeZ
 rw [show [p].length = 1 from rfl]
 have h1 : ltB t last = false := by
  unfold ltB
  rw [ht.ltt l1]; exact decide_eq_false (by omega)
 rw [if_neg (show ¬ 256 < 1 by decide), fin_fv ht, show [p].all jgW = true by simp [hf], h1]
 rfl
theorem wait_nm {c t l : Nat} {T L : Int} (hc : c = 1074) (ht : FV t T) (hl : FV l L) (h0 : 0 <= L) (h1 : L <= T) (h2 : T <= ((1048576 * 2 ^ c : Nat) : Int)) : NM c (fop .sub t l) (2 ^ 20) := by
 have hb := (jbQ (e := 20) (by omega)).bound hc
 obtain ⟨r, e, h3⟩ := fv_sub c hc ht hl (by rw [show 2 ^ 20 = 1048576 from rfl] at hb; omega)
 have h4 := jnP (c := c) (T := T - L) (S := T) (by omega)
 rw [rd_fv hc ht] at h4
 exact ⟨_, by rw [jbY e]; exact h3, rd_nonneg (by omega), by rw [show 2 ^ 20 = 1048576 from rfl]; omega⟩
theorem ref_three {last : Nat} (h : last = ninf ∨ last = 0 ∨ last = 4607182418800017408 ∨ last = 4611686018427387904) : jeZ last 4613937818241073152 [] = 0 := by
 rcases h with rfl | rfl | rfl | rfl <;> decide +kernel
theorem ref_four : jeZ 4613937818241073152 4616189618054758400 [] = 0 := by decide +kernel
def jmU : Plt := ⟨FloatKind.f64.nearest (100 * ((0 : Nat) : Int) + 50), 0, 0, 0, 0⟩
theorem jrA : jmU = pB := by
 unfold jmU pB
 rw [show FloatKind.f64.nearest (100 * ((0 : Nat) : Int) + 50) = 4632233691727265792 by decide +kernel]
theorem fin_fifty : jgW jmU = true := by rw [jrA]; decide +kernel
theorem ref_five : jeZ 4616189618054758400 4617315517961601024 [jmU] = 0 := by rw [jrA]; decide +kernel
theorem fifty_pt {c : Nat} (hc : c = 1074) : (∃ v, FV (ptX jmU) v) /\ ∃ v, FV (ptY jmU) v := by
 rw [jrA]
 obtain ⟨e, he⟩ : ∃ e, e = 1027 := ⟨_, rfl⟩
 have h50 : FV 4632233691727265792 (rv 4632233691727265792 : Int) := FV.nat (by decide)
 refine pt_fin hc (p := pB) fv_0 ⟨_, h50, ?_⟩
 rw [Int.natAbs_natCast]
 rw [jgP (r := 4632233691727265792) (e := e) (m := 2533274790395904) (by omega) (by decide), show 4503599627370496 + 2533274790395904 = 50 * 2 ^ 47 by decide]
 rw [Nat.mul_assoc, <- Nat.pow_add, show 47 + e = c by omega]
 have h30 : 2 ^ 30 * 2 ^ c = 1073741824 * 2 ^ c := rfl
 have := Nat.two_pow_pos c
 omega
end Go.Proofs.YtffobakdngbadaaGreat
namespace Go.Proofs.YtffobakdngbadaaGreat
open Go Go.Lk
def mxQ (q id : Int) : Mv := ⟨q, 0, none, 0, [], id⟩
theorem mxQ_ok (q id : Int) (w0 : World) : MvOk w0 (mxQ q id) := ⟨by show (0 : Nat) < _; decide, ⟨fun h => absurd h (by show ¬ 0 < 0; decide), fun j v hv => by simp [mxQ, pcs] at hv⟩, by show (0 : Nat) <= _; decide, fun i hi => absurd hi (Nat.not_lt_zero _)⟩
theorem pmoveQ (w0 w : World) (N : Nat) (k : Bok) (d : Dbk) (q id : Int) (L : Bks) (hs : HS w0 w ((k.bks ++ d.bks) ++ L)) (hx : TwoOk w0 N k d) (hN : N <= 3000) (hL : Own w0 L) (h0 : q ≠ 0) (h1 : q ≠ 1) :
  Ret Tryz.prog 9 [bv k.B, bv d.B, .agg (mxQ q id).cells.toArray] w fun v w' => v = .bool true /\ HS w0 w' ((k.bks ++ d.bks) ++ L) := by
 have h1' := hx.next
 have hm := mxQ_ok q id w0
 refine Ret.imp' (move_ok w0 w N k d (mxQ q id) L (by rw [<- List.append_assoc]; exact hs) ⟨hx.ob, hx.od, hx.eq, hx.hl, by omega, hL, fun w' L' h1 h2 _ => hm.pl.old h1 h2, by show (0 : Nat) <= _; decide, hm.lt, hm.time, by omega⟩) ?_
 rintro v w' ⟨rfl, k', d', a1, a2, a3, a4, a5, a6, a7, a8, a9, a10⟩
 obtain ⟨rfl, rfl⟩ := a10 h0 h1
 exact ⟨rfl, by rw [List.append_assoc]; exact a9⟩
theorem pstep (w0 w : World) (N n : Nat) (k : Bok) (d : Dbk) (time : Nat) (a : Option Addr) (c : Nat) (l : List Plt) (L : Bks) (hs : HS w0 w ((k.bks ++ d.bks) ++ L)) (hx : TwoOk w0 N k d) (hN : N <= 3000) (hL : Own w0 L) (hsl : ∀ w' L', HS w0 w' L' -> Own w0 L' -> (∀ p ∈ L, p ∈ L') -> SlC w' a (pcs l)) (hl : l.length = n) (hn : n <= 900000) (hlt : ∀ i, i < n -> PltLt (l.getD i plt0)) (ht : time < 18446744073709551616) :
  Ret Tryz.prog 11 [bv k.B, bv d.B, .float .f64 time, .slice a n c] w fun v w' => v = .bool true /\ ∃ (k' : Bok) (d' : Dbk), TwoOk w0 (N + 1) k' d' /\ k'.B = k.B /\ d'.B = d.B /\ HS w0 w' ((k'.bks ++ d'.bks) ++ L) /\ ∃ told, StpU k time l k' told (jeZ k.last time l) := by
 have h1 := hx.next
 refine Ret.imp' (lstep_ok w0 w N n k d time a c l L (by rw [<- List.append_assoc]; exact hs) ⟨hx.ob, hx.od, hx.eq, by omega, hL, hsl, hl, hn, hlt, ht, by omega⟩) ?_
 rintro v w' ⟨rfl, k', d', a1, a2, a3, a4, a5, a6, a7, a8, told, a9⟩
 exact ⟨rfl, k', d', ⟨a1, a2, a3, StpU.HL hx.hl a9, by omega⟩, a4, a5, by rw [List.append_assoc]; exact a8, told, a9⟩
theorem new_two {w0 : World} {r : Rul} {p q : Option Addr} {M N : Bks} (hr : jfA r = 0) (h : NB w0 r p M) (h' : NR w0 r q N) : ∃ (k : Bok) (d : Dbk), p = some ⟨k.B, 0, none⟩ /\ q = some ⟨d.B, 0, none⟩ /\ M = k.bks /\ N = d.bks /\ TwoOk w0 0 k d /\ k.r = r /\ k.last = ninf := by
 rcases h with ⟨e, _⟩ | ⟨e, B, mb, rfl, rfl, h⟩
 ·
  exact absurd hr e
 rcases h' with ⟨e', _⟩ | ⟨_, C, rfl, rfl, h'⟩
 ·
  exact absurd hr e'
 refine ⟨bok0 r B mb, ⟨C, ⟨0, 0, r, [], 0, 1, ninf⟩, .slice none 0 0, [], 0, false⟩, rfl, rfl, rfl, rfl, ?_, rfl, rfl⟩
 exact ⟨h, ⟨h', .nil, fun o ho => (by cases ho), List.nodup_nil, fun o ho => (by cases ho), (by decide : (1 : Int) <= 1), (by decide : (1 : Int) <= 1000000), fun o ho => (by cases ho), h.rul, Nat.zero_le _, .inr ⟨rfl, rfl⟩⟩, ⟨rfl, .nil, rfl, rfl⟩, fun o ho => (by cases ho), by show (1 : Int) <= 1 + 256 * ((0 : Nat) : Int); decide⟩
def hund (i : Nat) : Plt := ⟨FloatKind.f64.nearest (100 * (i : Int)), 0, 0, 0, 0⟩
def jkP (i : Nat) : Plt := ⟨FloatKind.f64.nearest (100 * (i : Int) + 50), 0, 0, 0, 0⟩
def rows (f : Nat -> Plt) (n : Nat) : List Plt := (List.range n).map f
theorem rows_snoc (f : Nat -> Plt) (n : Nat) : rows f (n + 1) = rows f n ++ [f n] := by unfold rows; rw [List.range_succ, List.map_append]; rfl
theorem jhG (f : Nat -> Plt) (n : Nat) : (rows f n).length = n := by unfold rows; rw [List.length_map, List.length_range]
theorem jqS {f : Nat -> Plt} {n i : Nat} (h : i < n) : (rows f n).getD i plt0 = f i := by
 unfold rows
 rw [List.getD_eq_getElem?_getD, List.getElem?_map, List.getElem?_range h]; rfl
theorem rep_lt {x : Nat} {v : Int} (h : Rep x v) : x < 18446744073709551616 := by
 have key : ∀ (s : Bool) (r : Nat), r < 9223372036854775808 -> Ieee.double.word s r < 18446744073709551616 := fun s r hr => by
  cases s <;> simp only [Ieee.Format.word, Ieee.double, Ieee.Format.signWeight] <;> simp <;> omega
 rcases h with ⟨_, h | h⟩ | ⟨h0, h1, rfl⟩
 ·
  omega
 ·
  omega
 exact key _ _ (Nat.lt_trans (frung_lt (by omega) h1) (by decide))
theorem fv_int {c n : Nat} (hc : c = 1074) (hn : n < 9007199254740992) : FV (FloatKind.f64.nearest (n : Int)) ((n * 2 ^ c : Nat) : Int) := by
 have h1 := jnK (n : Int) (by omega)
 rw [Int.natCast_mul]
 exact Rep.fv h1 c hc (rep_lt h1)
theorem near_lt {n : Int} (h0 : 0 <= n) (h : n < 1000000) : FloatKind.f64.nearest n < 18446744073709551616 := rep_lt (jnK n (by omega))
theorem plt_lt {n : Int} (h0 : 0 <= n) (h : n < 1000000) : PltLt ⟨FloatKind.f64.nearest n, 0, 0, 0, 0⟩ := ⟨near_lt h0 h, by show (0 : Nat) < _; decide⟩
theorem hund_lt {i : Nat} (h : i < 1000) : PltLt (hund i) := plt_lt (n := 100 * (i : Int)) (by omega) (by omega)
theorem fiftyP_lt {i : Nat} (h : i < 1000) : PltLt (jkP i) := plt_lt (n := 100 * (i : Int) + 50) (by omega) (by omega)
theorem plt0_lt : PltLt plt0 := ⟨by decide, by decide⟩
def tmF (i : Nat) : Nat := FloatKind.f64.nearest ((5 + i : Nat) : Int)
theorem tmF_fv {c i : Nat} (hc : c = 1074) (hi : i <= 2000) : FV (tmF i) (((5 + i) * 2 ^ c : Nat) : Int) := fv_int hc (by omega)
theorem tmF_0 : tmF 0 = 4617315517961601024 := by decide +kernel
theorem tmF_wait {c i : Nat} (hc : c = 1074) (hi : i <= 1999) : ∃ T, FV (fop .sub (tmF (i + 1)) (tmF i)) T := by
 have h1 : (5 + i) * 2 ^ c <= (5 + (i + 1)) * 2 ^ c := Nat.mul_le_mul_right _ (by omega)
 have h2 : (5 + (i + 1)) * 2 ^ c <= 1048576 * 2 ^ c := Nat.mul_le_mul_right _ (by omega)
 obtain ⟨T, h, _⟩ := wait_nm hc (tmF_fv hc (by omega)) (tmF_fv hc (by omega)) (Int.natCast_nonneg _) (Int.ofNat_le.2 h1) (Int.ofNat_le.2 h2)
 exact ⟨T, h⟩
theorem tmF_ref {i : Nat} (hi : i <= 1999) : jeZ (tmF i) (tmF (i + 1)) [jmU] = 0 := by
 obtain ⟨c, hc⟩ : ∃ c, c = 1074 := ⟨_, rfl⟩
 have h1 : (5 + i) * 2 ^ c <= (5 + (i + 1)) * 2 ^ c := Nat.mul_le_mul_right _ (by omega)
 exact ref_ok (tmF_fv hc (by omega)) fin_fifty (tmF_fv hc (by omega)) (Int.ofNat_le.2 h1)
theorem tmF_lt (i : Nat) (hi : i <= 2000) : tmF i < 18446744073709551616 := near_lt (by omega) (by omega)
theorem nil_sl (w : World) : SlC w none (pcs []) := ⟨fun h => absurd h (by decide), fun j v hv => by simp [pcs] at hv⟩
theorem rows_pre : rows jkP 3 = [jmU] ++ [jkP 1, jkP 2] := rfl
set_option maxHeartbeats 4000000 in
theorem jpN (w0 : World) : Ret Tryz.prog 4 [] w0 fun v w' => v = .bool true /\ HS w0 w' [] := by
 refine Ret.start fun w hs => ?_
 refine ja7 Tryz.func4 rfl rfl rfl (Wq (La rfl (Rq (Lc f_10 rfl (rule_ok w) ?_))))
 rintro _ w1 ⟨rfl, hs'⟩
 replace hs := hs.nil hs'
 clear hs'
 refine Lc f_7 rfl (unew_ok rW ⟨by decide, by decide, by decide⟩ w1) ?_
 rintro _ w2 ⟨p1, M1, rfl, hs', hb1⟩
 have hs1 := hs.call hs' hb1.own
 replace hb1 := hb1.mono hs.size
 clear hs hs'
 have hs := hs1
 clear hs1
 refine Lm rfl (Lx rfl rfl (Lx rfl rfl (La rfl (La rfl (Rq (Lc f_10 rfl (rule_ok w2) ?_))))))
 rintro _ w3 ⟨rfl, hs'⟩
 replace hs := hs.nil hs'
 clear hs'
 refine Lc f_8 rfl (urnew_ok rW ⟨by decide, by decide, by decide⟩ w3) ?_
 rintro _ w4 ⟨q1, N1, rfl, hs', hc1⟩
 have hs1 := hs.call hs' hc1.own
 replace hc1 := hc1.mono hs.size
 clear hs hs'
 have hs := hs1
 clear hs1
 rw [new_rW]
 obtain ⟨k, d, rfl, rfl, rfl, rfl, hx, hkr, hkl⟩ := new_two new_rW hb1 hc1
 clear hb1 hc1
 refine Lm rfl (Lx rfl rfl (Lx rfl rfl (La rfl (La rfl (Rqq (Lm rfl (jk7 rfl (jaA (by omega)) ?_)))))))
 refine Lm rfl (Gm rfl rfl (Rw rfl (jcV rfl u_28 rfl rfl (Lpf rfl (Rt (Wf rfl (Ws (Wq (La rfl (Rqq (La rfl (Rt (ja4 ?_)))))))))))))
 obtain ⟨A, hA⟩ : ∃ A, A = k.bks ++ d.bks := ⟨_, rfl⟩
 have hAo : Own w0 A := by rw [hA]; exact hx.ob.own.app hx.od.own
 replace hs : HS w0 w4 A := by rw [hA]; exact hs
 refine jcT (fun (lb : VB) (i : Nat) (w : World) => [(1, .pointer (some ⟨k.B, 0, none⟩)), (3, .pointer (some ⟨d.B, 0, none⟩)), (5, lb.v), (6, .int .i64 i)]) (fun lb i w => w) (fun lb i w => (i <= 256) /\ (Bl w0 42 5 lb.v i (pcs (rows hund i)) lb.M) /\ (HS w0 w (A ++ lb.M))) (fun lb i w => 256 - i) (vb0) (0) (_) (is := [1, 3, 5, 6]) rfl rfl ?_ ?_
 ·
  exact ⟨Nat.zero_le _, .nil, by show HS w0 w4 (A ++ []); rw [List.append_nil]; exact hs⟩
 clear hs
 intro lb i w hI
 show W _ _ _ _ [(1, .pointer (some ⟨k.B, 0, none⟩)), (3, .pointer (some ⟨d.B, 0, none⟩)), (5, lb.v), (6, .int .i64 i)] w
 obtain ⟨hi, hb, hs⟩ := hI
 by_cases hlt : i < 256
 ·
  refine Wqq (Lm rfl (jaZ rfl (jaF (by omega)) ?_))
  refine Rt (Wt rfl (Ws (Wsq (ja4 (Wr (Lmm rfl rfl (L_mul rfl rfl rfl (ja3 (by omega)) ?_)))))))
  refine jqE rfl u_3 u_22 rfl (jbE rfl rfl (Pl.builtN Tryz.pl42 rfl) (jb4 rfl hs jeA jg7 rfl (by decide) rfl (by simp [Value.cells]) ?_))
  intro b36 w hb36 hnb36 hs
  replace hs : HS w0 w ((A ++ lb.M) ++ [(b36, Row 42 (hund i).cells)]) := by
   first
    | exact hs
    | (have := hs; simp only [List.flatMap_cons, List.flatMap_nil, List.append_nil] at this; exact this)
  refine jb8 (L := A) rfl jeA jg7 rfl hs hb36 hb rfl rfl rfl (Plt.one _) (by omega) (by omega) ?_
  intro v' w M' hs hb'
  have hb2 : Bl w0 42 5 v' (i + 1) (pcs (rows hund (i + 1))) M' := by rw [rows_snoc, jh6, jqX]; exact hb'
  clear hb hb'
  refine La rfl (Rnl (jaB (Nt (Wr (Lm rfl (jbG rfl (ja3 (by omega)) ?_))))))
  refine La rfl (Rnl (Nq (⟨v', M'⟩, i + 1, w) [1, 3, 5, 6] rfl ?_ ?_))
  ·
   dsimp only
   exact ⟨by omega, hb2, hs⟩
  show 256 - (i + 1) < 256 - i; omega
 obtain rfl : i = 256 := by omega
 refine Wqq (Lm rfl (jaZ rfl (jaA (by omega)) ?_))
 refine Rt (Wf rfl (jaK (ja0 (ja8 (ja1 (Nt (Wq (La rfl (Rt (Wsq (Wsq (Wr (La rfl (Rt (ja4 ?_)))))))))))))))
 obtain ⟨al, cl, hlv, hcl⟩ := hb.slice
 obtain ⟨Ml, hMl⟩ : ∃ Ml, Ml = lb.M := ⟨_, rfl⟩
 rw [hlv] at hb
 rw [hlv]
 rw [<- hMl] at hb hs
 refine jcT (fun (ob : VB) (i : Nat) (w : World) => [(1, .pointer (some ⟨k.B, 0, none⟩)), (3, .pointer (some ⟨d.B, 0, none⟩)), (5, .slice al 256 cl), (7, ob.v), (8, .int .i64 i)]) (fun ob i w => w) (fun ob i w => (i <= 3) /\ (Bl w0 42 5 ob.v i (pcs (rows jkP i)) ob.M) /\ (HS w0 w ((A ++ Ml) ++ ob.M))) (fun ob i w => 3 - i) (vb0) (0) (_) (is := [1, 3, 5, 7, 8]) rfl rfl ?_ ?_
 ·
  exact ⟨Nat.zero_le _, .nil, by show HS w0 w ((A ++ Ml) ++ []); rw [List.append_nil]; exact hs⟩
 clear hs
 intro ob i w hI
 show W _ _ _ _ [(1, .pointer (some ⟨k.B, 0, none⟩)), (3, .pointer (some ⟨d.B, 0, none⟩)), (5, .slice al 256 cl), (7, ob.v), (8, .int .i64 i)] w
 obtain ⟨hi, hbo, hs⟩ := hI
 by_cases hlt : i < 3
 ·
  refine Wqq (Lm rfl (jaZ rfl (jaF (by omega)) ?_))
  refine Rt (Wt rfl (Ws (Wsq (ja4 (Wr (Lmm rfl rfl (L_mul rfl rfl rfl (ja3 (by omega)) ?_)))))))
  refine jbG rfl (ja3 (by omega)) ?_
  refine jqE rfl u_3 u_22 rfl (jbE rfl rfl (Pl.builtN Tryz.pl42 rfl) (jb4 rfl hs jeA jg7 rfl (by decide) rfl (by simp [Value.cells]) ?_))
  intro b48 w hb48 hnb48 hs
  replace hs : HS w0 w (((A ++ Ml) ++ ob.M) ++ [(b48, Row 42 (jkP i).cells)]) := by
   first
    | exact hs
    | (have := hs; simp only [List.flatMap_cons, List.flatMap_nil, List.append_nil] at this; exact this)
  refine jb8 (L := A ++ Ml) rfl jeA jg7 rfl hs hb48 hbo rfl rfl rfl (Plt.one _) (by omega) (by omega) ?_
  intro v' w M' hs hb'
  have hb2 : Bl w0 42 5 v' (i + 1) (pcs (rows jkP (i + 1))) M' := by rw [rows_snoc, jh6, jqX]; exact hb'
  clear hbo hb'
  refine La rfl (Rnl (jaB (Nt (Wr (Lm rfl (jbG rfl (ja3 (by omega)) ?_))))))
  refine La rfl (Rnl (Nq (⟨v', M'⟩, i + 1, w) [1, 3, 5, 7, 8] rfl ?_ ?_))
  ·
   dsimp only
   exact ⟨by omega, hb2, hs⟩
  show 3 - (i + 1) < 3 - i; omega
 obtain rfl : i = 3 := by omega
 refine Wqq (Lm rfl (jaZ rfl (jaA (by omega)) ?_))
 refine Rt (Wf rfl ?_)
 obtain ⟨ao, co, hov, hco⟩ := hbo.slice
 obtain ⟨Mo, hMo⟩ : ∃ Mo, Mo = ob.M := ⟨_, rfl⟩
 rw [hov] at hbo
 rw [hov]
 rw [<- hMo] at hbo hs
 obtain ⟨L, hL⟩ : ∃ L, L = Ml ++ Mo := ⟨_, rfl⟩
 have hLo : Own w0 L := by rw [hL]; exact hb.own.app hbo.own
 rw [List.append_assoc, <- hL, hA] at hs
 have hlM : ∀ p ∈ Ml, p ∈ L := fun p hp => by rw [hL]; exact List.mem_append_left _ hp
 have hoM : ∀ p ∈ Mo, p ∈ L := fun p hp => by rw [hL]; exact List.mem_append_right _ hp
 have hlS : ∀ w' L', HS w0 w' L' -> Own w0 L' -> (∀ p ∈ L, p ∈ L') -> SlC w' al (pcs (rows hund 256)) := fun w' L' h1 _ h2 => Bl.slcM hb h1 (fun p hp => h2 p (hlM p hp))
 have hoS : ∀ w' L', HS w0 w' L' -> Own w0 L' -> (∀ p ∈ L, p ∈ L') -> SlC w' ao (pcs (rows jkP 3)) := fun w' L' h1 _ h2 => Bl.slcM hbo h1 (fun p hp => h2 p (hoM p hp))
 clear hA hAo
 refine jaK (ja0 (ja8 (ja1 (Nt (Wqq (Lmm rfl rfl (Lm rfl ?_)))))))
 refine Lc f_11 rfl (pstep w0 w 0 256 k d 0 al cl (rows hund 256) L hs hx (by decide) hLo hlS (jhG ..) (by decide) (fun i hi => by rw [jqS hi]; exact hund_lt (by omega)) (by decide)) ?_
 rintro _ w1 ⟨rfl, k1, d1, hx1, e1, e2, hs1, told, hU⟩
 rw [<- e1, <- e2]
 have r1 := hU.r.trans hkr
 have l1 := hU.last
 rw [hkl] at l1
 clear hs hx hU
 have hs := hs1
 clear hs1
 refine jcP rfl (Lm rfl (Gm rfl rfl (Gm rfl rfl (Gm rfl rfl (Rw rfl ?_)))))
 refine Lc f_11 rfl (pstep w0 w1 1 3 k1 d1 4607182418800017408 ao co (rows jkP 3) L hs hx1 (by decide) hLo hoS (jhG ..) (by decide) (fun i hi => by rw [jqS hi]; exact fiftyP_lt (by omega)) (by decide)) ?_
 rintro _ w2 ⟨rfl, k2, d2, hx2, e3, e4, hs1, told, hU⟩
 rw [<- e3, <- e4]
 have r2 := hU.r.trans r1
 have l2 := hU.last
 clear hs hU
 have hs := hs1
 clear hs1
 refine Rw rfl (jcP rfl (Lpf rfl (Lm rfl (Gm rfl rfl (Gm rfl rfl (Gm rfl rfl (Rw rfl (jbE rfl rfl (Pl.builtN Tryz.pl42 rfl) (Rw rfl (jb4 rfl hs jeA jg7 rfl (by decide) rfl (by simp [Value.cells]) ?_))))))))))
 intro b67 w hb67 hnb67 hs
 have hs1 : HS w0 w (((k2.bks ++ d2.bks ++ Mo) ++ Ml) ++ [(b67, Row 42 plt0.cells)]) := by
  have h1 : HS w0 w ((k2.bks ++ d2.bks ++ L) ++ [(b67, Row 42 plt0.cells)]) := by
   first
    | exact hs
    | (have := hs; simp only [List.flatMap_cons, List.flatMap_nil, List.append_nil] at this; exact this)
  rw [hL] at h1
  exact HS.re (L := ((k2.bks ++ d2.bks) ++ (Ml ++ Mo)) ++ [(b67, Row 42 plt0.cells)]) h1 (fun c => by simp only [mpA, mpC, mpN, smA, smC, smN]; omega)
 clear hs
 refine Rw rfl (jb8 (L := k2.bks ++ d2.bks ++ Mo) rfl jeA jg7 rfl hs1 hb67 hb rfl rfl rfl (Plt.one _) (by decide) (by decide) ?_)
 intro v' w M' hs hb'
 clear hs1
 obtain ⟨a', c', rfl, hc'⟩ := hb'.slice
 obtain ⟨l3, hl3⟩ : ∃ l3, l3 = rows hund 256 ++ [plt0] := ⟨_, rfl⟩
 rw [<- jqX plt0, <- jh6, <- hl3] at hb'
 have hl3n : l3.length = 257 := by rw [hl3, List.length_append, jhG]; rfl
 have hl3t : ∀ j, j < 257 -> PltLt (l3.getD j plt0) := fun j hj => by
  rw [hl3]
  by_cases hj2 : j < 256
  ·
   rw [List.getD_eq_getElem?_getD, List.getElem?_append_left (by rw [jhG]; exact hj2), <- List.getD_eq_getElem?_getD, jqS hj2]; exact hund_lt (by omega)
  obtain rfl : j = 256 := by omega
  rw [List.getD_eq_getElem?_getD, List.getElem?_append_right (by rw [jhG]; exact Nat.le_refl _), jhG]
  exact plt0_lt
 obtain ⟨L3, hL3⟩ : ∃ L3, L3 = Mo ++ M' := ⟨_, rfl⟩
 have hL3o : Own w0 L3 := by rw [hL3]; exact hbo.own.app hb'.own
 rw [List.append_assoc (k2.bks ++ d2.bks), <- hL3] at hs
 refine Rw rfl ?_
 refine Lc f_11 rfl (pstep w0 w 2 257 k2 d2 4611686018427387904 a' c' l3 L3 hs hx2 (by decide) hL3o (fun w' L' h1 _ h2 => Bl.slcM hb' h1 (fun p hp => h2 p (by rw [hL3]; exact List.mem_append_right _ hp))) hl3n (by decide) hl3t (by decide)) ?_
 rintro _ w3 ⟨rfl, k3, d3, hx3, e5, e6, hs1, told, hU⟩
 rw [<- e5, <- e6]
 have r3 := hU.r.trans r2
 have l3' := hU.last
 clear hs hU hL hLo hlM hoM hlS hoS
 have hs := hs1
 clear hs1
 refine Rw rfl (jcP rfl (Lpf rfl (Lm rfl (Gm rfl rfl (Gm rfl rfl (Rw rfl (jbE rfl rfl (Pl.builtN Tryz.pl38 rfl) (Rw rfl (Lc f_9 rfl (pmoveQ w0 w3 3 k3 d3 9 0 L3 hs hx3 (by decide) hL3o (by decide) (by decide)) ?_)))))))))
 rintro _ w4 ⟨rfl, hs1⟩
 clear hs
 have hs := hs1
 clear hs1
 refine Rw rfl (jcP rfl (Lpf rfl (Rt (Wf rfl ?_))))
 have hoS : ∀ w' L', HS w0 w' L' -> Own w0 L' -> (∀ p ∈ L3, p ∈ L') -> SlC w' ao (pcs [jmU]) := fun w' L' h1 _ h2 => SlC.pre (by rw [<- jh6, <- rows_pre]; exact Bl.slcM hbo h1 (fun p hp => h2 p (by rw [hL3]; exact List.mem_append_left _ hp)))
 have hfl : ∀ i, i < 1 -> PltLt ([jmU].getD i plt0) := fun i hi => by
  obtain rfl : i = 0 := by omega
  exact fiftyP_lt (i := 0) (by decide)
 have l3e : k3.last = ninf ∨ k3.last = 0 ∨ k3.last = 4607182418800017408 ∨ k3.last = 4611686018427387904 := by
  rcases l3' with h | h
  ·
   exact .inr (.inr (.inr h))
  rw [h]
  rcases l2 with h | h
  ·
   exact .inr (.inr (.inl h))
  rw [h]
  rcases l1 with h | h
  ·
   exact .inr (.inl h)
  exact .inl h
 obtain ⟨c, hc⟩ : ∃ c, c = 1074 := ⟨_, rfl⟩
 obtain ⟨⟨vx, hvx⟩, ⟨vy, hvy⟩⟩ := fifty_pt hc
 refine Ws (Wqq (Lmm rfl rfl (Lc f_11 rfl (pstep w0 w4 3 0 k3 d3 4613937818241073152 none 0 [] L3 hs hx3 (by decide) hL3o (fun w' _ _ _ _ => nil_sl w') rfl (by decide) (fun i hi => absurd hi (Nat.not_lt_zero _)) (by decide)) ?_)))
 rintro _ w5 ⟨rfl, k4, d4, hx4, e7, e8, hs1, told4, hU4⟩
 rw [<- e7, <- e8]
 rw [ref_three l3e] at hU4
 clear hs
 have hs := hs1
 clear hs1
 obtain ⟨r4, l4, _⟩ := jr2 hx3.ob hU4
 refine jcP rfl (Lm rfl (Gm rfl rfl (Gm rfl rfl (Rw rfl (Lc f_11 rfl (pstep w0 w5 4 0 k4 d4 4616189618054758400 none 0 [] L3 hs hx4 (by decide) hL3o (fun w' _ _ _ _ => nil_sl w') rfl (by decide) (fun i hi => absurd hi (Nat.not_lt_zero _)) (by decide)) ?_)))))
 rintro _ w6 ⟨rfl, k5, d5, hx5, e9, e10, hs1, told5, hU5⟩
 rw [<- e9, <- e10]
 rw [l4, ref_four] at hU5
 clear hs
 have hs := hs1
 clear hs1
 obtain ⟨r5, l5, g5⟩ := two_nil hx3.ob hx4.ob r3 hU4 hU5
 refine Rw rfl (jcP rfl (Lpf rfl (Lm rfl (Gm rfl rfl (Gm rfl rfl (Gm rfl rfl (Rw rfl (jaT rfl (jgH jeA jg7 rfl rfl (show (1 : Int) = ((1 : Nat) : Int) from rfl) (by omega)) ?_))))))))
 refine Rw rfl (Lc f_11 rfl (pstep w0 w6 5 1 k5 d5 4617315517961601024 ao co [jmU] L3 hs hx5 (by decide) hL3o hoS rfl (by decide) hfl (by decide)) ?_)
 rintro _ w7 ⟨rfl, k6, d6, hx6, e11, e12, hs1, told6, hU6⟩
 rw [<- e11, <- e12]
 rw [l5, ref_five] at hU6
 clear hs
 have hs := hs1
 clear hs1
 obtain ⟨r6, l6, o6, ho6, hz6⟩ := one_new hc hvx hvy r5 g5 hU6
 refine Rw rfl (jcP rfl (Lpf rfl (Lm rfl (Gm rfl rfl (Gm rfl rfl (Rw rfl (jbE rfl rfl (Pl.builtN Tryz.pl38 rfl) (Rw rfl (Lc f_9 rfl (pmoveQ w0 w7 6 k6 d6 9 0 L3 hs hx6 (by decide) hL3o (by decide) (by decide)) ?_)))))))))
 rintro _ w8 ⟨rfl, hs1⟩
 clear hs
 have hs := hs1
 clear hs1
 refine Rw rfl (jcP rfl (Lpf rfl (Rt (Wf rfl (Ws (Wqq (La rfl (Rt (ja4 (jcK (fun (k : Bok) (d : Dbk) (i : Nat) (w : World) => [(1, .pointer (some ⟨k.B, 0, none⟩)), (3, .pointer (some ⟨d.B, 0, none⟩)), (7, .slice ao 3 co), (9, .int .i64 i)]) (fun k d i w => w) (fun k d i w => (i <= 1027) /\ (TwoOk w0 (6 + i) k d) /\ (k.r = rW /\ k.last = tmF i /\ ∃ o, k.os = [o] /\ Zt c vx vy (tmF i) o) /\ (HS w0 w ((k.bks ++ d.bks) ++ L3))) (fun k d i w => 1027 - i) (k6) (d6) (0) (_) (is := [1, 3, 7, 9]) rfl rfl ?_ ?_))))))))))
 ·
  exact ⟨Nat.zero_le _, hx6, ⟨r6, by rw [tmF_0]; exact l6, o6, ho6, by rw [tmF_0]; exact hz6⟩, hs⟩
 clear hs
 intro k d i w hI
 show W _ _ _ _ [(1, .pointer (some ⟨k.B, 0, none⟩)), (3, .pointer (some ⟨d.B, 0, none⟩)), (7, .slice ao 3 co), (9, .int .i64 i)] w
 obtain ⟨hi, hx, ⟨hr, hl, o, ho, hz⟩, hs⟩ := hI
 have hlow := (hx.ob.low o (by rw [ho]; exact List.mem_singleton.2 rfl)).1
 by_cases hlt : i < 1027
 ·
  refine Wqq (Lm rfl (jaZ rfl (jaF (by omega)) ?_))
  refine Rt (Wt rfl (Ws (Wsq (ja4 (Wq (Lmm rfl rfl (Lm rfl (jbG rfl (ja3 (by omega)) ?_))))))))
  refine jqE rfl u_3 u_22 rfl (Lm rfl (jaT rfl (jgH jeA jg7 rfl rfl (show (1 : Int) = ((1 : Nat) : Int) from rfl) (by omega)) ?_))
  rw [show (6 + (i : Int)) = ((5 + (i + 1) : Nat) : Int) by omega]
  refine Lc f_11 rfl (pstep w0 w (6 + i) 1 k d (tmF (i + 1)) ao co [jmU] L3 hs hx (by omega) hL3o hoS rfl (by decide) hfl (tmF_lt _ (by omega))) ?_
  rintro _ w9 ⟨rfl, k', d', hx', f1, f2, hs1, told', hU⟩
  rw [<- f1, <- f2]
  rw [hl, tmF_ref (by omega)] at hU
  clear hs
  have hs := hs1
  clear hs1
  obtain ⟨T, hT⟩ := tmF_wait (i := i) hc (by omega)
  obtain ⟨r', l', o', ho', hz'⟩ := one_stay hc hvx hvy hr (by rw [<- hr]; exact hx.ob.rul) ho hlow hz hT hU
  refine jcP rfl (Rt (Wf rfl (jaY (jaB (Nt (Wr (Lm rfl (jbG rfl (ja3 (by omega)) ?_))))))))
  refine La rfl (Rnl (Nq (k', d', i + 1, _) [1, 3, 7, 9] rfl ?_ ?_))
  ·
   dsimp only
   exact ⟨by omega, hx', ⟨r', l', o', ho', hz'⟩, hs⟩
  show 1027 - (i + 1) < 1027 - i; omega
 obtain rfl : i = 1027 := by omega
 refine Wqq (Lm rfl (jaZ rfl (jaA (by omega)) ?_))
 refine Rt (Wf rfl (jaK (ja0 (ja8 (ja1 (Nt (Wq (Lm rfl ?_))))))))
 rw [List.append_assoc] at hs
 refine Lc f_12 rfl (jnB w0 w (6 + 1027) k (d.bks ++ L3) hs hx.ob (hx.od.own.app hL3o)) ?_
 rintro vt w1 ⟨M, hs1, hbt⟩
 clear hs
 rw [ho] at hbt
 replace hbt : Bl w0 51 15 vt 1 (tcs [o.t]) M := hbt
 obtain ⟨at', ct, rfl, hct⟩ := hbt.slice
 have hs : HS w0 w1 ((k.bks ++ d.bks) ++ (L3 ++ M)) := by
  have h1 := hs1
  rw [<- List.append_assoc, List.append_assoc (k.bks ++ d.bks)] at h1
  exact h1
 clear hs1
 have hLMo : Own w0 (L3 ++ M) := hL3o.app hbt.own
 have hts : SlC w1 at' (tcs [o.t]) := Bl.slcM hbt hs (fun p hp => List.mem_append_right _ (List.mem_append_right _ hp))
 have hid : (tcs [o.t])[0]? = some (.int .i64 o.t.id) := rfl
 have hao := hts.ao (by rw [jh2]; show 0 < 1 * 15; decide)
 refine La rfl (Rq (Lm rfl (Le jnA rfl (jdS rfl (jaF (by omega)) ?_))))
 refine Lm rfl (Gm rfl rfl (Gm rfl rfl (Gm rfl rfl (Rw rfl (LiN jnA jcE rfl jfV (by omega) hao ?_)))))
 refine Rw rfl (Lf 0 jcC rfl i_3 (Rw rfl (Ll o_3 rfl (by exact hts.get hid) ?_)))
 refine Rw rfl (jbE rfl rfl (Pl.builtN Tryz.pl38 rfl) (Rw rfl (Lc f_9 rfl (pmoveQ w0 w1 (6 + 1027) k d 3 o.t.id (L3 ++ M) hs hx (by decide) hLMo (by decide) (by decide)) ?_)))
 rintro _ w2 ⟨rfl, hs1⟩
 clear hs
 refine Lpt rfl (Lm rfl (Rw rfl (Lc f_6 rfl (wakes_ok w2) ?_)))
 rintro _ w3 ⟨rfl, hs2⟩
 have hs := hs1.nil hs2
 clear hs1 hs2
 refine Lpt rfl (La rfl (Rt (jaW (ja9 rfl rfl ?_))))
 exact ⟨_, rfl, rfl, hs.forget ((hx.ob.own.app hx.od.own).app hLMo)⟩
end Go.Proofs.YtffobakdngbadaaGreat