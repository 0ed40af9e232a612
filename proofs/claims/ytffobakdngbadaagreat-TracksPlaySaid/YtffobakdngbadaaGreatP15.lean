/-
  A part of the proof: laws for walks, and plain laws, over any program of the model. Each theorem holds under its own premises alone.
-/
import Derived.Test.YtffobakdngbadaaGreatKit
import Derived.Test.YtffobakdngbadaaGreatP14
import Derived.Test.YtffobakdngbadaaGreatP10
import Derived.Test.YtffobakdngbadaaGreatKitY
import Derived.HandedShaped
namespace Go.Proofs.YtffobakdngbadaaGreat
open Go Go.Lk
def s7 : Stt := ⟨13842939354630062080, 0, 0, 0, 0⟩
def t9 : Trk := { trk0 with id := -9 }
def s8 : Stt := ⟨13844065254536904704, 0, 0, 0, 0⟩
structure MvIn (w0 : World) (N : Nat) (k : Bok) (d : Dbk) (m : Mv) (L : Bks) : Prop where
 ob : k.ok w0 N
 od : d.ok w0 N
 eq : BEq k d.k
 hl : HL k
 N : N + 1 <= 1024
 own : Own w0 L
 pl : ∀ w' L', HS w0 w' L' -> Own w0 L' -> (∀ p ∈ L, p ∈ L') -> SlC w' m.a (pcs m.ps)
 len2 : m.ps.length <= 900000
 lt : ∀ i, i < m.ps.length -> PltLt (m.ps.getD i plt0)
 time : m.time < 18446744073709551616
 next : k.next + 256 <= 1000000
set_option maxHeartbeats 4000000 in
theorem move_ok (w0 w : World) (N : Nat) (k : Bok) (d : Dbk) (m : Mv) (L : Bks) (hs : HS w0 w (k.bks ++ (d.bks ++ L))) (hI : MvIn w0 N k d m L) :
  Ret Tryz.prog 9 [bv k.B, bv d.B, .agg m.cells.toArray] w fun v w' => v = .bool true /\ ∃ (k' : Bok) (d' : Dbk), k'.ok w0 (N + 1) /\ d'.ok w0 (N + 1) /\ BEq k' d'.k /\ HL k' /\ k'.B = k.B /\ d'.B = d.B /\ k'.r = k.r /\ k'.next <= k.next + 256 /\ HS w0 w' (k'.bks ++ (d'.bks ++ L)) /\ (m.q ≠ 0 -> m.q ≠ 1 -> k' = k /\ d' = d) := by
 have hk := hI.ob
 have hd := hI.od
 have hN := hI.N
 have hbe := hI.eq
 obtain ⟨id, hid⟩ : ∃ id, id = m.id := ⟨_, rfl⟩
 refine calls_of_W Tryz.func9 rfl rfl rfl (Wq (L_box rfl hs rfl ?_))
 intro b5 w hb5 hnb5 hs
 dsimp only [sS, sZ, sA, sN] at hs
 obtain ⟨L5, hL5⟩ : ∃ L5, L5 = L ++ [(b5, Row 38 m.cells)] := ⟨_, rfl⟩
 have hL5o : Own w0 L5 := by rw [hL5]; exact hI.own.app (Own.cons hb5 Own.nil)
 replace hs : HS w0 w (k.bks ++ (d.bks ++ L5)) := by
  have h1 : HS w0 w ((k.bks ++ (d.bks ++ L)) ++ [(b5, Row 38 m.cells)]) := hs
  rw [hL5]; exact HS.re h1 (fun c => by simp only [mpA, mpC, mpN, smA, smC, smN]; omega)
 have h5L : (b5, Row 38 m.cells) ∈ L5 := by rw [hL5]; exact List.mem_append_right _ (List.mem_singleton.2 rfl)
 have hLL5 : ∀ p ∈ L, p ∈ L5 := fun p hp => by rw [hL5]; exact List.mem_append_left _ hp
 have hmI : ∀ {w' : World} {L' : Bks}, HS w0 w' L' -> (∀ p ∈ L5, p ∈ L') -> w'.cell? ((Addr.mk b5 0 none).add 3) = some (.int .i64 id) := fun h1 h2 => cellAM h1 (h2 _ h5L) (by rw [hid]; rfl)
 have hin1 : ∀ {A : Bks}, ∀ p ∈ L5, p ∈ A ++ (d.bks ++ L5) := fun {A} p hp => List.mem_append_right _ (List.mem_append_right _ hp)
 have hdrop : ∀ {w' : World} {A B : Bks}, HS w0 w' (A ++ (B ++ L5)) -> HS w0 w' (A ++ (B ++ L)) := fun {w' A B} h => by
  rw [hL5, <- List.append_assoc, <- List.append_assoc, List.append_assoc A] at h
  exact HS.dropR h (Own.cons hb5 Own.nil)
 have hmore1 := hk.more (Nat.le_succ N)
 have hmore2 := hd.more (Nat.le_succ N)
 have hnx0 : k.next <= k.next + 256 := by omega
 refine La rfl (Rqq (Lf 0 u_38 rfl i_3 (Ll o_3 rfl (by exact cellAM hs (hin1 _ h5L) (j := 0) rfl) ?_)))
 refine Rt (W_block (Wq (Ceql rfl rfl (La rfl (Rt ?_)))))
 by_cases h0 : m.q = 0
 ·
  refine W_set 22 (v' := .bool true) rfl ((congrArg Value.bool (decide_eq_true h0))) (Wt rfl (Wq (Lmm rfl rfl (Lf 1 u_38 rfl i_22 (Ll o_22 rfl (by exact cellAM hs (hin1 _ h5L) (j := 1) rfl) ?_)))))
  refine Lf 2 u_38 rfl i_36 (Ll o_36 rfl (by exact cellAM hs (hin1 _ h5L) (j := 2) rfl) ?_)
  refine Lc f_11 rfl (lstep_ok w0 w N m.ps.length k d m.time m.a m.c m.ps L5 hs ⟨hk, hd, hbe, hN, hL5o, fun w' L' h1 h2 h3 => hI.pl w' L' h1 h2 (fun p hp => h3 p (hLL5 p hp)), rfl, hI.len2, hI.lt, hI.time, hI.next⟩) ?_
  rintro _ w1 ⟨rfl, k', d', hk', hd', hbe', hkB, hdB, hkr, hkn, hs1, told, er, hU⟩
  refine La rfl (Rt (Wret (Ex_block_ret (Ex_then_ret (Ex_done1 rfl rfl ?_)))))
  exact ⟨_, rfl, rfl, k', d', hk', hd', hbe', StpU.HL hI.hl hU, hkB, hdB, hkr, hkn, hdrop hs1, fun h => absurd h0 h⟩
 refine W_set 22 (v' := .bool false) rfl ((congrArg Value.bool (decide_eq_false h0))) (Wf rfl ?_)
 by_cases h1 : m.q = 1
 ·
  refine Wq (Ceql rfl (dtrue (by omega)) ?_)
  refine La rfl (Rt (Wt rfl (Wq (Lm rfl (Lf 3 u_38 rfl i_3 (Ll o_3 rfl (by exact hmI hs hin1) ?_))))))
  obtain ⟨Ld, hLd⟩ : ∃ Ld, Ld = k.bks ++ L5 := ⟨_, rfl⟩
  have hLdo : Own w0 Ld := by rw [hLd]; exact hk.own.app hL5o
  have hsd : HS w0 w (d.bks ++ Ld) := by rw [hLd]; exact HS.re hs (fun c => by simp only [mpA, mpC, mpN, smA, smC, smN]; omega)
  clear hs
  refine Lc f_21 rfl (ddrop_ok w0 w N d Ld id hsd hd hLdo) ?_
  rintro _ w1 (⟨⟨o, ho, hoid⟩, rfl, d', hdB, hdk, hd', hs1⟩ | ⟨hno, rfl, hs1⟩)
  ·
   obtain ⟨u, hu, he⟩ := hbe.find ho
   obtain ⟨Lk, hLk⟩ : ∃ Lk, Lk = d'.bks ++ L5 := ⟨_, rfl⟩
   have hs : HS w0 w1 (k.bks ++ Lk) := by rw [hLk]; rw [hLd] at hs1; exact HS.re hs1 (fun c => by simp only [mpA, mpC, mpN, smA, smC, smN]; omega)
   clear hs1 hsd
   have hin2 : ∀ p ∈ L5, p ∈ k.bks ++ Lk := fun p hp => by rw [hLk]; exact List.mem_append_right _ (List.mem_append_right _ hp)
   have huid : u.t.id = id := he.t.id.trans hoid
   refine La rfl (Rq (Lm rfl (Lf 3 u_38 rfl i_3 (Ll o_3 rfl (by exact hmI hs hin2) ?_))))
   have hR := drop_some w0 w1 N k Lk u hs hk hu
   rw [huid] at hR
   refine Lc f_16 rfl (hR) ?_
   rintro _ w2 ⟨rfl, hs1⟩
   refine Lm rfl (Ceql rfl (dtrue (by omega)) ?_)
   refine La rfl (Rt (Wret (Ex_block_ret (Ex_then_ret (Ex_done1 rfl rfl ?_)))))
   rw [hLk] at hs1
   have hbe' : BEq { k with os := outId id k.os } d'.k := by rw [hdk]; exact hbe.out id
   exact ⟨_, rfl, rfl, { k with os := outId id k.os }, d', (Bok.ok.out hk id).more (Nat.le_succ N), hd'.more (Nat.le_succ N), hbe', HL.out hI.hl id, rfl, hdB, rfl, hnx0, hdrop hs1, fun _ h => absurd h1 h⟩
  obtain ⟨Lk, hLk⟩ : ∃ Lk, Lk = d.bks ++ L5 := ⟨_, rfl⟩
  have hs : HS w0 w1 (k.bks ++ Lk) := by rw [hLk]; rw [hLd] at hs1; exact HS.re hs1 (fun c => by simp only [mpA, mpC, mpN, smA, smC, smN]; omega)
  clear hs1 hsd
  have hin2 : ∀ p ∈ L5, p ∈ k.bks ++ Lk := fun p hp => by rw [hLk]; exact List.mem_append_right _ (List.mem_append_right _ hp)
  refine La rfl (Rq (Lm rfl (Lf 3 u_38 rfl i_3 (Ll o_3 rfl (by exact hmI hs hin2) ?_))))
  refine Lc f_16 rfl (drop_none w0 w1 N k Lk id hs hk (hbe.none hno)) ?_
  rintro _ w2 ⟨rfl, hs1⟩
  refine Lm rfl (Ceql rfl (dtrue (by omega)) ?_)
  refine La rfl (Rt (Wret (Ex_block_ret (Ex_then_ret (Ex_done1 rfl rfl ?_)))))
  rw [hLk] at hs1
  exact ⟨_, rfl, rfl, k, d, hmore1, hmore2, hbe, hI.hl, rfl, rfl, rfl, hnx0, hdrop hs1, fun _ _ => ⟨rfl, rfl⟩⟩
 refine Wq (Ceql rfl (dfalse (by omega)) ?_)
 refine La rfl (Rt (Wf rfl ?_))
 by_cases h2 : m.q = 2
 ·
  refine Wq (Ceql rfl (dtrue (by omega)) ?_)
  refine La rfl (Rt (Wt rfl (Wq (Lm rfl (Lf 3 u_38 rfl i_3 (Ll o_3 rfl (by exact hmI hs hin1) ?_))))))
  obtain ⟨Ld, hLd⟩ : ∃ Ld, Ld = k.bks ++ L5 := ⟨_, rfl⟩
  have hLdo : Own w0 Ld := by rw [hLd]; exact hk.own.app hL5o
  have hsd : HS w0 w (d.bks ++ Ld) := by rw [hLd]; exact HS.re hs (fun c => by simp only [mpA, mpC, mpN, smA, smC, smN]; omega)
  clear hs
  have hR : Ret Tryz.prog 22 [bv d.B, .int .i64 id] w fun v w' => ∃ (g t : Trk) (is : Bool), v = .tuple #[.agg t.cells.toArray, .bool is] /\ TEq g t /\ HS w0 w' (d.bks ++ Ld) /\ ∀ (w1 : World) (Lk : Bks), HS w0 w1 (k.bks ++ Lk) -> Ret Tryz.prog 15 [bv k.B, .int .i64 id] w1 fun v w' => v = .tuple #[.agg g.cells.toArray, .bool is] /\ HS w0 w' (k.bks ++ Lk) := by
   refine Ret.imp' (dget_ok w0 w N d Ld id hsd hd) ?_
   rintro v w' ⟨⟨o, ho, hoid, rfl⟩ | ⟨hno, rfl⟩, hs1⟩
   ·
    obtain ⟨u, hu, he⟩ := hbe.find ho
    refine ⟨u.t, o.t, true, rfl, he.t, hs1, fun w1 Lk h1 => ?_⟩
    have h2 := get_some w0 w1 N k Lk u h1 hk hu
    rw [he.t.id.trans hoid] at h2
    exact h2
   exact ⟨trk0, trk0, false, rfl, TEq.refl _, hs1, fun w1 Lk h1 => get_none w0 w1 N k Lk id h1 hk (hbe.none hno)⟩
  refine Lc f_22 rfl (hR) ?_
  rintro _ w1 ⟨gt, dt, is, rfl, hte, hs1, hget⟩
  clear hsd hR
  have hs := hs1
  clear hs1
  refine Lm rfl (Lx rfl rfl (Lx rfl rfl ?_))
  refine L_alloc rfl hs i_51 ?_; intro b8 w hb8 _ hs; replace hs := HS.push hs
  refine L_storeA hs (i := 0) rfl i_51 rfl rfl (by rfl) (by simp [Trk.cells]) (by exact Trk.one _) ?_
  intro w hs
  dsimp only [sS, sZ, sA, sN] at hs
  replace hs : HS w0 w (k.bks ++ ((b8, Row 51 dt.cells) :: (d.bks ++ L5))) := by
   have h1 : HS w0 w ((b8, Row 51 dt.cells) :: (d.bks ++ Ld)) := hs
   rw [hLd] at h1
   exact HS.re h1 (fun c => by simp only [mpA, mpC, mpN, smA, smC, smN]; omega)
  obtain ⟨Lk, hLk⟩ : ∃ Lk, Lk = (b8, Row 51 dt.cells) :: (d.bks ++ L5) := ⟨_, rfl⟩
  rw [<- hLk] at hs
  have hin2 : ∀ p ∈ L5, p ∈ k.bks ++ Lk := fun p hp => by rw [hLk]; exact List.mem_append_right _ (List.mem_cons_of_mem _ (List.mem_append_right _ hp))
  have h8L : (b8, Row 51 dt.cells) ∈ k.bks ++ Lk := by rw [hLk]; exact List.mem_append_right _ (List.mem_cons_self ..)
  refine La rfl (Rq (Lm rfl (Lf 3 u_38 rfl i_3 (Ll o_3 rfl (by exact hmI hs hin2) ?_))))
  refine Lc f_15 rfl (hget w Lk hs) ?_
  rintro _ w1 ⟨rfl, hs1⟩
  clear hs
  have hs := hs1
  clear hs1
  refine Lm rfl (Lx rfl rfl (Lx rfl rfl ?_))
  refine L_alloc rfl hs i_51 ?_; intro b10 w hb10 _ hs; replace hs := HS.push hs
  refine L_storeA hs (i := 0) rfl i_51 rfl rfl (by rfl) (by simp [Trk.cells]) (by exact Trk.one _) ?_
  intro w hs
  dsimp only [sS, sZ, sA, sN] at hs
  replace hs : HS w0 w ((b10, Row 51 gt.cells) :: (k.bks ++ Lk)) := hs
  refine La rfl (Rq (Lmm rfl rfl (RL_val rfl (R_beql u_4 rfl rfl) (RL_set 61 (v' := .bool true) rfl ((by cases is <;> rfl)) ?_))))
  refine Lm rfl (Rw rfl (L_loadA rfl a_51 i_51 rfl (by exact cellsAt_whole (cs := gt.cells) (hs.get (i := 0) rfl)) ?_))
  refine Rw rfl (L_loadA rfl a_51 i_51 rfl (by exact cellsAt_whole (cs := dt.cells) (hs.has _ (List.mem_cons_of_mem _ h8L))) ?_)
  refine Rw rfl (Lc f_23 rfl (sameTrack_ok gt dt hte w) ?_)
  rintro _ w1 ⟨rfl, hs'⟩
  have hs1 := hs.nil hs'
  clear hs hs'
  have hs := HS.pop hs1 hb10
  clear hs1
  refine Lpt rfl (La rfl (Rt (Wret (Ex_block_ret (Ex_then_ret (Ex_done1 rfl rfl ?_))))))
  have hs1 : HS w0 w1 (k.bks ++ (d.bks ++ L5)) := by
   rw [hLk] at hs
   have h1 : HS w0 w1 ((b8, Row 51 dt.cells) :: (k.bks ++ (d.bks ++ L5))) := HS.re hs (fun c => by simp only [mpA, mpC, mpN, smA, smC, smN]; omega)
   exact HS.pop h1 hb8
  exact ⟨_, rfl, rfl, k, d, hmore1, hmore2, hbe, hI.hl, rfl, rfl, rfl, hnx0, hdrop hs1, fun _ _ => ⟨rfl, rfl⟩⟩
 refine Wq (Ceql rfl (dfalse (by omega)) ?_)
 refine La rfl (Rt (Wf rfl ?_))
 by_cases h3 : m.q = 3
 ·
  refine Wq (Ceql rfl (dtrue (by omega)) ?_)
  refine La rfl (Rt (Wt rfl (Wq (Lm rfl (Lf 3 u_38 rfl i_3 (Ll o_3 rfl (by exact hmI hs hin1) ?_))))))
  obtain ⟨Ld, hLd⟩ : ∃ Ld, Ld = k.bks ++ L5 := ⟨_, rfl⟩
  have hLdo : Own w0 Ld := by rw [hLd]; exact hk.own.app hL5o
  have hsd : HS w0 w (d.bks ++ Ld) := by rw [hLd]; exact HS.re hs (fun c => by simp only [mpA, mpC, mpN, smA, smC, smN]; omega)
  clear hs
  refine Lc f_24 rfl (dpastU w0 w N d Ld id hsd hd) ?_
  rintro _ w1 ⟨vX, vY, X, Y, MX, MY, rfl, hs1, hpi, hbX, hbY, hMX, hMY, hXN⟩
  clear hsd
  obtain ⟨Lk, hLk⟩ : ∃ Lk, Lk = d.bks ++ L5 := ⟨_, rfl⟩
  have hLko : Own w0 Lk := by rw [hLk]; exact hd.own.app hL5o
  have hs : HS w0 w1 (k.bks ++ Lk) := by rw [hLk]; rw [hLd] at hs1; exact HS.re hs1 (fun c => by simp only [mpA, mpC, mpN, smA, smC, smN]; omega)
  clear hs1
  obtain ⟨X', Y', hpk, hX, hY⟩ := hpi.eq hbe
  have hXY : X'.length = Y'.length := hpk.len hI.hl
  have hXl : X'.length = X.length := by have := congrArg List.length hX; rwa [List.length_map, List.length_map] at this
  have hYl : Y'.length = Y.length := by have := congrArg List.length hY; rwa [List.length_map, List.length_map] at this
  obtain ⟨n, hn⟩ : ∃ n, n = X'.length := ⟨_, rfl⟩
  rw [show X.length = n by omega] at hbX hXN
  rw [show Y.length = n by omega] at hbY
  obtain ⟨aX, cX, rfl, _⟩ := hbX.slice
  obtain ⟨aY, cY, rfl, _⟩ := hbY.slice
  have hMXk : ∀ p ∈ MX, p ∈ Lk := fun p hp => by rw [hLk]; exact List.mem_append_left _ (hMX p hp)
  have hMYk : ∀ p ∈ MY, p ∈ Lk := fun p hp => by rw [hLk]; exact List.mem_append_left _ (hMY p hp)
  have hin2 : ∀ p ∈ L5, p ∈ k.bks ++ Lk := fun p hp => by rw [hLk]; exact List.mem_append_right _ (List.mem_append_right _ hp)
  refine Lm rfl (Lx rfl rfl (Lx rfl rfl (La rfl (La rfl (Rq (Lm rfl (Lf 3 u_38 rfl i_3 (Ll o_3 rfl (by exact hmI hs hin2) ?_))))))))
  refine Lc f_14 rfl (pastU w0 w1 N k Lk id X' Y' hs hk hLko (by omega) hpk) ?_
  rintro _ w2 ⟨vp, Mp, vq, Mq, rfl, hs1, hbp, hbq⟩
  clear hs
  have hs := hs1
  clear hs1
  rw [<- hn] at hbp
  rw [<- hXY, <- hn] at hbq
  obtain ⟨ap, cp, rfl, _⟩ := hbp.slice
  obtain ⟨aq, cq, rfl, _⟩ := hbq.slice
  obtain ⟨lf, rfl, hlfB, hlfR⟩ := Bl.funG (c := Stt.cells) (fun _ => rfl) hbp
  obtain ⟨lg, rfl, hlgB, hlgR⟩ := Bl.funG (c := Stt.cells) (fun _ => rfl) hbq
  obtain ⟨Z, hZ⟩ : ∃ Z, Z = k.bks ++ Lk := ⟨_, rfl⟩
  have hZo : Own w0 Z := by rw [hZ]; exact hk.own.app hLko
  replace hs : HS w0 w2 (Z ++ (lf X' ++ lg Y')) := by rw [hZ]; exact hs
  refine Lm rfl (Lx rfl rfl (Lx rfl rfl (La rfl (La rfl (Rqq (Lmm rfl rfl ?_))))))
  refine Lc f_25 rfl (states_ok ap aX n cp cX X' X hX w2 (Bl.slcM hbp hs (fun p hp => List.mem_append_right _ (List.mem_append_left _ hp))) (Bl.slcM hbX hs (fun p hp => List.mem_append_left _ (by rw [hZ]; exact List.mem_append_right _ (hMXk p hp)))) hn.symm (by omega)) ?_
  rintro _ w3 ⟨rfl, hs'⟩
  replace hs := hs.nil hs'
  clear hs'
  refine Lnot rfl (Lm rfl (Gm rfl rfl (Gm rfl rfl (Rw rfl ?_))))
  refine Lc f_25 rfl (states_ok aq aY n cq cY Y' Y hY w3 (Bl.slcM hbq hs (fun p hp => List.mem_append_right _ (List.mem_append_right _ hp))) (Bl.slcM hbY hs (fun p hp => List.mem_append_left _ (by rw [hZ]; exact List.mem_append_right _ (hMYk p hp)))) (by omega) (by omega)) ?_
  rintro _ w4 ⟨rfl, hs'⟩
  replace hs := hs.nil hs'
  clear hs'
  refine Rw rfl (Lnot rfl (Lpf rfl (Rt (Wf rfl (Ws (Wqq (La rfl (Rt (W_block (W_loop4 (fun (P : List Stt) (Q : List Stt) (i : Nat) (w : World) => [(0, bv k.B), (5, .pointer (some ⟨b5, 0, none⟩)), (12, .slice aX n cX), (13, .slice aY n cY), (14, .slice ap n cp), (15, .slice aq n cq), (16, .int .i64 i)]) (fun P Q i w => w) (fun P Q i w => (i <= n) /\ (P.length = n /\ Q.length = n) /\ (HS w0 w (Z ++ (lf P ++ lg Q)))) (fun P Q i w => n - i) (X') (Y') (0) (_) (is := [0, 5, 12, 13, 14, 15, 16]) rfl rfl ?_ ?_))))))))))
  ·
   exact ⟨Nat.zero_le _, ⟨hn.symm, by omega⟩, hs⟩
  clear hs
  intro P Q i w hI
  show W _ _ _ _ [(0, bv k.B), (5, .pointer (some ⟨b5, 0, none⟩)), (12, .slice aX n cX), (13, .slice aY n cY), (14, .slice ap n cp), (15, .slice aq n cq), (16, .int .i64 i)] w
  obtain ⟨hi, ⟨hP, hQ⟩, hs⟩ := hI
  by_cases hlt : i < n
  ·
   obtain ⟨gp, sp, rfl, hlf⟩ := hlfR (by omega)
   obtain ⟨gq, sq, rfl, hlg⟩ := hlgR (by omega)
   rw [hlf, hlg] at hs
   replace hs : HS w0 w ((gp, Row 48 (P.flatMap Stt.cells ++ sp)) :: (gq, Row 48 (Q.flatMap Stt.cells ++ sq)) :: Z) := HS.re hs (fun c => by simp only [mpA, mpC, mpN, smA, smC, smN]; omega)
   refine Wqq (Lmm rfl rfl (Le u_55 rfl (Clss rfl (dtrue (by omega)) ?_)))
   refine Rt (Wt rfl (Ws (Wsq (W_block (Wq (Lmm rfl rfl (L_build rfl rfl (Pl.builtN Tryz.pl48 rfl) (RL_set 101 (v' := .agg s7.cells.toArray) rfl (rfl) (LiN u_55 i_48 rfl (natc_k _) (by omega) rfl ?_)))))))))
   refine L_storeA hs (i := 0) rfl i_48 rfl rfl (by exact add_lit0 _ _) (by rw [List.length_append, flat_len (sz := 5) (fun _ => rfl)]; show i * 5 + 5 <= _; omega) (by exact Stt.one _) ?_
   intro w hs
   dsimp only [sS, sZ, sA, sN] at hs
   refine Rr (Lmm rfl rfl (L_build rfl rfl (Pl.builtN Tryz.pl48 rfl) (RL_set 105 (v' := .agg s8.cells.toArray) rfl (rfl) (LiN u_55 i_48 rfl (natc_k _) (by omega) rfl ?_))))
   refine L_storeA hs (i := 1) rfl i_48 rfl rfl (by exact add_lit0 _ _) (by rw [List.length_append, flat_len (sz := 5) (fun _ => rfl)]; show i * 5 + 5 <= _; omega) (by exact Stt.one _) ?_
   intro w hs
   dsimp only [sS, sZ, sA, sN] at hs
   refine Rnl (Nx_block (Nt (Wr (Lm rfl (Cadd rfl (wrp_i64 (by omega)) ?_)))))
   refine La rfl (Rnl ?_)
   have hs1 : HS w0 w (Z ++ (lf (P.set i s7) ++ lg (Q.set i s8))) := by
    have h1 : HS w0 w ((gp, Row 48 ((P.flatMap Stt.cells ++ sp).take (i * 5) ++ s7.cells ++ (P.flatMap Stt.cells ++ sp).drop (i * 5 + s7.cells.length))) :: (gq, Row 48 ((Q.flatMap Stt.cells ++ sq).take (i * 5) ++ s8.cells ++ (Q.flatMap Stt.cells ++ sq).drop (i * 5 + s8.cells.length))) :: Z) := hs
    rw [flat_set (c := Stt.cells) (sz := 5) (xs := P) (fun _ => rfl) (by omega), flat_set (c := Stt.cells) (sz := 5) (xs := Q) (fun _ => rfl) (by omega)] at h1
    rw [hlf, hlg]
    exact HS.re h1 (fun c => by simp only [mpA, mpC, mpN, smA, smC, smN]; omega)
   clear hs
   refine Nq (P.set i s7, Q.set i s8, i + 1, _) [0, 5, 12, 13, 14, 15, 16] rfl ?_ ?_
   ·
    dsimp only
    exact ⟨by omega, ⟨by rw [List.length_set]; exact hP, by rw [List.length_set]; exact hQ⟩, hs1⟩
   show n - (i + 1) < n - i; omega
  refine Wqq (Lmm rfl rfl (Le u_55 rfl (Clss rfl (dfalse (by omega)) ?_)))
  refine Rt (Wf rfl ?_)
  have hs1 := HS.dropR hs ((hlfB P hP).own.app (hlgB Q hQ).own)
  rw [hZ] at hs1
  clear hs
  have hs := hs1
  clear hs1
  refine W_exit' (Ex_then_exit (Ex_loop_exit (Ex_block_hit (Nt (Wq (Lm rfl (Lf 3 u_38 rfl i_3 (Ll o_3 rfl (by exact hmI hs hin2) ?_))))))))
  refine Lc f_14 rfl (pastU w0 w N k Lk id X' Y' hs hk hLko (by omega) hpk) ?_
  rintro _ w2 ⟨vp, Mp, vq, Mq, rfl, hs1, hbp, hbq⟩
  clear hs
  have hs := hs1
  clear hs1
  rw [<- hn] at hbp
  rw [<- hXY, <- hn] at hbq
  obtain ⟨bp, ep, rfl, _⟩ := hbp.slice
  obtain ⟨bq, eq, rfl, _⟩ := hbq.slice
  refine Lm rfl (Lx rfl rfl (Lx rfl rfl (La rfl (La rfl (Rq (Lmm rfl rfl (Lc f_25 rfl (states_ok bp aX n ep cX X' X hX w2 (Bl.slcM hbp hs (fun p hp => List.mem_append_right _ (List.mem_append_left _ hp))) (Bl.slcM hbX hs (fun p hp => List.mem_append_left _ (List.mem_append_right _ (hMXk p hp)))) hn.symm (by omega)) ?_)))))))
  rintro _ w3 ⟨rfl, hs'⟩
  replace hs := hs.nil hs'
  clear hs'
  refine Lm rfl (Gm rfl rfl (Gm rfl rfl (Rw rfl (Lc f_25 rfl (states_ok bq aY n eq cY Y' Y hY w3 (Bl.slcM hbq hs (fun p hp => List.mem_append_right _ (List.mem_append_right _ hp))) (Bl.slcM hbY hs (fun p hp => List.mem_append_left _ (List.mem_append_right _ (hMYk p hp)))) (by omega) (by omega)) ?_))))
  rintro _ w4 ⟨rfl, hs'⟩
  replace hs := hs.nil hs'
  clear hs'
  refine Lpt rfl (La rfl (Rt (Wret (Ex_block_ret (Ex_then_ret (Ex_done1 rfl rfl ?_))))))
  have hs1 := HS.dropR hs (hbp.own.app hbq.own)
  rw [hLk] at hs1
  exact ⟨_, rfl, rfl, k, d, hmore1, hmore2, hbe, hI.hl, rfl, rfl, rfl, hnx0, hdrop hs1, fun _ _ => ⟨rfl, rfl⟩⟩
 refine Wq (Ceql rfl (dfalse (by omega)) ?_)
 refine La rfl (Rt (Wf rfl ?_))
 obtain ⟨Lk, hLk⟩ : ∃ Lk, Lk = d.bks ++ L5 := ⟨_, rfl⟩
 have hLko : Own w0 Lk := by rw [hLk]; exact hd.own.app hL5o
 rw [<- hLk] at hs
 refine W_skip' (Nx_block (Nt (Wq (Lm rfl (Lc f_12 rfl (tracks_ok w0 w N k Lk hs hk hLko) ?_)))))
 rintro _ w1 ⟨M, hs1, hbt⟩
 clear hs
 obtain ⟨n, hn⟩ : ∃ n, n = k.os.length := ⟨_, rfl⟩
 have hnd : d.k.os.length = n := by rw [hn]; exact (hbe.os.len)
 have hcnt := hk.cnt
 rw [<- hn] at hbt
 obtain ⟨at', ct, rfl, _⟩ := hbt.slice
 obtain ⟨Ld, hLd⟩ : ∃ Ld, Ld = L5 ++ (k.bks ++ M) := ⟨_, rfl⟩
 have hLdo : Own w0 Ld := by rw [hLd]; exact hL5o.app (hk.own.app hbt.own)
 have hs : HS w0 w1 (d.bks ++ Ld) := by rw [hLd]; rw [hLk] at hs1; exact HS.re hs1 (fun c => by simp only [mpA, mpC, mpN, smA, smC, smN]; omega)
 clear hs1
 have hMd : ∀ p ∈ M, p ∈ Ld := fun p hp => by rw [hLd]; exact List.mem_append_right _ (List.mem_append_right _ hp)
 refine La rfl (Rqq (Lmm rfl rfl (Lc f_27 rfl (dtracks_ok w0 w1 N d Ld hs hd) ?_)))
 rintro _ w2 ⟨M2, hs1, hbu⟩
 clear hs
 have hs := hs1
 clear hs1
 rw [hnd] at hbu
 obtain ⟨au, cu, rfl, _⟩ := hbu.slice
 refine Lc f_26 rfl (sameTracks_ok at' au n ct cu (k.os.map On.t) (d.k.os.map On.t) hbe.trks w2 (Bl.slcM hbt hs (fun p hp => List.mem_append_left _ (List.mem_append_right _ (hMd p hp)))) (Bl.slcM hbu hs (fun p hp => List.mem_append_right _ hp)) (by rw [List.length_map, hn]) (by omega)) ?_
 rintro _ w3 ⟨rfl, hs'⟩
 replace hs := hs.nil hs'
 clear hs'
 obtain ⟨lf, rfl, hlfB, hlfR⟩ := Bl.funG (c := Trk.cells) (fun _ => rfl) hbt
 obtain ⟨Z, hZ⟩ : ∃ Z, Z = M2 ++ (k.bks ++ (d.bks ++ L5)) := ⟨_, rfl⟩
 have hZo : Own w0 Z := by rw [hZ]; exact hbu.own.app (hk.own.app (hd.own.app hL5o))
 replace hs : HS w0 w3 (Z ++ lf (k.os.map On.t)) := by rw [hZ]; rw [hLd] at hs; exact HS.re hs (fun c => by simp only [mpA, mpC, mpN, smA, smC, smN]; omega)
 refine Lnot rfl (Rt (Wf rfl (Ws (Wqq (La rfl (Rt (W_block (W_loop3 (fun (P : List Trk) (i : Nat) (w : World) => [(17, .slice at' n ct), (18, .int .i64 i)]) (fun P i w => w) (fun P i w => (i <= n) /\ (P.length = n) /\ (HS w0 w (Z ++ lf P))) (fun P i w => n - i) (k.os.map On.t) (0) (_) (is := [17, 18]) rfl rfl ?_ ?_))))))))
 ·
  exact ⟨Nat.zero_le _, by rw [List.length_map, hn], hs⟩
 clear hs
 intro P i w hI
 show W _ _ _ _ [(17, .slice at' n ct), (18, .int .i64 i)] w
 obtain ⟨hi, hP, hs⟩ := hI
 by_cases hlt : i < n
 ·
  obtain ⟨gp, sp, rfl, hlf⟩ := hlfR (by omega)
  rw [hlf] at hs
  replace hs : HS w0 w ((gp, Row 51 (P.flatMap Trk.cells ++ sp)) :: Z) := HS.re hs (fun c => by simp only [mpA, mpC, mpN, smA, smC, smN]; omega)
  refine Wqq (Lmm rfl rfl (Le u_44 rfl (Clss rfl (dtrue (by omega)) ?_)))
  refine Rt (Wt rfl (Ws (Wsq (W_block (Wr (Lmm rfl rfl (L_build rfl rfl (Pl.builtN Tryz.pl51 rfl) (RL_set 137 (v' := .agg t9.cells.toArray) rfl (rfl) (LiN u_44 i_51 rfl (natc_k _) (by omega) rfl ?_)))))))))
  refine L_storeA hs (i := 0) rfl i_51 rfl rfl (by exact add_lit0 _ _) (by rw [List.length_append, flat_len (sz := 15) (fun _ => rfl)]; show i * 15 + 15 <= _; omega) (by exact Trk.one _) ?_
  intro w hs
  dsimp only [sS, sZ, sA, sN] at hs
  refine Rnl (Nx_block (Nt (Wr (Lm rfl (Cadd rfl (wrp_i64 (by omega)) ?_)))))
  refine La rfl (Rnl ?_)
  have hs1 : HS w0 w (Z ++ lf (P.set i t9)) := by
   have h1 : HS w0 w ((gp, Row 51 ((P.flatMap Trk.cells ++ sp).take (i * 15) ++ t9.cells ++ (P.flatMap Trk.cells ++ sp).drop (i * 15 + t9.cells.length))) :: Z) := hs
   rw [flat_set (c := Trk.cells) (sz := 15) (xs := P) (fun _ => rfl) (by omega)] at h1
   rw [hlf]
   exact HS.re h1 (fun c => by simp only [mpA, mpC, mpN, smA, smC, smN]; omega)
  clear hs
  refine Nq (P.set i t9, i + 1, _) [17, 18] rfl ?_ ?_
  ·
   dsimp only
   exact ⟨by omega, by rw [List.length_set]; exact hP, hs1⟩
  show n - (i + 1) < n - i; omega
 refine Wqq (Lmm rfl rfl (Le u_44 rfl (Clss rfl (dfalse (by omega)) ?_)))
 refine Rt (Wf rfl ?_)
 have hbt' := hlfB P hP
 obtain ⟨M3, hM3⟩ : ∃ M3, M3 = lf P := ⟨_, rfl⟩
 rw [<- hM3] at hs hbt'
 refine W_exit' (Ex_then_exit (Ex_loop_exit (Ex_block_hit (Nt (Wqq (La rfl (Rt (W_block (W_loop4 (fun (cb : VB) (P : List Trk) (i : Nat) (w : World) => [(17, cb.v), (19, .int .i64 i)]) (fun cb P i w => w) (fun cb P i w => (i <= 20) /\ (P.length = n + i) /\ (Bl w0 51 15 cb.v (n + i) (tcs P) cb.M) /\ (HS w0 w (Z ++ cb.M))) (fun cb P i w => 20 - i) (⟨.slice at' n ct, M3⟩) (P) (0) (_) (is := [17, 19]) rfl rfl ?_ ?_)))))))))
 ·
  exact ⟨Nat.zero_le _, hP, hbt', hs⟩
 clear hs
 intro cb P i w hI
 show W _ _ _ _ [(17, cb.v), (19, .int .i64 i)] w
 obtain ⟨hi, hP, hbc, hs⟩ := hI
 by_cases hlt : i < 20
 ·
  refine Wqq (Lm rfl (Clss rfl (dtrue (by omega)) ?_))
  refine Rt (Wt rfl (Ws (Wsq (W_block (Wr (Lm rfl (L_build rfl rfl (Pl.builtN Tryz.pl51 rfl) (L_buildSlice rfl hs u_44 i_51 rfl (by decide) rfl (by simp [Value.cells]) ?_))))))))
  intro b145 w hb145 hnb145 hs
  replace hs : HS w0 w ((Z ++ cb.M) ++ [(b145, Row 51 trk0.cells)]) := hs
  refine L_appendT (L := Z) rfl u_44 i_51 rfl hs hb145 hbc rfl rfl rfl (Trk.one _) (by omega) (by omega) ?_
  intro v' w M' hs hbc'
  refine La rfl (Rnl (Nx_block (Nt (Wr (Lm rfl (Cadd rfl (wrp_i64 (by omega)) ?_))))))
  refine La rfl (Rnl (Nq (⟨v', M'⟩, P ++ [trk0], i + 1, _) [17, 19] rfl ?_ ?_))
  ·
   dsimp only
   refine ⟨by omega, by rw [List.length_append, hP]; rfl, ?_, hs⟩
   rw [tcs_app, show tcs [trk0] = trk0.cells by simp [tcs]]
   exact hbc'
  show 20 - (i + 1) < 20 - i; omega
 obtain ⟨cv, cM⟩ := cb
 have hbc : Bl w0 51 15 cv (n + i) (tcs P) cM := hbc
 obtain ⟨ac, cc, rfl, _⟩ := hbc.slice
 refine Wqq (Lm rfl (Clss rfl (dfalse (by omega)) ?_))
 refine Rt (Wf rfl (W_exit' (Ex_then_exit (Ex_loop_exit (Ex_block_hit (Nt (Wq (Lm rfl (Le u_44 rfl (Cgeq rfl (dtrue (by omega)) ?_))))))))))
 refine La rfl (Rt (Wret (Ex_done1 rfl rfl ?_)))
 have hs1 := HS.dropR hs hbc.own
 rw [hZ] at hs1
 exact ⟨_, rfl, rfl, k, d, hmore1, hmore2, hbe, hI.hl, rfl, rfl, rfl, hnx0, hdrop (HS.dropL hs1 hbu.own), fun _ _ => ⟨rfl, rfl⟩⟩
end Go.Proofs.YtffobakdngbadaaGreat
namespace Go.Proofs.YtffobakdngbadaaGreat
open Go Go.Lk
inductive PS where
 | no
 | so (k : Bok) (d : Dbk)
def PS.pb : PS -> Option Addr
 | .no => none
 | .so k _ => some ⟨k.B, 0, none⟩
def PS.pr : PS -> Option Addr
 | .no => none
 | .so _ d => some ⟨d.B, 0, none⟩
def PS.bks : PS -> Bks
 | .no => []
 | .so k d => k.bks ++ d.bks
structure TwoOk (w0 : World) (N : Nat) (k : Bok) (d : Dbk) : Prop where
 ob : k.ok w0 N
 od : d.ok w0 N
 eq : BEq k d.k
 hl : HL k
 next : k.next <= 1 + 256 * (N : Int)
def PS.ok (w0 : World) (N : Nat) : PS -> Prop
 | .no => True
 | .so k d => TwoOk w0 N k d
theorem PS.ok.own {w0 : World} {N : Nat} {x : PS} (h : x.ok w0 N) : Own w0 x.bks := by
 cases x with
 | no => exact Own.nil
 | so k d => exact h.ob.own.app h.od.own
theorem PS.ok.more {w0 : World} {N : Nat} {x : PS} (h : x.ok w0 N) : x.ok w0 (N + 1) := by
 cases x with
 | no => trivial
 | so k d =>
  have := h.next
  exact ⟨h.ob.more (Nat.le_succ N), h.od.more (Nat.le_succ N), h.eq, h.hl, by omega⟩
theorem PS.nn (x : PS) : x.pb.isNone = x.pr.isNone := by cases x <;> rfl
def NB (w0 : World) (r : Rul) (p : Option Addr) (M : Bks) : Prop := (newE r ≠ 0 /\ p = none /\ M = []) ∨ (newE r = 0 /\ ∃ B mb, p = some ⟨B, 0, none⟩ /\ M = (bok0 r B mb).bks /\ (bok0 r B mb).ok w0 0)
def NR (w0 : World) (r : Rul) (p : Option Addr) (M : Bks) : Prop := (newE r ≠ 0 /\ p = none /\ M = []) ∨ (newE r = 0 /\ ∃ B, p = some ⟨B, 0, none⟩ /\ M = [(B, Row 70 (dCells r (.slice none 0 0) 0 false 1))] /\ w0.heap.size <= B)
theorem NB.own {w0 : World} {r : Rul} {p : Option Addr} {M : Bks} (h : NB w0 r p M) : Own w0 M := by
 rcases h with ⟨_, _, rfl⟩ | ⟨_, B, mb, _, rfl, h⟩
 ·
  exact Own.nil
 exact h.own
theorem NR.own {w0 : World} {r : Rul} {p : Option Addr} {M : Bks} (h : NR w0 r p M) : Own w0 M := by
 rcases h with ⟨_, _, rfl⟩ | ⟨_, B, _, rfl, h⟩
 ·
  exact Own.nil
 exact Own.cons h Own.nil
theorem NB.mono {w0 w : World} {r : Rul} {p : Option Addr} {M : Bks} (h : NB w r p M) (hle : w0.heap.size <= w.heap.size) : NB w0 r p M := by
 rcases h with h | ⟨e, B, mb, e1, e2, h⟩
 ·
  exact .inl h
 exact .inr ⟨e, B, mb, e1, e2, h.mono hle⟩
theorem NR.mono {w0 w : World} {r : Rul} {p : Option Addr} {M : Bks} (h : NR w r p M) (hle : w0.heap.size <= w.heap.size) : NR w0 r p M := by
 rcases h with h | ⟨e, B, e1, e2, h⟩
 ·
  exact .inl h
 exact .inr ⟨e, B, e1, e2, Nat.le_trans hle h⟩
structure RulLt (r : Rul) : Prop where
 noise : r.noise < 18446744073709551616
 sway : r.sway < 18446744073709551616
 gate : r.gate < 18446744073709551616
theorem unew_ok (r : Rul) (hr : RulLt r) (w0 : World) : Ret Tryz.prog 7 [.agg r.cells.toArray] w0 fun v w' => ∃ p M, v = .tuple #[.pointer p, .int .i64 (newE r)] /\ HS w0 w' M /\ NB w0 r p M := by
 refine Ret.imp' (new_ok r hr.noise hr.sway hr.gate w0) ?_
 rintro v w' (⟨h, rfl, h2⟩ | ⟨h, B, mb, rfl, h2, h3⟩)
 ·
  exact ⟨_, [], rfl, h2, .inl ⟨h, rfl, rfl⟩⟩
 exact ⟨_, _, by rw [h]; rfl, h2, .inr ⟨h, B, mb, rfl, rfl, h3⟩⟩
theorem urnew_ok (r : Rul) (hr : RulLt r) (w0 : World) : Ret Tryz.prog 8 [.agg r.cells.toArray] w0 fun v w' => ∃ p M, v = .tuple #[.pointer p, .int .i64 (newE r)] /\ HS w0 w' M /\ NR w0 r p M := by
 refine Ret.imp' (rnew_ok r hr.noise hr.sway hr.gate w0) ?_
 rintro v w' (⟨h, rfl, h2⟩ | ⟨h, B, rfl, h2, h3⟩)
 ·
  exact ⟨_, [], rfl, h2, .inl ⟨h, rfl, rfl⟩⟩
 exact ⟨_, _, by rw [h]; rfl, h3, .inr ⟨h, B, rfl, rfl, h2⟩⟩
theorem NB.join {w0 : World} {r : Rul} {p q : Option Addr} {M N : Bks} (h : NB w0 r p M) (h' : NR w0 r q N) : ∃ x : PS, x.pb = p /\ x.pr = q /\ x.bks = M ++ N /\ x.ok w0 0 := by
 rcases h with ⟨e, rfl, rfl⟩ | ⟨e, B, mb, rfl, rfl, h⟩
 ·
  rcases h' with ⟨_, rfl, rfl⟩ | ⟨e', _⟩
  ·
   exact ⟨.no, rfl, rfl, rfl, trivial⟩
  exact absurd e' e
 rcases h' with ⟨e', _⟩ | ⟨_, C, rfl, rfl, h'⟩
 ·
  exact absurd e e'
 refine ⟨.so (bok0 r B mb) ⟨C, ⟨0, 0, r, [], 0, 1, ninf⟩, .slice none 0 0, [], 0, false⟩, rfl, rfl, rfl, ?_⟩
 refine ⟨h, ⟨h', .nil, fun o ho => (by cases ho), List.nodup_nil, fun o ho => (by cases ho), (by decide : (1 : Int) <= 1), (by decide : (1 : Int) <= 1000000), fun o ho => (by cases ho), h.rul, Nat.zero_le _, .inr ⟨rfl, rfl⟩⟩, ⟨rfl, .nil, rfl, rfl⟩, fun o ho => (by cases ho), by show (1 : Int) <= 1 + 256 * ((0 : Nat) : Int); decide⟩
def Bok.to (k : Bok) (B : Nat) : Bok := { k with B := B }
def Dbk.to (d : Dbk) (B : Nat) : Dbk := { d with B := B }
theorem pmove (w0 w : World) (N : Nat) (k : Bok) (d : Dbk) (m : Mv) (L : Bks) (hs : HS w0 w ((k.bks ++ d.bks) ++ L)) (hx : TwoOk w0 N k d) (hN : N <= 300) (hL : Own w0 L) (hm : MvOk w0 m) (hl : m.ps.length <= 3000) :
  Ret Tryz.prog 9 [bv k.B, bv d.B, .agg m.cells.toArray] w fun v w' => v = .bool true /\ ∃ k' d', TwoOk w0 (N + 1) (Bok.to k' k.B) (Dbk.to d' d.B) /\ HS w0 w' (((Bok.to k' k.B).bks ++ (Dbk.to d' d.B).bks) ++ L) := by
 have h1 := hx.next
 refine Ret.imp' (move_ok w0 w N k d m L (by rw [<- List.append_assoc]; exact hs) ⟨hx.ob, hx.od, hx.eq, hx.hl, by omega, hL, fun w' L' h1 h2 _ => hm.pl.old h1 h2, by omega, hm.lt, hm.time, by omega⟩) ?_
 rintro v w' ⟨rfl, k', d', a1, a2, a3, a4, a5, a6, a7, a8, a9, _⟩
 refine ⟨rfl, k', d', ?_⟩
 rw [<- a5, <- a6]
 exact ⟨⟨a1, a2, a3, a4, by show k'.next <= _; omega⟩, by rw [List.append_assoc]; exact a9⟩
def m9 : Mv := ⟨9, 0, none, 0, [], 0⟩
theorem m9_ok (w0 : World) : MvOk w0 m9 := ⟨by decide, ⟨fun h => absurd h (by decide), fun j v hv => by simp [m9, pcs] at hv⟩, by decide, fun i hi => absurd hi (Nat.not_lt_zero _)⟩
theorem pmove9 (w0 w : World) (N : Nat) (k : Bok) (d : Dbk) (L : Bks) (hs : HS w0 w ((k.bks ++ d.bks) ++ L)) (hx : TwoOk w0 N k d) (hN : N <= 301) (hL : Own w0 L) :
  Ret Tryz.prog 9 [bv k.B, bv d.B, .agg m9.cells.toArray] w fun v w' => v = .bool true /\ HS w0 w' ((k.bks ++ d.bks) ++ L) := by
 have h1 := hx.next
 have hm := m9_ok w0
 refine Ret.imp' (move_ok w0 w N k d m9 L (by rw [<- List.append_assoc]; exact hs) ⟨hx.ob, hx.od, hx.eq, hx.hl, by omega, hL, fun w' L' h1 h2 _ => hm.pl.old h1 h2, by decide, hm.lt, hm.time, by omega⟩) ?_
 rintro v w' ⟨rfl, k', d', a1, a2, a3, a4, a5, a6, a7, a8, a9, a10⟩
 obtain ⟨rfl, rfl⟩ := a10 (by decide) (by decide)
 exact ⟨rfl, by rw [List.append_assoc]; exact a9⟩
end Go.Proofs.YtffobakdngbadaaGreat
namespace Go.Proofs.YtffobakdngbadaaGreat
open Go.ChangeShapes Go.WideShapes Go.ChangeAt Go.RowKit Go.Lk
theorem Tryz.ownB : ownKnob Tryz.prog.godebug = none := by kernel_rfl
theorem Tryz.laidB : laidOutB Tryz.prog = true := by kernel_rfl
section
open Go.Deep
variable {H : Type} {enc : TypeId × Value -> H} {P : Program} {w : World} {base : Nat} {spare : Nat -> Bool} {held : Bool} {fuel : Nat} {t : TypeId} {cs : List Value} {x : DataW H × List MemPlace} {fs : Array Field}
theorem weightsEach_at {P : Program} {H : Type} : ∀ {ts : List TypeId} {ds : List (DataW H)} {i : Nat} {t : TypeId} {d : DataW H}, ts[i]? = some t -> ds[i]? = some d -> ∀ n ∈ d.weights P t, n ∈ DataW.weightsEach P ts ds
 | t :: ts, d :: ds, 0, t', d', h1, h2, n, hn => by
  obtain rfl := Option.some.inj h1
  obtain rfl := Option.some.inj h2
  simp only [DataW.weightsEach, List.mem_append]
  exact .inl hn
 | t :: ts, d :: ds, i + 1, t', d', h1, h2, n, hn => by
  simp only [DataW.weightsEach, List.mem_append]
  exact .inr (weightsEach_at (i := i) h1 h2 n hn)
theorem fld_subL (ht : P.underlying t = some (.struct fs)) (h : DataW.trod enc P w base spare held fuel t cs = some x) (hw : Light P t x.1) {i : Nat} {f : Field} (hf : fs[i]? = some f) :
  ∃ n y, DataW.trod enc P w base spare held n f.type ((cs.drop f.offset).take (P.cellsOf f.type)) = some y /\ cs.length = P.cellsOf t /\ Light P f.type y.1 := by
 obtain ⟨xs, n, _, hx0, hl, hlen, hx⟩ := DataW.trod_struct ht h
 have hi : i < xs.length := by rw [hlen]; exact (Array.getElem?_eq_some_iff.1 hf).1
 refine ⟨n, xs[i], (hx i f hf).trans (List.getElem?_eq_getElem hi), hl, fun m hm => hw m ?_⟩
 rw [hx0]
 have hmm := weightsEach_at (P := P) (ts := fs.toList.map (·.type)) (ds := xs.map (·.1)) (i := i) (t := f.type) (d := xs[i].1) (by rw [List.getElem?_map, Array.getElem?_toList, hf]; rfl) (by rw [List.getElem?_map, List.getElem?_eq_getElem hi]; rfl) m hm
 simp only [DataW.weights, ht]
 exact hmm
end
section
variable {H : Type} {enc : TypeId × Value -> H} {w : World} {base : Nat} {spare : Nat -> Bool} {held : Bool} {fuel : Nat} {cs : List Value} {x : DataW H × List MemPlace}
theorem cells25 : Tryz.prog.cellsOf 38 = 4 := by kernel_rfl
theorem cells23 : Tryz.prog.cellsOf 36 = 1 := by kernel_rfl
theorem cells58 : Tryz.prog.cellsOf 42 = 5 := by kernel_rfl
theorem cells49 : Tryz.prog.cellsOf 24 = 6 := by kernel_rfl
theorem flt_wf {b : Nat} (h : (Lit.float .f64 b).wf = true) : b < 18446744073709551616 := by simpa [Lit.wf] using h
theorem open_plot (h : DataW.trod enc Tryz.prog w base spare held fuel 42 cs = some x) : ∃ s : Plt, cs = s.cells /\ PltLt s := by
 have hl : cs.length = 5 := by obtain ⟨_, _, _, hl⟩ := fld_sub u_42 h (i := 0) rfl; rw [cells58] at hl; exact hl
 obtain ⟨b0, e0, w0⟩ := fld_float u_42 h (i := 0) rfl (by kernel_rfl) u_22 (by rw [hl]; decide)
 obtain ⟨b1, e1, w1⟩ := fld_float u_42 h (i := 1) rfl (by kernel_rfl) u_22 (by rw [hl]; decide)
 obtain ⟨b2, e2, w2⟩ := fld_float u_42 h (i := 2) rfl (by kernel_rfl) u_22 (by rw [hl]; decide)
 obtain ⟨b3, e3, w3⟩ := fld_float u_42 h (i := 3) rfl (by kernel_rfl) u_22 (by rw [hl]; decide)
 obtain ⟨b4, e4, w4⟩ := fld_float u_42 h (i := 4) rfl (by kernel_rfl) u_22 (by rw [hl]; decide)
 match cs, hl with
 | [c0, c1, c2, c3, c4], _ =>
  obtain rfl := Option.some.inj e0
  obtain rfl := Option.some.inj e1
  obtain rfl := Option.some.inj e2
  obtain rfl := Option.some.inj e3
  obtain rfl := Option.some.inj e4
  exact ⟨⟨b0, b1, b2, b3, b4⟩, rfl, ⟨flt_wf w0, flt_wf w3⟩⟩
theorem open_rule (h : DataW.trod enc Tryz.prog w base spare held fuel 24 cs = some x) : ∃ r : Rul, cs = r.cells /\ RulLt r := by
 have hl : cs.length = 6 := by obtain ⟨_, _, _, hl⟩ := fld_sub u_24 h (i := 0) rfl; rw [cells49] at hl; exact hl
 obtain ⟨b0, e0, w0⟩ := fld_float u_24 h (i := 0) rfl (by kernel_rfl) u_22 (by rw [hl]; decide)
 obtain ⟨b1, e1, w1⟩ := fld_float u_24 h (i := 1) rfl (by kernel_rfl) u_22 (by rw [hl]; decide)
 obtain ⟨b2, e2, w2⟩ := fld_float u_24 h (i := 2) rfl (by kernel_rfl) u_22 (by rw [hl]; decide)
 obtain ⟨b3, e3, _⟩ := fld_int u_24 h (i := 3) rfl (by kernel_rfl) u_3 (by rw [hl]; decide)
 obtain ⟨b4, e4, _⟩ := fld_int u_24 h (i := 4) rfl (by kernel_rfl) u_3 (by rw [hl]; decide)
 obtain ⟨b5, e5, _⟩ := fld_int u_24 h (i := 5) rfl (by kernel_rfl) u_3 (by rw [hl]; decide)
 match cs, hl with
 | [c0, c1, c2, c3, c4, c5], _ =>
  obtain rfl := Option.some.inj e0
  obtain rfl := Option.some.inj e1
  obtain rfl := Option.some.inj e2
  obtain rfl := Option.some.inj e3
  obtain rfl := Option.some.inj e4
  obtain rfl := Option.some.inj e5
  exact ⟨⟨b0, b1, b2, b3, b4, b5⟩, rfl, ⟨flt_wf w0, flt_wf w1, flt_wf w2⟩⟩
theorem pcs_of {w : World} {a : Option Addr} {ts : List Plt} (ha : 0 < ts.length -> a = some (aD a)) (ht : ∀ i, i < ts.length -> CellsAt w ((aD a).add (i * 5)) (ts.getD i plt0).cells) : SlC w a (pcs ts) := by
 refine ⟨fun h => ha (by rw [pcs_len] at h; omega), fun j v hv => ?_⟩
 have hj := (List.getElem?_eq_some_iff.1 hv).1
 rw [pcs_len] at hj
 have hi : j / 5 < ts.length := by omega
 have hq : (ts.getD (j / 5) plt0).cells[j % 5]? = some v := by
  cases hh : (ts.getD (j / 5) plt0).cells[j % 5]? with
  | none =>
   have := List.getElem?_eq_none_iff.1 hh
   have : (ts.getD (j / 5) plt0).cells.length = 5 := rfl
   omega
  | some u =>
   have := pcs_get hi hh
   rw [show j / 5 * 5 + j % 5 = j by omega, hv] at this
   exact this.symm
 have := ht (j / 5) hi (j % 5) v hq
 rw [add_add, show j / 5 * 5 + j % 5 = j by omega] at this
 exact this
theorem open_plots (h : DataW.trod enc Tryz.prog w base spare held fuel 36 cs = some x) (hw : Light Tryz.prog 36 x.1) : ∃ a ts c, cs = [.slice a (List.length ts) c] /\ ts.length <= 1000000000000000 /\ SlC w a (pcs ts) /\ ∀ i, i < ts.length -> PltLt (ts.getD i plt0) := by
 obtain ⟨a, len, cap, rfl, hc, hb, ha, hx⟩ := open_rowsN u_36 h hw
 have hbE : 1 <= Tryz.prog.bytesOf 42 := by decide +kernel
 obtain ⟨ts, hl, ht⟩ := choose_list (p := fun i t => CellsAt w ((aD a).add (i * 5)) (Plt.cells t) /\ PltLt t) plt0 (n := len) (fun i hi => by
  obtain ⟨cs', n, y, h1, h2, h3, h4⟩ := hx i hi
  obtain ⟨t, rfl, hlt⟩ := open_plot h3
  rw [cells58] at h2
  exact ⟨t, h2, hlt⟩)
 subst hl
 refine ⟨a, ts, cap, rfl, ?_, pcs_of (fun h => ha (by omega)) (fun i hi => (ht i hi).1), fun i hi => (ht i hi).2⟩
 have := Nat.mul_le_mul_left ts.length hbE
 omega
theorem open_mv (h : DataW.trod enc Tryz.prog w base spare held fuel 38 cs = some x) (hw : Light Tryz.prog 38 x.1) : ∃ m : Mv, cs = m.cells /\ MvOk w m := by
 obtain ⟨n2, y2, h2, hl, hw2⟩ := fld_subL u_38 h hw (i := 2) rfl
 rw [cells25] at hl
 replace h2 : DataW.trod enc Tryz.prog w base spare held n2 36 ((cs.drop 2).take 1) = some y2 := by rw [<- cells23]; exact h2
 obtain ⟨b0, e0, _⟩ := fld_int u_38 h (i := 0) rfl (by kernel_rfl) u_3 (by rw [hl]; decide)
 obtain ⟨b1, e1, w1⟩ := fld_float u_38 h (i := 1) rfl (by kernel_rfl) u_22 (by rw [hl]; decide)
 obtain ⟨b3, e3, _⟩ := fld_int u_38 h (i := 3) rfl (by kernel_rfl) u_3 (by rw [hl]; decide)
 match cs, hl with
 | [c0, c1, c2, c3], _ =>
  obtain rfl := Option.some.inj e0
  obtain rfl := Option.some.inj e1
  obtain rfl := Option.some.inj e3
  obtain ⟨a', ts, c', e, hm, hs, hlt⟩ := open_plots (cs := [c2]) h2 hw2
  obtain rfl := (List.cons.inj e).1
  exact ⟨⟨b0, b1, a', c', ts, b3⟩, rfl, ⟨flt_wf w1, hs, hm, hlt⟩⟩
theorem open_mvs (h : DataW.trod enc Tryz.prog w base spare held fuel 25 cs = some x) (hw : Light Tryz.prog 25 x.1) : ∃ a l c, cs = [.slice a (List.length l) c] /\ l.length <= 1000000000000000 /\ SlC w a (mcs l) /\ ∀ i, i < l.length -> MvOk w (l.getD i mv0) := by
 obtain ⟨a, len, cap, rfl, hc, hb, ha, hx⟩ := open_rowsN u_25 h hw
 have hbE : 1 <= Tryz.prog.bytesOf 38 := by decide +kernel
 obtain ⟨l, hl, ht⟩ := choose_list (p := fun i t => CellsAt w ((aD a).add (i * 4)) (Mv.cells t) /\ MvOk w t) mv0 (n := len) (fun i hi => by
  obtain ⟨cs', n, y, h1, h2, h3, h4⟩ := hx i hi
  obtain ⟨t, rfl, hp⟩ := open_mv h3 h4
  rw [cells25] at h2
  exact ⟨t, h2, hp⟩)
 subst hl
 refine ⟨a, l, cap, rfl, ?_, ⟨fun h => ha (by rw [mcs_len] at h; omega), fun j v hv => ?_⟩, fun i hi => (ht i hi).2⟩
 ·
  have := Nat.mul_le_mul_left l.length hbE
  omega
 have hj := (List.getElem?_eq_some_iff.1 hv).1
 rw [mcs_len] at hj
 have hi : j / 4 < l.length := by omega
 have h1 := (ht (j / 4) hi).1
 have hq : (l.getD (j / 4) mv0).cells[j % 4]? = some v := by
  cases hh : (l.getD (j / 4) mv0).cells[j % 4]? with
  | none =>
   have := List.getElem?_eq_none_iff.1 hh
   have : (l.getD (j / 4) mv0).cells.length = 4 := rfl
   omega
  | some u =>
   have := mcs_get hi hh
   rw [show j / 4 * 4 + j % 4 = j by omega, hv] at this
   exact this.symm
 have := h1 (j % 4) v hq
 rw [add_add, show j / 4 * 4 + j % 4 = j by omega] at this
 exact this
end
end Go.Proofs.YtffobakdngbadaaGreat
namespace Go.Proofs.YtffobakdngbadaaGreat
open Go Go.Lk
set_option maxHeartbeats 8000000 in
theorem tracksPlay_law (r1 r2 : Rul) (hr1 : RulLt r1) (hr2 : RulLt r2) (a : Option Addr) (n c : Nat) (l : List Mv) (w0 : World) (ha : SlC w0 a (mcs l)) (hn : l.length = n) (hn2 : n <= 1000000000000000) (hm : ∀ i, i < n -> MvOk w0 (l.getD i mv0)) :
  Ret Tryz.prog 3 [.agg r1.cells.toArray, .agg r2.cells.toArray, .slice a n c] w0 fun v w' => v = .bool true /\ HS w0 w' [] := by
 refine Ret.start fun w hs => ?_
 refine calls_of_W Tryz.func3 rfl rfl rfl (Wq (L_box rfl hs rfl ?_))
 intro b3 w hb3 hnb3 hs
 dsimp only [sS, sZ, sA, sN] at hs
 refine L_box rfl hs rfl ?_
 intro b4 w hb4 hnb4 hs
 dsimp only [sS, sZ, sA, sN] at hs
 refine La rfl (Rqq ?_)
 obtain ⟨R, hR⟩ : ∃ R : Bks, R = [(b3, Row 24 r1.cells), (b4, Row 24 r2.cells)] := ⟨_, rfl⟩
 have hRo : Own w0 R := by rw [hR]; exact Own.cons hb3 (Own.cons hb4 Own.nil)
 replace hs : HS w0 w R := by rw [hR]; exact hs
 have h3R : (b3, Row 24 r1.cells) ∈ R := by rw [hR]; exact List.mem_cons_self ..
 have h4R : (b4, Row 24 r2.cells) ∈ R := by rw [hR]; exact List.mem_cons_of_mem _ (List.mem_cons_self ..)
 refine Lm rfl (Lc f_5 rfl (great_ok a n c l w (ha.old hs hRo) hn hn2 (fun i hi => (hm i hi).len)) ?_)
 rintro _ w1 ⟨g, rfl, hs', hg⟩
 replace hs := hs.nil hs'
 clear hs'
 cases g
 ·
  obtain ⟨hn300, hpl⟩ := hg rfl
  clear hg
  refine Rt (Wf rfl (Ws (Wq (L_loadA rfl a_24 i_24 rfl (by exact cellsAt_whole (cs := r1.cells) (hs.has _ h3R)) ?_))))
  refine Lc f_7 rfl (unew_ok r1 hr1 w1) ?_
  rintro _ w2 ⟨p1, M1, rfl, hs', hb1⟩
  have hs1 := hs.call hs' hb1.own
  replace hb1 := hb1.mono hs.size
  clear hs hs'
  have hs := hs1
  clear hs1
  refine Lm rfl (Lx rfl rfl (Lx rfl rfl (La rfl (La rfl (Rq (L_loadA rfl a_24 i_24 rfl (by exact cellsAt_whole (cs := r2.cells) (hs.has _ (List.mem_append_left _ h4R))) ?_))))))
  refine Lc f_7 rfl (unew_ok r2 hr2 w2) ?_
  rintro _ w3 ⟨p2, M2, rfl, hs', hb2⟩
  have hs1 := hs.call hs' hb2.own
  replace hb2 := hb2.mono hs.size
  clear hs hs'
  have hs := hs1
  clear hs1
  refine Lm rfl (Lx rfl rfl (Lx rfl rfl (La rfl (La rfl (Rq (L_loadA rfl a_24 i_24 rfl (by exact cellsAt_whole (cs := r1.cells) (hs.has _ (List.mem_append_left _ (List.mem_append_left _ h3R)))) ?_))))))
  refine Lc f_8 rfl (urnew_ok r1 hr1 w3) ?_
  rintro _ w4 ⟨q1, N1, rfl, hs', hc1⟩
  have hs1 := hs.call hs' hc1.own
  replace hc1 := hc1.mono hs.size
  clear hs hs'
  have hs := hs1
  clear hs1
  refine Lm rfl (Lx rfl rfl (Lx rfl rfl (La rfl (La rfl (Rq (L_loadA rfl a_24 i_24 rfl (by exact cellsAt_whole (cs := r2.cells) (hs.has _ (List.mem_append_left _ (List.mem_append_left _ (List.mem_append_left _ h4R))))) ?_))))))
  refine Lc f_8 rfl (urnew_ok r2 hr2 w4) ?_
  rintro _ w5 ⟨q2, N2, rfl, hs', hc2⟩
  have hs1 := hs.call hs' hc2.own
  replace hc2 := hc2.mono hs.size
  clear hs hs'
  have hs := hs1
  clear hs1
  obtain ⟨x0, hxp, hxq, hxb, hx0⟩ := hb1.join hc1
  obtain ⟨y0, hyp, hyq, hyb, hy0⟩ := hb2.join hc2
  have hs1 : HS w0 w5 (x0.bks ++ (y0.bks ++ R)) := by rw [hxb, hyb]; exact HS.re hs (fun c => by simp only [mpA, mpC, mpN, smA, smC, smN]; omega)
  clear hs hxb hyb hb1 hb2 hc1 hc2
  subst hxp hxq hyp hyq
  have hs := hs1
  clear hs1
  have hnx : x0.pb.isNone = x0.pr.isNone := PS.nn x0
  have hny : y0.pb.isNone = y0.pr.isNone := PS.nn y0
  obtain ⟨e1, he1⟩ : ∃ e, e = newE r1 := ⟨_, rfl⟩
  obtain ⟨e2, he2⟩ : ∃ e, e = newE r2 := ⟨_, rfl⟩
  rw [<- he1, <- he2]
  refine Lm rfl (Lx rfl rfl (Lx rfl rfl (La rfl (La rfl (Rqq (Lmm rfl rfl (Cneq rfl (dfalse (by omega)) ?_)))))))
  refine Lm rfl (Gm rfl rfl (Gm rfl rfl (Rw rfl (Cneq rfl (dfalse (by omega)) ?_))))
  refine Lpf rfl (Lm rfl (Gm rfl rfl (Rw rfl (L_ptrNil rfl u_28 rfl rfl (Gm rfl rfl (Rw rfl (L_ptrNil rfl u_32 rfl rfl (Rw rfl (RL_val rfl (R_bneq u_4 rfl rfl) ?_)))))))))
  refine RL_set 52 (v' := .bool false) rfl ((by rw [hnx]; cases x0.pr.isNone <;> rfl)) ?_
  refine Lpf rfl (Lm rfl (Gm rfl rfl (Rw rfl (L_ptrNil rfl u_28 rfl rfl (Gm rfl rfl (Rw rfl (L_ptrNil rfl u_32 rfl rfl (Rw rfl (RL_val rfl (R_bneq u_4 rfl rfl) ?_)))))))))
  refine RL_set 59 (v' := .bool false) rfl ((by rw [hny]; cases y0.pr.isNone <;> rfl)) ?_
  refine Lpf rfl (Rt (Wf rfl (Ws (Wqq (La rfl (Rt (W_block (W_loop4 (fun (x : PS) (y : PS) (i : Nat) (w : World) => [(2, .slice a n c), (7, .pointer x.pb), (9, .pointer y.pb), (11, .pointer x.pr), (13, .pointer y.pr), (15, .int .i64 i)]) (fun x y i w => w) (fun x y i w => (i <= n) /\ (x.ok w0 i /\ y.ok w0 i) /\ (HS w0 w (x.bks ++ (y.bks ++ R)))) (fun x y i w => n - i) (x0) (y0) (0) (_) (is := [2, 7, 9, 11, 13, 15]) rfl rfl ?_ ?_))))))))
  ·
   exact ⟨Nat.zero_le _, ⟨hx0, hy0⟩, hs⟩
  clear hs hx0 hy0
  intro x y i w hI
  show W _ _ _ _ [(2, .slice a n c), (7, .pointer x.pb), (9, .pointer y.pb), (11, .pointer x.pr), (13, .pointer y.pr), (15, .int .i64 i)] w
  obtain ⟨hi, ⟨hx, hy⟩, hs⟩ := hI
  by_cases hlt : i < n
  ·
   obtain ⟨m, hme⟩ : ∃ m, m = l.getD i mv0 := ⟨_, rfl⟩
   have hmk : MvOk w0 m := by rw [hme]; exact hm i hlt
   have hml : m.ps.length <= 3000 := by rw [hme]; exact hpl i hlt
   have hmc : ∀ {w' : World} {L' : Bks}, HS w0 w' L' -> Own w0 L' -> CellsAt w' ((aD a).add (i * 4)) m.cells := fun h1 h2 => (ha.old h1 h2).sub fun _ _ hv => mcs_get (ts := l) (i := i) (by omega) (by rw [<- hme]; exact hv)
   have hao : a = some (aD a) := (ha.old hs (hx.own.app (hy.own.app hRo))).ao (by rw [mcs_len]; omega)
   rcases x with _ | ⟨k, d⟩
   ·
    have hxo1 : PS.no.ok w0 (i + 1) := trivial
    clear hx
    refine Wqq (Lmm rfl rfl (Le u_25 rfl (Clss rfl (dtrue (by omega)) ?_)))
    refine Rt (Wt rfl (Ws (Wsq (W_block (Wqq (Lm rfl (L_ptrNotNil rfl u_28 rfl rfl (Lm rfl (Rs rfl (Rs rfl (Rs rfl (Rs rfl (Rs rfl (Rs rfl (Rs rfl (Rs rfl (Rs rfl (RL_skipU rfl rfl rfl (RL_skipU rfl rfl rfl (RL_skipU rfl rfl rfl (RL_skipU rfl rfl rfl (RL_skipU rfl rfl rfl (Rs rfl (Lpf rfl (Rt (Wf rfl ?_))))))))))))))))))))))))))
    rcases y with _ | ⟨k2, d2⟩
    ·
     refine Ws (Wq (Lm rfl (L_ptrNotNil rfl u_28 rfl rfl (Lm rfl (Rs rfl (Rs rfl (Rs rfl (Lpf rfl (Lm rfl (Rs rfl (Rs rfl (Rs rfl (Rs rfl (Rs rfl (Rs rfl (Rs rfl (Rs rfl (Rs rfl (RL_skipU rfl rfl rfl (RL_skipU rfl rfl rfl (RL_skipU rfl rfl rfl (RL_skipU rfl rfl rfl (RL_skipU rfl rfl rfl (Rs rfl (Lpf rfl (Rt (Wf rfl (W_skip' (Nx_block (Nt (Wr (Lm rfl (Cadd rfl (wrp_i64 (by omega)) ?_)))))))))))))))))))))))))))))))))
     refine La rfl (Rnl (Nq (PS.no, .no, i + 1, _) [2, 7, 9, 11, 13, 15] rfl ?_ ?_))
     ·
      dsimp only
      exact ⟨by omega, ⟨hxo1, trivial⟩, hs⟩
     show n - (i + 1) < n - i; omega
    by_cases hodd : (i : Int).tmod 2 = 1
    ·
     refine Ws (Wq (Lm rfl (L_ptrNotNil rfl u_28 rfl rfl (Lm rfl (Gm rfl rfl (Rw rfl (L_rem rfl rfl rfl (by omega) ?_)))))))
     refine Rw rfl (Ceql rfl (dtrue (by omega)) ?_)
     refine Lpt rfl (Lm rfl (Gm rfl rfl (Gm rfl rfl (Gm rfl rfl (Gm rfl rfl (Rw rfl (LiN u_25 i_38 rfl (natc_k _) (by omega) hao ?_)))))))
     refine Rw rfl (L_loadA rfl a_38 i_38 rfl (by exact hmc hs (hxo1.own.app (hy.own.app hRo))) ?_)
     have hsy : HS w0 w ((k2.bks ++ d2.bks) ++ ((PS.no).bks ++ R)) := by
      have h1 : HS w0 w ((PS.no).bks ++ ((k2.bks ++ d2.bks) ++ R)) := hs
      exact HS.re h1 (fun c => by simp only [mpA, mpC, mpN, smA, smC, smN]; omega)
     clear hs
     refine Rw rfl (Lc f_9 rfl (pmove w0 w i k2 d2 m ((PS.no).bks ++ R) hsy hy (by omega) (hxo1.own.app hRo) hmk hml) ?_)
     rintro _ w4 ⟨rfl, k3, d3, hy3, hs3⟩
     clear hsy hy
     refine Rw rfl (Lnot rfl (Gm rfl rfl (Gm rfl rfl (Gm rfl rfl (Rw rfl (L_build rfl rfl (Pl.builtN Tryz.pl38 rfl) (RL_set 105 (v' := .agg m9.cells.toArray) rfl (rfl) (Rw rfl (Lc f_9 rfl (pmove9 w0 w4 (i + 1) (k3.to k2.B) (d3.to d2.B) ((PS.no).bks ++ R) hs3 hy3 (by omega) (hxo1.own.app hRo)) ?_)))))))))
     rintro _ w5 ⟨rfl, hs4⟩
     clear hs3
     refine Rw rfl (Lnot rfl (Rw rfl (Lpf rfl (Lpt rfl (Rt (Wf rfl (W_skip' (Nx_block (Nt (Wr (Lm rfl (Cadd rfl (wrp_i64 (by omega)) ?_))))))))))))
     refine La rfl (Rnl ?_)
     have hs5 : HS w0 w5 ((PS.no).bks ++ ((PS.so (k3.to k2.B) (d3.to d2.B)).bks ++ R)) := by
      show HS w0 w5 ((PS.no).bks ++ (((k3.to k2.B).bks ++ (d3.to d2.B).bks) ++ R))
      exact HS.re hs4 (fun c => by simp only [mpA, mpC, mpN, smA, smC, smN]; omega)
     clear hs4
     refine Nq (PS.no, .so (k3.to k2.B) (d3.to d2.B), i + 1, _) [2, 7, 9, 11, 13, 15] rfl ?_ ?_
     ·
      dsimp only
      exact ⟨by omega, ⟨hxo1, hy3⟩, hs5⟩
     show n - (i + 1) < n - i; omega
    refine Ws (Wq (Lm rfl (L_ptrNotNil rfl u_28 rfl rfl (Lm rfl (Gm rfl rfl (Rw rfl (L_rem rfl rfl rfl (by omega) ?_)))))))
    refine Rw rfl (Ceql rfl (dfalse (by omega)) ?_)
    refine Lpt rfl (Lm rfl (Rs rfl (Rs rfl (Rs rfl (Rs rfl (Rs rfl (Rs rfl (Rs rfl (Rs rfl (Rs rfl (RL_skipU rfl rfl rfl (RL_skipU rfl rfl rfl (RL_skipU rfl rfl rfl (RL_skipU rfl rfl rfl (RL_skipU rfl rfl rfl (Rs rfl (Lpf rfl (Rt (Wf rfl (W_skip' (Nx_block (Nt (Wr (Lm rfl (Cadd rfl (wrp_i64 (by omega)) ?_)))))))))))))))))))))))))
    refine La rfl (Rnl (Nq (PS.no, .so k2 d2, i + 1, _) [2, 7, 9, 11, 13, 15] rfl ?_ ?_))
    ·
     dsimp only
     exact ⟨by omega, ⟨hxo1, PS.ok.more (x := .so k2 d2) hy⟩, hs⟩
    show n - (i + 1) < n - i; omega
   refine Wqq (Lmm rfl rfl (Le u_25 rfl (Clss rfl (dtrue (by omega)) ?_)))
   refine Rt (Wt rfl (Ws (Wsq (W_block (Wqq (Lm rfl (L_ptrNotNil rfl u_28 rfl rfl (Lm rfl (Rw rfl (Lm rfl (Gm rfl rfl (Gm rfl rfl (Gm rfl rfl (Rw rfl (LiN u_25 i_38 rfl (natc_k _) (by omega) hao ?_)))))))))))))))
   refine Rw rfl (L_loadA rfl a_38 i_38 rfl (by exact hmc hs (hx.own.app (hy.own.app hRo))) ?_)
   refine Rw rfl (Lc f_9 rfl (pmove w0 w i k d m (y.bks ++ R) hs hx (by omega) (hy.own.app hRo) hmk hml) ?_)
   rintro _ w1 ⟨rfl, k1, d1, hx1, hs1⟩
   clear hs hx
   refine Rw rfl (Lnot rfl (Gm rfl rfl (Gm rfl rfl (Gm rfl rfl (Rw rfl (L_build rfl rfl (Pl.builtN Tryz.pl38 rfl) (RL_set 81 (v' := .agg m9.cells.toArray) rfl (rfl) (Rw rfl (Lc f_9 rfl (pmove9 w0 w1 (i + 1) (k1.to k.B) (d1.to d.B) (y.bks ++ R) hs1 hx1 (by omega) (hy.own.app hRo)) ?_)))))))))
   rintro _ w2 ⟨rfl, hs2⟩
   clear hs1
   have hxo1 : (PS.so (k1.to k.B) (d1.to d.B)).ok w0 (i + 1) := hx1
   have hs : HS w0 w2 ((PS.so (k1.to k.B) (d1.to d.B)).bks ++ (y.bks ++ R)) := hs2
   clear hs2 hx1
   refine Rw rfl (Lnot rfl (Rw rfl (Lpf rfl (Lpt rfl (Rt (Wf rfl ?_))))))
   rcases y with _ | ⟨k2, d2⟩
   ·
    refine Ws (Wq (Lm rfl (L_ptrNotNil rfl u_28 rfl rfl (Lm rfl (Rs rfl (Rs rfl (Rs rfl (Lpf rfl (Lm rfl (Rs rfl (Rs rfl (Rs rfl (Rs rfl (Rs rfl (Rs rfl (Rs rfl (Rs rfl (Rs rfl (RL_skipU rfl rfl rfl (RL_skipU rfl rfl rfl (RL_skipU rfl rfl rfl (RL_skipU rfl rfl rfl (RL_skipU rfl rfl rfl (Rs rfl (Lpf rfl (Rt (Wf rfl (W_skip' (Nx_block (Nt (Wr (Lm rfl (Cadd rfl (wrp_i64 (by omega)) ?_)))))))))))))))))))))))))))))))))
    refine La rfl (Rnl (Nq (PS.so (k1.to k.B) (d1.to d.B), .no, i + 1, _) [2, 7, 9, 11, 13, 15] rfl ?_ ?_))
    ·
     dsimp only
     exact ⟨by omega, ⟨hxo1, trivial⟩, hs⟩
    show n - (i + 1) < n - i; omega
   by_cases hodd : (i : Int).tmod 2 = 1
   ·
    refine Ws (Wq (Lm rfl (L_ptrNotNil rfl u_28 rfl rfl (Lm rfl (Gm rfl rfl (Rw rfl (L_rem rfl rfl rfl (by omega) ?_)))))))
    refine Rw rfl (Ceql rfl (dtrue (by omega)) ?_)
    refine Lpt rfl (Lm rfl (Gm rfl rfl (Gm rfl rfl (Gm rfl rfl (Gm rfl rfl (Rw rfl (LiN u_25 i_38 rfl (natc_k _) (by omega) hao ?_)))))))
    refine Rw rfl (L_loadA rfl a_38 i_38 rfl (by exact hmc hs (hxo1.own.app (hy.own.app hRo))) ?_)
    have hsy : HS w0 w2 ((k2.bks ++ d2.bks) ++ ((PS.so (k1.to k.B) (d1.to d.B)).bks ++ R)) := by
     have h1 : HS w0 w2 ((PS.so (k1.to k.B) (d1.to d.B)).bks ++ ((k2.bks ++ d2.bks) ++ R)) := hs
     exact HS.re h1 (fun c => by simp only [mpA, mpC, mpN, smA, smC, smN]; omega)
    clear hs
    refine Rw rfl (Lc f_9 rfl (pmove w0 w2 i k2 d2 m ((PS.so (k1.to k.B) (d1.to d.B)).bks ++ R) hsy hy (by omega) (hxo1.own.app hRo) hmk hml) ?_)
    rintro _ w4 ⟨rfl, k3, d3, hy3, hs3⟩
    clear hsy hy
    refine Rw rfl (Lnot rfl (Gm rfl rfl (Gm rfl rfl (Gm rfl rfl (Rw rfl (L_build rfl rfl (Pl.builtN Tryz.pl38 rfl) (RL_set 105 (v' := .agg m9.cells.toArray) rfl (rfl) (Rw rfl (Lc f_9 rfl (pmove9 w0 w4 (i + 1) (k3.to k2.B) (d3.to d2.B) ((PS.so (k1.to k.B) (d1.to d.B)).bks ++ R) hs3 hy3 (by omega) (hxo1.own.app hRo)) ?_)))))))))
    rintro _ w5 ⟨rfl, hs4⟩
    clear hs3
    refine Rw rfl (Lnot rfl (Rw rfl (Lpf rfl (Lpt rfl (Rt (Wf rfl (W_skip' (Nx_block (Nt (Wr (Lm rfl (Cadd rfl (wrp_i64 (by omega)) ?_))))))))))))
    refine La rfl (Rnl ?_)
    have hs5 : HS w0 w5 ((PS.so (k1.to k.B) (d1.to d.B)).bks ++ ((PS.so (k3.to k2.B) (d3.to d2.B)).bks ++ R)) := by
     show HS w0 w5 ((PS.so (k1.to k.B) (d1.to d.B)).bks ++ (((k3.to k2.B).bks ++ (d3.to d2.B).bks) ++ R))
     exact HS.re hs4 (fun c => by simp only [mpA, mpC, mpN, smA, smC, smN]; omega)
    clear hs4
    refine Nq (PS.so (k1.to k.B) (d1.to d.B), .so (k3.to k2.B) (d3.to d2.B), i + 1, _) [2, 7, 9, 11, 13, 15] rfl ?_ ?_
    ·
     dsimp only
     exact ⟨by omega, ⟨hxo1, hy3⟩, hs5⟩
    show n - (i + 1) < n - i; omega
   refine Ws (Wq (Lm rfl (L_ptrNotNil rfl u_28 rfl rfl (Lm rfl (Gm rfl rfl (Rw rfl (L_rem rfl rfl rfl (by omega) ?_)))))))
   refine Rw rfl (Ceql rfl (dfalse (by omega)) ?_)
   refine Lpt rfl (Lm rfl (Rs rfl (Rs rfl (Rs rfl (Rs rfl (Rs rfl (Rs rfl (Rs rfl (Rs rfl (Rs rfl (RL_skipU rfl rfl rfl (RL_skipU rfl rfl rfl (RL_skipU rfl rfl rfl (RL_skipU rfl rfl rfl (RL_skipU rfl rfl rfl (Rs rfl (Lpf rfl (Rt (Wf rfl (W_skip' (Nx_block (Nt (Wr (Lm rfl (Cadd rfl (wrp_i64 (by omega)) ?_)))))))))))))))))))))))))
   refine La rfl (Rnl (Nq (PS.so (k1.to k.B) (d1.to d.B), .so k2 d2, i + 1, _) [2, 7, 9, 11, 13, 15] rfl ?_ ?_))
   ·
    dsimp only
    exact ⟨by omega, ⟨hxo1, PS.ok.more (x := .so k2 d2) hy⟩, hs⟩
   show n - (i + 1) < n - i; omega
  rcases x with _ | ⟨k, d⟩
  ·
   refine Wqq (Lmm rfl rfl (Le u_25 rfl (Clss rfl (dfalse (by omega)) ?_)))
   refine Rt (Wf rfl (W_exit' (Ex_then_exit (Ex_loop_exit (Ex_block_hit (Nt (Wq (Lm rfl (L_ptrNil rfl u_28 rfl rfl (Lm rfl (Rs rfl (Rs rfl (Rs rfl (Rs rfl ?_))))))))))))))
   rcases y with _ | ⟨k2, d2⟩
   ·
    refine Lpt rfl (Lm rfl (Gm rfl rfl (Rw rfl (L_ptrNil rfl u_28 rfl rfl (Gm rfl rfl (Rs rfl (Rs rfl (Rs rfl (Rs rfl (Rw rfl (Lpt rfl (Lpt rfl (Lm rfl (Rw rfl (Lc f_6 rfl (wakes_ok _) ?_)))))))))))))))
    rintro _ w3 ⟨rfl, hs'⟩
    replace hs := hs.nil hs'
    refine Lpt rfl (La rfl (Rt (Wret (Ex_done1 rfl rfl ?_))))
    exact ⟨_, rfl, rfl, hs.forget (hx.own.app (hy.own.app hRo))⟩
   refine Lpt rfl (Lm rfl (Gm rfl rfl (Rw rfl (L_ptrNil rfl u_28 rfl rfl (Gm rfl rfl (Gm rfl rfl (Gm rfl rfl (Rw rfl (L_build rfl rfl (Pl.builtN Tryz.pl38 rfl) (RL_set 124 (v' := .agg m9.cells.toArray) rfl (rfl) ?_))))))))))
   have hsy : HS w0 w ((k2.bks ++ d2.bks) ++ ((PS.no).bks ++ R)) := by
    have h1 : HS w0 w ((PS.no).bks ++ ((k2.bks ++ d2.bks) ++ R)) := hs
    exact HS.re h1 (fun c => by simp only [mpA, mpC, mpN, smA, smC, smN]; omega)
   clear hs
   refine Rw rfl (Lc f_9 rfl (pmove9 w0 w i k2 d2 ((PS.no).bks ++ R) hsy hy (by omega) (hx.own.app hRo)) ?_)
   rintro _ w3 ⟨rfl, hs⟩
   refine Rw rfl (Lpf rfl (Lpt rfl (Lm rfl (Rw rfl (Lc f_6 rfl (wakes_ok w3) ?_)))))
   rintro _ w4 ⟨rfl, hs'⟩
   replace hs := hs.nil hs'
   refine Lpt rfl (La rfl (Rt (Wret (Ex_done1 rfl rfl ?_))))
   exact ⟨_, rfl, rfl, hs.forget ((PS.ok.own (x := .so k2 d2) hy).app (hx.own.app hRo))⟩
  refine Wqq (Lmm rfl rfl (Le u_25 rfl (Clss rfl (dfalse (by omega)) ?_)))
  refine Rt (Wf rfl (W_exit' (Ex_then_exit (Ex_loop_exit (Ex_block_hit (Nt (Wq (Lm rfl (L_ptrNil rfl u_28 rfl rfl (Lm rfl (Rw rfl (Lm rfl (Gm rfl rfl (Rw rfl (L_build rfl rfl (Pl.builtN Tryz.pl38 rfl) (RL_set 115 (v' := .agg m9.cells.toArray) rfl (rfl) (Rw rfl (Lc f_9 rfl (pmove9 w0 w i k d (y.bks ++ R) hs hx (by omega) (hy.own.app hRo)) ?_))))))))))))))))))
  rintro _ w2 ⟨rfl, hs2⟩
  clear hs
  have hs : HS w0 w2 ((PS.so k d).bks ++ (y.bks ++ R)) := hs2
  clear hs2
  rcases y with _ | ⟨k2, d2⟩
  ·
   refine Lpf rfl (Lm rfl (Gm rfl rfl (Rw rfl (L_ptrNil rfl u_28 rfl rfl (Gm rfl rfl (Rs rfl (Rs rfl (Rs rfl (Rs rfl (Rw rfl (Lpt rfl (Lpt rfl (Lm rfl (Rw rfl (Lc f_6 rfl (wakes_ok _) ?_)))))))))))))))
   rintro _ w3 ⟨rfl, hs'⟩
   replace hs := hs.nil hs'
   refine Lpt rfl (La rfl (Rt (Wret (Ex_done1 rfl rfl ?_))))
   exact ⟨_, rfl, rfl, hs.forget (hx.own.app (hy.own.app hRo))⟩
  refine Lpf rfl (Lm rfl (Gm rfl rfl (Rw rfl (L_ptrNil rfl u_28 rfl rfl (Gm rfl rfl (Gm rfl rfl (Gm rfl rfl (Rw rfl (L_build rfl rfl (Pl.builtN Tryz.pl38 rfl) (RL_set 124 (v' := .agg m9.cells.toArray) rfl (rfl) ?_))))))))))
  have hsy : HS w0 w2 ((k2.bks ++ d2.bks) ++ ((PS.so k d).bks ++ R)) := by
   have h1 : HS w0 w2 ((PS.so k d).bks ++ ((k2.bks ++ d2.bks) ++ R)) := hs
   exact HS.re h1 (fun c => by simp only [mpA, mpC, mpN, smA, smC, smN]; omega)
  clear hs
  refine Rw rfl (Lc f_9 rfl (pmove9 w0 w2 i k2 d2 ((PS.so k d).bks ++ R) hsy hy (by omega) (hx.own.app hRo)) ?_)
  rintro _ w3 ⟨rfl, hs⟩
  refine Rw rfl (Lpf rfl (Lpt rfl (Lm rfl (Rw rfl (Lc f_6 rfl (wakes_ok w3) ?_)))))
  rintro _ w4 ⟨rfl, hs'⟩
  replace hs := hs.nil hs'
  refine Lpt rfl (La rfl (Rt (Wret (Ex_done1 rfl rfl ?_))))
  exact ⟨_, rfl, rfl, hs.forget ((PS.ok.own (x := .so k2 d2) hy).app (hx.own.app hRo))⟩
 refine Rt (Wt rfl (Wq (Lc f_6 rfl (wakes_ok w1) ?_)))
 rintro _ w2 ⟨rfl, hs'⟩
 replace hs := hs.nil hs'
 refine La rfl (Rt (Wret (Ex_then_ret (Ex_done1 rfl rfl ?_))))
 exact ⟨_, rfl, rfl, hs.forget hRo⟩
end Go.Proofs.YtffobakdngbadaaGreat