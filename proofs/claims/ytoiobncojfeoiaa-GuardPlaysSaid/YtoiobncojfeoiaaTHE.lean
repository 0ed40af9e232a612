/-
 A part of the proof: what functions that the statement reaches do, or a plain law on what they do. Each theorem holds under its own premises alone.
-/
import Derived.Test.YtoiobncojfeoiaaTHD
namespace Go.Proofs.Ytoiobncojfeoiaa
open Go Go.Lk
/-! ### The document's guard: Watch -/
def putT (l : List Int) (t : Tk) : List Int := if t.kind = 1 then putL t.id l else l
def putK (z : Int) (l : List Int) (k : Kn) : List Int := if k.zone = z ∧ k.inn = true then putL k.id l else l
def ridsT (ts : List Tk) : List Int := ts.foldl putT []
def rids (ks : List Kn) (ts : List Tk) (z : Int) : List Int := ks.foldl (putK z) (ridsT ts)
theorem ridsT_snoc (ts : List Tk) (t : Tk) : ridsT (ts ++ [t]) = putT (ridsT ts) t := by unfold ridsT; rw [List.foldl_append]; rfl
theorem rids_snoc (ks : List Kn) (k : Kn) (ts : List Tk) (z : Int) : rids (ks ++ [k]) ts z = putK z (rids ks ts z) k := by unfold rids; rw [List.foldl_append]; rfl
def rTrk (ts : List Tk) (id : Int) : Option Tk := ts.find? fun t => decide (t.id = id) && decide (t.kind = 1)
def rIn (ps : List Pt) : Option Tk → Bool
 | some t => insF ps t.xx t.yx
 | none => false
def rCm (far : Nat) (ps : List Pt) : Option Tk → Bool
 | some t => (whenF ps (t.xx, t.yx) (t.xv, t.yv) far).2
 | none => (whenF ps (0, 0) (0, 0) far).2
def rAl (time : Nat) (z id : Int) (x : Kn) (inn cm : Bool) : List Al := if inn = true then (if x.inn = true then [] else [⟨0, z, id, time⟩]) else if x.inn = true then [⟨1, z, id, time⟩] else if cm = true ∧ x.told = false then [⟨2, z, id, time⟩] else []
def rKn (x : Kn) (inn cm : Bool) : Kn := if inn = true then ⟨x.zone, x.id, true, false⟩ else if x.inn = true then ⟨x.zone, x.id, false, false⟩ else ⟨x.zone, x.id, false, cm⟩
def rKs (k : Kn) : List Kn := if k.inn = true ∨ k.told = true then [k] else []
def rA1 (far time : Nat) (ks : List Kn) (ts : List Tk) (z : Zn) (id : Int) : List Al := rAl time z.num id (ofK ks z.num id) (rIn z.ps (rTrk ts id)) (rCm far z.ps (rTrk ts id))
def rK1 (far : Nat) (ks : List Kn) (ts : List Tk) (z : Zn) (id : Int) : List Kn := rKs (rKn (ofK ks z.num id) (rIn z.ps (rTrk ts id)) (rCm far z.ps (rTrk ts id)))
def rTold (far time : Nat) (zs : List Zn) (ks : List Kn) (ts : List Tk) : List Al := zs.flatMap fun z => (rids ks ts z.num).flatMap (rA1 far time ks ts z)
def rKnown (far : Nat) (zs : List Zn) (ks : List Kn) (ts : List Tk) : List Kn := zs.flatMap fun z => (rids ks ts z.num).flatMap (rK1 far ks ts z)
theorem rAl_len (time : Nat) (z id : Int) (x : Kn) (inn cm : Bool) : (rAl time z id x inn cm).length ≤ 1 := by unfold rAl; (repeat' split) <;> simp
theorem rKs_len (k : Kn) : (rKs k).length ≤ 1 := by unfold rKs; split <;> simp
theorem pt_one' (p : Pt) : ∀ v ∈ pc p, v.oneCell' = true := by
 intro v hv
 unfold pc at hv
 simp only [List.mem_cons, List.not_mem_nil, or_false] at hv
 rcases hv with rfl | rfl <;> rfl
theorem rwatch_nil (t : Nat) (a : Option Addr) (n c : Nat) (w0 : World) : Ret Try.prog 44 [.pointer none, .float .f64 t, .slice a n c] w0 fun v w' => v = .slice none 0 0 ∧ HS w0 w' [] := by
 refine Ret.start fun w hs => ?_
 refine calls_of_W Try.func44 rfl rfl rfl ?_
 refine W_seq ?_
 refine W_region ?_
 refine L_assign rfl rfl ?_
 refine RL_then ?_
 refine W_seq ?_
 refine W_seq ?_
 refine W_region ?_
 refine L_move rfl rfl ?_
 refine L_ptrNil rfl Try.underlying71 rfl rfl ?_
 refine RL_then ?_
 refine W_if_true rfl ?_
 refine W_seq ?_
 refine W_region ?_
 refine L_assign rfl rfl ?_
 refine RL_then ?_
 refine W_ret' ?_
 refine Ex_then_ret ?_
 refine Ex_done1 rfl rfl ?_
 exact ⟨_, rfl, rfl, hs⟩
theorem flat_take {α β : Type} {l : List α} {d : α} {f : α → List β} {i : Nat} (h : i < l.length) : (l.take (i + 1)).flatMap f = (l.take i).flatMap f ++ f (l.getD i d) := by
 rw [List.take_add_one, List.getD_eq_getElem?_getD, List.getElem?_eq_getElem h, List.flatMap_append]
 simp
set_option maxHeartbeats 4000000 in
theorem rwatch_ok (w0 w : World) (BR far : Nat) (vZ : Value) (MZ : Bks) (vK : Value) (MK : Bks) (ever : Int) (zs : List Zn) (ks : List Kn) (R : Bks) (time : Nat) (a : Option Addr) (n c : Nat) (ts : List Tk) (hs : HS w0 w (rbs BR far vZ MZ vK MK ever zs ++ R)) (hN : ROk w0 BR vZ MZ vK MK zs ks) (hR : Own w0 R)
  (hA : ∀ w' L', HS w0 w' L' → Own w0 L' → (∀ p ∈ R, p ∈ L') → SlC w' a (tcs ts)) (hkl : ks.length ≤ 1000000) (hn : ts.length = n) (hn2 : n ≤ 5000) :
  Ret Try.prog 44 [.pointer (some ⟨BR, 0, none⟩), .float .f64 time, .slice a n c] w fun r w' => ∃ N vK' MK', HS w0 w' ((rbs BR far vZ MZ vK' MK' ever zs ++ R) ++ N) ∧ Bl w0 51 4 r (rTold far time zs ks ts).length (acs (rTold far time zs ks ts)) N ∧ ROk w0 BR vZ MZ vK' MK' zs (rKnown far zs ks ts) := by
 have hlen := hN.len
 have hbZ := hN.zones
 have hbK := hN.known
 obtain ⟨aZ, cZ, rfl, _⟩ := hbZ.slice
 obtain ⟨aK, cK, rfl, _⟩ := hbK.slice
 obtain ⟨LL, hLL⟩ : ∃ LL, LL = rbs BR far (.slice aZ zs.length cZ) MZ (.slice aK ks.length cK) MK ever zs ++ R := ⟨_, rfl⟩
 have hLo : Own w0 LL := by rw [hLL]; exact hN.owns.app hR
 have hrow : (BR, Row 107 [.float .f64 far, .slice aZ zs.length cZ, .slice aK ks.length cK, .int .i64 ever]) ∈ LL := by rw [hLL]; exact rbs_row
 have hZm : ∀ p ∈ MZ, p ∈ LL := fun p hp => by rw [hLL]; exact rbs_Z hp
 have hKm : ∀ p ∈ MK, p ∈ LL := fun p hp => by rw [hLL]; exact rbs_K hp
 have hzm : ∀ z ∈ zs, ∀ p ∈ z.M, p ∈ LL := fun z hz p hp => by rw [hLL]; exact rbs_z hz hp
 have hRm : ∀ p ∈ R, p ∈ LL := fun p hp => by rw [hLL]; exact List.mem_append_right _ hp
 rw [← hLL] at hs
 replace hs : HS w0 w (LL ++ ([] ++ [])) := by
  show HS w0 w (LL ++ [])
  rw [List.append_nil]; exact hs
 refine calls_of_W Try.func44 rfl rfl rfl ?_
 refine W_seq ?_
 refine W_region ?_
 refine L_assign rfl rfl ?_
 refine RL_then ?_
 refine W_seq ?_
 refine W_seq ?_
 refine W_region ?_
 refine L_move rfl rfl ?_
 refine L_ptrNil rfl Try.underlying71 rfl rfl ?_
 refine RL_then ?_
 refine W_if_false rfl ?_
 refine W_skip' ?_
 refine Nx_then ?_
 refine W_seq ?_
 refine W_region ?_
 refine L_assign rfl rfl ?_
 refine RL_then ?_
 refine W_seq ?_
 refine W_region ?_
 refine L_assign rfl rfl ?_
 refine RL_then ?_
 refine W_seq ?_
 refine W_seq ?_
 refine W_region ?_
 refine L_assign rfl rfl ?_
 refine RL_then ?_
 refine W_block ?_
 refine W_loop6 (fun (i : Nat) (vO : Value) (MO : Bks) (vN : Value) (MN : Bks) (w : World) => [(0, .pointer (some ⟨BR, 0, none⟩)), (1, .float .f64 time), (2, .slice a n c), (7, vO), (8, vN), (9, .int .i64 i)]) (fun (i : Nat) (vO : Value) (MO : Bks) (vN : Value) (MN : Bks) (w : World) => w) (fun (i : Nat) (vO : Value) (MO : Bks) (vN : Value) (MN : Bks) (w : World) => (i ≤ zs.length) ∧ (Bl w0 51 4 vO ((zs.take i).flatMap fun z => (rids ks ts z.num).flatMap (rA1 far time ks ts z)).length (acs ((zs.take i).flatMap fun z => (rids ks ts z.num).flatMap (rA1 far time ks ts z))) MO) ∧ (Bl w0 109 4 vN ((zs.take i).flatMap fun z => (rids ks ts z.num).flatMap (rK1 far ks ts z)).length (kcs ((zs.take i).flatMap fun z => (rids ks ts z.num).flatMap (rK1 far ks ts z))) MN) ∧ (((zs.take i).flatMap fun z => (rids ks ts z.num).flatMap (rA1 far time ks ts z)).length ≤ i * 2000000) ∧ (((zs.take i).flatMap fun z => (rids ks ts z.num).flatMap (rK1 far ks ts z)).length ≤ i * 2000000) ∧ (HS w0 w (LL ++ (MO ++ MN)))) (fun (i : Nat) (vO : Value) (MO : Bks) (vN : Value) (MN : Bks) (w : World) => zs.length - i) (0) (.slice none 0 0) ([]) (.slice none 0 0) ([]) (_) (is := [0, 1, 2, 7, 8, 9]) rfl rfl ?_ ?_
 ·
  exact ⟨Nat.zero_le _, Bl.nil, Bl.nil, Nat.zero_le _, Nat.zero_le _, hs⟩
 ·
  clear hs
  intro i vO MO vN MN w hI
  show W _ _ _ _ [(0, .pointer (some ⟨BR, 0, none⟩)), (1, .float .f64 time), (2, .slice a n c), (7, vO), (8, vN), (9, .int .i64 i)] w
  obtain ⟨hi, hbO, hbN, hOl, hNl, hs⟩ := hI
  have hrow1 : (BR, Row 107 [.float .f64 far, .slice aZ zs.length cZ, .slice aK ks.length cK, .int .i64 ever]) ∈ LL ++ (MO ++ MN) := List.mem_append_left _ hrow
  have hslZ := hbZ.slm hs (fun p hp => List.mem_append_left _ (hZm p hp))
  by_cases hlt : i < zs.length
  ·
   obtain ⟨z, hzd⟩ : ∃ z, z = zs.getD i zn0 := ⟨_, rfl⟩
   have hzin : z ∈ zs := by rw [hzd]; exact getD_mem hlt
   have hzok := hN.each z hzin
   obtain ⟨az, cz, hzv, _⟩ := hzok.bl.slice
   have hzbl := hzok.bl
   rw [hzv] at hzbl
   have hzat : CellsAt w ((aD aZ).add (i * 3)) z.cells := by rw [hzd]; exact zn_at hslZ hlt
   obtain ⟨OO, hOO⟩ : ∃ OO, OO = (zs.take i).flatMap fun z => (rids ks ts z.num).flatMap (rA1 far time ks ts z) := ⟨_, rfl⟩
   obtain ⟨NN, hNN⟩ : ∃ NN, NN = (zs.take i).flatMap fun z => (rids ks ts z.num).flatMap (rK1 far ks ts z) := ⟨_, rfl⟩
   rw [← hOO] at hbO hOl
   rw [← hNN] at hbN hNl
   obtain ⟨bnd, hbnd⟩ : ∃ bnd, bnd = i * 2000000 := ⟨_, rfl⟩
   rw [← hbnd] at hOl hNl
   have hbnd2 : bnd ≤ 64 * 2000000 := by rw [hbnd]; exact Nat.mul_le_mul_right _ (by omega)
   obtain ⟨QQ, hQQ⟩ : ∃ QQ, QQ = LL ++ (MO ++ MN) := ⟨_, rfl⟩
   have hQo : Own w0 QQ := by rw [hQQ]; exact hLo.app (hbO.own.app hbN.own)
   have hQL : ∀ p ∈ LL, p ∈ QQ := fun p hp => by rw [hQQ]; exact List.mem_append_left _ hp
   rw [← hQQ] at hs hrow1
   replace hs : HS w0 w (QQ ++ []) := by rw [List.append_nil]; exact hs
   have hrow2 : ∀ M : Bks, (BR, Row 107 [.float .f64 far, .slice aZ zs.length cZ, .slice aK ks.length cK, .int .i64 ever]) ∈ QQ ++ M := fun M => List.mem_append_left _ (hQL _ hrow)
   refine W_seq ?_
   refine W_seq ?_
   refine W_region ?_
   refine L_move rfl rfl ?_
   refine L_move rfl rfl ?_
   refine L_nilCheck rfl rfl ?_
   refine L_fieldAddr rfl (off := 1) Try.underlying107 rfl rfl Try.ti104 rfl ?_
   refine L_load rfl Try.one104 rfl (by exact HS.cellM hs (hrow2 _) rfl) ?_
   refine L_len rfl Try.underlying104 rfl ?_
   first | refine L_lss rfl rfl rfl (dtrue (by omega)) ?_ | refine L_lss rfl rfl rfl (dfalse (by omega)) ?_ | refine L_lss rfl rfl rfl rfl ?_
   refine RL_then ?_
   refine W_if_true rfl ?_
   refine W_skip' ?_
   refine Nx_then ?_
   refine W_seq ?_
   refine W_block ?_
   refine W_seq ?_
   refine W_region ?_
   refine L_move rfl rfl ?_
   refine L_nilCheck rfl rfl ?_
   refine L_fieldAddr rfl (off := 1) Try.underlying107 rfl rfl Try.ti104 rfl ?_
   refine L_load rfl Try.one104 rfl (by exact HS.cellM hs (hrow2 _) rfl) ?_
   refine L_move rfl rfl ?_
   refine L_idxN rfl Try.underlying104 Try.ti118 rfl rfl (by with_reducible first | exact natc_k _ | exact natc_a1 _ | exact natc_0 | exact natc_1 | exact natc_2 | exact natc_s1 _ (by omega) | exact natc_a2 _ | exact natc_add _ _ | exact natc_mul _ _ | exact natc (by omega)) (by omega) (hslZ.ao (by rw [zcs_len]; omega)) ?_
   refine L_fieldAddr rfl (off := 0) Try.underlying118 rfl rfl Try.ti3 rfl ?_
   refine L_load rfl Try.one3 rfl (by exact hzat 0 _ rfl) ?_
   refine L_assign rfl rfl ?_
   refine RL_then ?_
   refine W_seq ?_
   refine W_region ?_
   refine L_move rfl rfl ?_
   refine L_nilCheck rfl rfl ?_
   refine L_fieldAddr rfl (off := 1) Try.underlying107 rfl rfl Try.ti104 rfl ?_
   refine L_load rfl Try.one104 rfl (by exact HS.cellM hs (hrow2 _) rfl) ?_
   refine L_move rfl rfl ?_
   refine L_idxN rfl Try.underlying104 Try.ti118 rfl rfl (by with_reducible first | exact natc_k _ | exact natc_a1 _ | exact natc_0 | exact natc_1 | exact natc_2 | exact natc_s1 _ (by omega) | exact natc_a2 _ | exact natc_add _ _ | exact natc_mul _ _ | exact natc (by omega)) (by omega) (hslZ.ao (by rw [zcs_len]; omega)) ?_
   refine L_fieldAddr rfl (off := 1) Try.underlying118 rfl rfl Try.ti40 rfl ?_
   refine L_fieldAddr rfl (off := 1) Try.underlying40 rfl rfl Try.ti22 rfl ?_
   refine L_load rfl Try.one22 rfl (by exact hzat 2 (.slice az z.ps.length cz) (by show some z.v = _; rw [hzv])) ?_
   refine L_assign rfl rfl ?_
   refine RL_then ?_
   refine W_seq ?_
   refine W_region ?_
   refine L_assign rfl rfl ?_
   refine RL_then ?_
   refine W_seq ?_
   refine W_seq ?_
   refine W_region ?_
   refine L_assign rfl rfl ?_
   refine RL_then ?_
   refine W_block ?_
   refine W_loop4 (fun (j : Nat) (vI : Value) (MI : Bks) (w : World) => [(0, .pointer (some ⟨BR, 0, none⟩)), (1, .float .f64 time), (2, .slice a n c), (7, vO), (8, vN), (9, .int .i64 i), (10, .int .i64 z.num), (11, .slice az z.ps.length cz), (12, vI), (13, .int .i64 j)]) (fun (j : Nat) (vI : Value) (MI : Bks) (w : World) => w) (fun (j : Nat) (vI : Value) (MI : Bks) (w : World) => (j ≤ n) ∧ ((ridsT (ts.take j)).length ≤ j) ∧ (Bl w0 3 1 vI (ridsT (ts.take j)).length (il (ridsT (ts.take j))) MI) ∧ (HS w0 w (QQ ++ MI))) (fun (j : Nat) (vI : Value) (MI : Bks) (w : World) => n - j) (0) (.slice none 0 0) ([]) (w) (is := [0, 1, 2, 7, 8, 9, 10, 11, 12, 13]) rfl rfl ?_ ?_
   ·
    exact ⟨Nat.zero_le _, Nat.zero_le _, Bl.nil, hs⟩
   ·
    clear hs
    intro j vI MI w hI
    show W _ _ _ _ [(0, .pointer (some ⟨BR, 0, none⟩)), (1, .float .f64 time), (2, .slice a n c), (7, vO), (8, vN), (9, .int .i64 i), (10, .int .i64 z.num), (11, .slice az z.ps.length cz), (12, vI), (13, .int .i64 j)] w
    obtain ⟨hj, hjl, hbI, hs⟩ := hI
    by_cases hjt : j < n
    ·
     have hts : SlC w a (tcs ts) := hA _ _ hs (hQo.app hbI.own) (fun p hp => List.mem_append_left _ (hQL _ (hRm p hp)))
     obtain ⟨t, htd⟩ : ∃ t, t = ts.getD j tk0 := ⟨_, rfl⟩
     have htat : CellsAt w ((aD a).add (j * 15)) t.cells := by rw [htd]; exact tk_at hts (by omega)
     have hst : ridsT (ts.take (j + 1)) = putT (ridsT (ts.take j)) t := by rw [take_tk (by omega), ridsT_snoc, ← htd]
     by_cases hk1 : t.kind = 1
     ·
      obtain ⟨aI, cI, rfl, _⟩ := hbI.slice
      refine W_seq ?_
      refine W_seq ?_
      refine W_region ?_
      refine L_move rfl rfl ?_
      refine L_move rfl rfl ?_
      refine L_len rfl Try.underlying44 rfl ?_
      first | refine L_lss rfl rfl rfl (dtrue (by omega)) ?_ | refine L_lss rfl rfl rfl (dfalse (by omega)) ?_ | refine L_lss rfl rfl rfl rfl ?_
      refine RL_then ?_
      refine W_if_true rfl ?_
      refine W_skip' ?_
      refine Nx_then ?_
      refine W_seq ?_
      refine W_block ?_
      refine W_seq ?_
      refine W_region ?_
      refine L_move rfl rfl ?_
      refine L_move rfl rfl ?_
      refine L_idxN rfl Try.underlying44 Try.ti60 rfl rfl (by with_reducible first | exact natc_k _ | exact natc_a1 _ | exact natc_0 | exact natc_1 | exact natc_2 | exact natc_s1 _ (by omega) | exact natc_a2 _ | exact natc_add _ _ | exact natc_mul _ _ | exact natc (by omega)) (by omega) (hts.ao (by rw [tcs_len]; omega)) ?_
      refine L_fieldAddr rfl (off := 1) Try.underlying60 rfl rfl Try.ti49 rfl ?_
      refine L_load rfl Try.one49 rfl (by exact htat 1 _ rfl) ?_
      first | refine L_eql rfl rfl rfl (dtrue (by omega)) ?_ | refine L_eql rfl rfl rfl (dfalse (by omega)) ?_ | refine L_eql rfl rfl rfl rfl ?_
      refine RL_then ?_
      refine W_if_true rfl ?_
      refine W_region ?_
      refine L_move rfl rfl ?_
      refine L_move rfl rfl ?_
      refine L_move rfl rfl ?_
      refine L_idxN rfl Try.underlying44 Try.ti60 rfl rfl (by with_reducible first | exact natc_k _ | exact natc_a1 _ | exact natc_0 | exact natc_1 | exact natc_2 | exact natc_s1 _ (by omega) | exact natc_a2 _ | exact natc_add _ _ | exact natc_mul _ _ | exact natc (by omega)) (by omega) (hts.ao (by rw [tcs_len]; omega)) ?_
      refine L_fieldAddr rfl (off := 0) Try.underlying60 rfl rfl Try.ti3 rfl ?_
      refine L_load rfl Try.one3 rfl (by exact htat 0 _ rfl) ?_
      refine L_call rfl Try.fun53 rfl (rput_ok aI (ridsT (ts.take j)).length cI (ridsT (ts.take j)) t.id w (hbI.slm hs (fun p hp => List.mem_append_right _ hp)) rfl (by omega)) ?_
      rintro _ w1 ⟨N, hs', hbN2⟩
      have hs2 := hs.call hs' hbN2.own
      replace hbN2 := hbN2.mono hs.size
      have h0 : HS w0 w1 (QQ ++ N) := HS.dropR (M := MI) (HS.re hs2 (fun c => by simp only [List.map_append, List.map_cons, List.map_nil, List.sum_append, List.sum_cons, List.sum_nil]; omega)) hbI.own
      clear hs hs' hs2
      have hs := h0
      clear h0
      have hpl := putL_len t.id (ridsT (ts.take j))
      refine L_assign rfl rfl ?_
      refine RL_nil' ?_
      refine Nx_block ?_
      refine Nx_then ?_
      refine W_region ?_
      refine L_move rfl rfl ?_
      first | refine L_add rfl rfl rfl (wrp_i64 (by omega)) ?_ | refine L_add rfl rfl rfl rfl ?_
      refine L_assign rfl rfl ?_
      refine RL_nil' ?_
      refine Nx_loopP (j + 1, _, N, w1) (is := [0, 1, 2, 7, 8, 9, 10, 11, 12, 13]) (I' := (fun (j : Nat) (vI : Value) (MI : Bks) (w : World) => (j ≤ n) ∧ ((ridsT (ts.take j)).length ≤ j) ∧ (Bl w0 3 1 vI (ridsT (ts.take j)).length (il (ridsT (ts.take j))) MI) ∧ (HS w0 w (QQ ++ MI))) (j + 1) (_) (N) (w1)) rfl rfl rfl ?_ ?_
      ·
       refine ⟨by omega, ?_, ?_, hs⟩
       ·
        rw [hst]; unfold putT; rw [if_pos hk1]; omega
       ·
        rw [hst]; unfold putT; rw [if_pos hk1]; exact hbN2
      ·
       omega
     ·
      refine W_seq ?_
      refine W_seq ?_
      refine W_region ?_
      refine L_move rfl rfl ?_
      refine L_move rfl rfl ?_
      refine L_len rfl Try.underlying44 rfl ?_
      first | refine L_lss rfl rfl rfl (dtrue (by omega)) ?_ | refine L_lss rfl rfl rfl (dfalse (by omega)) ?_ | refine L_lss rfl rfl rfl rfl ?_
      refine RL_then ?_
      refine W_if_true rfl ?_
      refine W_skip' ?_
      refine Nx_then ?_
      refine W_seq ?_
      refine W_block ?_
      refine W_seq ?_
      refine W_region ?_
      refine L_move rfl rfl ?_
      refine L_move rfl rfl ?_
      refine L_idxN rfl Try.underlying44 Try.ti60 rfl rfl (by with_reducible first | exact natc_k _ | exact natc_a1 _ | exact natc_0 | exact natc_1 | exact natc_2 | exact natc_s1 _ (by omega) | exact natc_a2 _ | exact natc_add _ _ | exact natc_mul _ _ | exact natc (by omega)) (by omega) (hts.ao (by rw [tcs_len]; omega)) ?_
      refine L_fieldAddr rfl (off := 1) Try.underlying60 rfl rfl Try.ti49 rfl ?_
      refine L_load rfl Try.one49 rfl (by exact htat 1 _ rfl) ?_
      first | refine L_eql rfl rfl rfl (dtrue (by omega)) ?_ | refine L_eql rfl rfl rfl (dfalse (by omega)) ?_ | refine L_eql rfl rfl rfl rfl ?_
      refine RL_then ?_
      refine W_if_false rfl ?_
      refine W_skip' ?_
      refine Nx_block ?_
      refine Nx_then ?_
      refine W_region ?_
      refine L_move rfl rfl ?_
      first | refine L_add rfl rfl rfl (wrp_i64 (by omega)) ?_ | refine L_add rfl rfl rfl rfl ?_
      refine L_assign rfl rfl ?_
      refine RL_nil' ?_
      refine Nx_loopP (j + 1, vI, MI, _) (is := [0, 1, 2, 7, 8, 9, 10, 11, 12, 13]) (I' := (fun (j : Nat) (vI : Value) (MI : Bks) (w : World) => (j ≤ n) ∧ ((ridsT (ts.take j)).length ≤ j) ∧ (Bl w0 3 1 vI (ridsT (ts.take j)).length (il (ridsT (ts.take j))) MI) ∧ (HS w0 w (QQ ++ MI))) (j + 1) (vI) (MI) (_)) rfl rfl rfl ?_ ?_
      ·
       refine ⟨by omega, ?_, ?_, hs⟩
       ·
        rw [hst]; unfold putT; rw [if_neg hk1]; omega
       ·
        rw [hst]; unfold putT; rw [if_neg hk1]; exact hbI
      ·
       omega
    ·
     obtain hjn : j = n := by omega
     rw [List.take_of_length_le (by omega)] at hbI hjl
     refine W_seq ?_
     refine W_seq ?_
     refine W_region ?_
     refine L_move rfl rfl ?_
     refine L_move rfl rfl ?_
     refine L_len rfl Try.underlying44 rfl ?_
     first | refine L_lss rfl rfl rfl (dtrue (by omega)) ?_ | refine L_lss rfl rfl rfl (dfalse (by omega)) ?_ | refine L_lss rfl rfl rfl rfl ?_
     refine RL_then ?_
     refine W_if_false rfl ?_
     refine W_exit' ?_
     refine Ex_then_exit ?_
     refine Ex_loop_exit ?_
     refine Ex_block_hit ?_
     refine Nx_then ?_
     refine W_seq ?_
     refine W_seq ?_
     refine W_region ?_
     refine L_assign rfl rfl ?_
     refine RL_then ?_
     refine W_block ?_
     have hrk : ∀ M : Bks, ∀ p ∈ MK, p ∈ QQ ++ M := fun M p hp => List.mem_append_left _ (hQL _ (hKm p hp))
     refine W_loop4 (fun (j : Nat) (vI : Value) (MI : Bks) (w : World) => [(0, .pointer (some ⟨BR, 0, none⟩)), (1, .float .f64 time), (2, .slice a n c), (7, vO), (8, vN), (9, .int .i64 i), (10, .int .i64 z.num), (11, .slice az z.ps.length cz), (12, vI), (14, .int .i64 j)]) (fun (j : Nat) (vI : Value) (MI : Bks) (w : World) => w) (fun (j : Nat) (vI : Value) (MI : Bks) (w : World) => (j ≤ ks.length) ∧ ((rids (ks.take j) ts z.num).length ≤ n + j) ∧ (Bl w0 3 1 vI (rids (ks.take j) ts z.num).length (il (rids (ks.take j) ts z.num)) MI) ∧ (HS w0 w (QQ ++ MI))) (fun (j : Nat) (vI : Value) (MI : Bks) (w : World) => ks.length - j) (0) (vI) (MI) (w) (is := [0, 1, 2, 7, 8, 9, 10, 11, 12, 14]) rfl rfl ?_ ?_
     ·
      exact ⟨Nat.zero_le _, by rw [List.take_zero]; show (ridsT ts).length ≤ _; omega, hbI, hs⟩
     ·
      clear hs hbI hjl
      intro j vI MI w hI
      show W _ _ _ _ [(0, .pointer (some ⟨BR, 0, none⟩)), (1, .float .f64 time), (2, .slice a n c), (7, vO), (8, vN), (9, .int .i64 i), (10, .int .i64 z.num), (11, .slice az z.ps.length cz), (12, vI), (14, .int .i64 j)] w
      obtain ⟨hj2, hjl, hbI, hs⟩ := hI
      have hks : SlC w aK (kcs ks) := hbK.slm hs (hrk _)
      by_cases hjt2 : j < ks.length
      ·
       obtain ⟨k, hkd⟩ : ∃ k, k = ks.getD j kn0 := ⟨_, rfl⟩
       have hkat : CellsAt w ((aD aK).add (j * 4)) k.cells := by rw [hkd]; exact kcs_at hks hjt2
       have hst : rids (ks.take (j + 1)) ts z.num = putK z.num (rids (ks.take j) ts z.num) k := by rw [take_kn hjt2, rids_snoc, ← hkd]
       by_cases h1 : k.zone = z.num
       ·
        obtain ⟨kin, hkin⟩ : ∃ b, k.inn = b := ⟨_, rfl⟩
        cases kin
        ·
         refine W_seq ?_
         refine W_seq ?_
         refine W_region ?_
         refine L_move rfl rfl ?_
         refine L_move rfl rfl ?_
         refine L_nilCheck rfl rfl ?_
         refine L_fieldAddr rfl (off := 2) Try.underlying107 rfl rfl Try.ti105 rfl ?_
         refine L_load rfl Try.one105 rfl (by exact HS.cellM hs (hrow2 _) rfl) ?_
         refine L_len rfl Try.underlying105 rfl ?_
         first | refine L_lss rfl rfl rfl (dtrue (by omega)) ?_ | refine L_lss rfl rfl rfl (dfalse (by omega)) ?_ | refine L_lss rfl rfl rfl rfl ?_
         refine RL_then ?_
         refine W_if_true rfl ?_
         refine W_skip' ?_
         refine Nx_then ?_
         refine W_seq ?_
         refine W_block ?_
         refine W_seq ?_
         refine W_region ?_
         refine L_move rfl rfl ?_
         refine L_nilCheck rfl rfl ?_
         refine L_fieldAddr rfl (off := 2) Try.underlying107 rfl rfl Try.ti105 rfl ?_
         refine L_load rfl Try.one105 rfl (by exact HS.cellM hs (hrow2 _) rfl) ?_
         refine L_move rfl rfl ?_
         refine L_idxN rfl Try.underlying105 Try.ti109 rfl rfl (by with_reducible first | exact natc_k _ | exact natc_a1 _ | exact natc_0 | exact natc_1 | exact natc_2 | exact natc_s1 _ (by omega) | exact natc_a2 _ | exact natc_add _ _ | exact natc_mul _ _ | exact natc (by omega)) (by omega) (hks.ao (by rw [kcs_len]; omega)) ?_
         refine L_fieldAddr rfl (off := 0) Try.underlying109 rfl rfl Try.ti3 rfl ?_
         refine L_load rfl Try.one3 rfl (by exact hkat 0 _ rfl) ?_
         refine L_move rfl rfl ?_
         first | refine L_eql rfl rfl rfl (dtrue (by omega)) ?_ | refine L_eql rfl rfl rfl (dfalse (by omega)) ?_ | refine L_eql rfl rfl rfl rfl ?_
         refine L_move rfl rfl ?_
         first | (refine RL_want rfl rfl ?_; refine L_move rfl rfl ?_) | refine RL_skip rfl rfl rfl rfl ?_ | refine RL_skipU rfl rfl rfl ?_
         first | (refine RL_want rfl rfl ?_; refine L_nilCheck rfl rfl ?_) | refine RL_skip rfl rfl rfl rfl ?_ | refine RL_skipU rfl rfl rfl ?_
         first | (refine RL_want rfl rfl ?_; refine L_fieldAddr rfl (off := 2) Try.underlying107 rfl rfl Try.ti105 rfl ?_) | refine RL_skip rfl rfl rfl rfl ?_ | refine RL_skipU rfl rfl rfl ?_
         first | (refine RL_want rfl rfl ?_; refine L_load rfl Try.one105 rfl (by exact HS.cellM hs (hrow2 _) rfl) ?_) | refine RL_skip rfl rfl rfl rfl ?_ | refine RL_skipU rfl rfl rfl ?_
         first | (refine RL_want rfl rfl ?_; refine L_move rfl rfl ?_) | refine RL_skip rfl rfl rfl rfl ?_ | refine RL_skipU rfl rfl rfl ?_
         first | (refine RL_want rfl rfl ?_; refine L_idxN rfl Try.underlying105 Try.ti109 rfl rfl (by with_reducible first | exact natc_k _ | exact natc_a1 _ | exact natc_0 | exact natc_1 | exact natc_2 | exact natc_s1 _ (by omega) | exact natc_a2 _ | exact natc_add _ _ | exact natc_mul _ _ | exact natc (by omega)) (by omega) (hks.ao (by rw [kcs_len]; omega)) ?_) | refine RL_skip rfl rfl rfl rfl ?_ | refine RL_skipU rfl rfl rfl ?_
         first | (refine RL_want rfl rfl ?_; refine L_fieldAddr rfl (off := 2) Try.underlying109 rfl rfl Try.ti4 rfl ?_) | refine RL_skip rfl rfl rfl rfl ?_ | refine RL_skipU rfl rfl rfl ?_
         first | (refine RL_want rfl rfl ?_; refine L_load rfl Try.one4 rfl (by exact hkat 2 _ rfl) ?_) | refine RL_skip rfl rfl rfl rfl ?_ | refine RL_skipU rfl rfl rfl ?_
         refine RL_set 99 (v' := .bool false) rfl ((by rw [hkin])) ?_
         first | refine L_pick_t rfl rfl rfl ?_ | refine L_pick_f rfl rfl rfl ?_
         refine RL_then ?_
         refine W_if_false rfl ?_
         refine W_skip' ?_
         refine Nx_block ?_
         refine Nx_then ?_
         refine W_region ?_
         refine L_move rfl rfl ?_
         first | refine L_add rfl rfl rfl (wrp_i64 (by omega)) ?_ | refine L_add rfl rfl rfl rfl ?_
         refine L_assign rfl rfl ?_
         refine RL_nil' ?_
         refine Nx_loopP (j + 1, vI, MI, _) (is := [0, 1, 2, 7, 8, 9, 10, 11, 12, 14]) (I' := (fun (j : Nat) (vI : Value) (MI : Bks) (w : World) => (j ≤ ks.length) ∧ ((rids (ks.take j) ts z.num).length ≤ n + j) ∧ (Bl w0 3 1 vI (rids (ks.take j) ts z.num).length (il (rids (ks.take j) ts z.num)) MI) ∧ (HS w0 w (QQ ++ MI))) (j + 1) (vI) (MI) (_)) rfl rfl rfl ?_ ?_
         ·
          refine ⟨by omega, ?_, ?_, hs⟩
          ·
           rw [hst]; unfold putK; rw [if_neg (by rw [hkin]; simp)]; omega
          ·
           rw [hst]; unfold putK; rw [if_neg (by rw [hkin]; simp)]; exact hbI
         ·
          omega
        ·
         obtain ⟨aI, cI, rfl, _⟩ := hbI.slice
         refine W_seq ?_
         refine W_seq ?_
         refine W_region ?_
         refine L_move rfl rfl ?_
         refine L_move rfl rfl ?_
         refine L_nilCheck rfl rfl ?_
         refine L_fieldAddr rfl (off := 2) Try.underlying107 rfl rfl Try.ti105 rfl ?_
         refine L_load rfl Try.one105 rfl (by exact HS.cellM hs (hrow2 _) rfl) ?_
         refine L_len rfl Try.underlying105 rfl ?_
         first | refine L_lss rfl rfl rfl (dtrue (by omega)) ?_ | refine L_lss rfl rfl rfl (dfalse (by omega)) ?_ | refine L_lss rfl rfl rfl rfl ?_
         refine RL_then ?_
         refine W_if_true rfl ?_
         refine W_skip' ?_
         refine Nx_then ?_
         refine W_seq ?_
         refine W_block ?_
         refine W_seq ?_
         refine W_region ?_
         refine L_move rfl rfl ?_
         refine L_nilCheck rfl rfl ?_
         refine L_fieldAddr rfl (off := 2) Try.underlying107 rfl rfl Try.ti105 rfl ?_
         refine L_load rfl Try.one105 rfl (by exact HS.cellM hs (hrow2 _) rfl) ?_
         refine L_move rfl rfl ?_
         refine L_idxN rfl Try.underlying105 Try.ti109 rfl rfl (by with_reducible first | exact natc_k _ | exact natc_a1 _ | exact natc_0 | exact natc_1 | exact natc_2 | exact natc_s1 _ (by omega) | exact natc_a2 _ | exact natc_add _ _ | exact natc_mul _ _ | exact natc (by omega)) (by omega) (hks.ao (by rw [kcs_len]; omega)) ?_
         refine L_fieldAddr rfl (off := 0) Try.underlying109 rfl rfl Try.ti3 rfl ?_
         refine L_load rfl Try.one3 rfl (by exact hkat 0 _ rfl) ?_
         refine L_move rfl rfl ?_
         first | refine L_eql rfl rfl rfl (dtrue (by omega)) ?_ | refine L_eql rfl rfl rfl (dfalse (by omega)) ?_ | refine L_eql rfl rfl rfl rfl ?_
         refine L_move rfl rfl ?_
         first | (refine RL_want rfl rfl ?_; refine L_move rfl rfl ?_) | refine RL_skip rfl rfl rfl rfl ?_ | refine RL_skipU rfl rfl rfl ?_
         first | (refine RL_want rfl rfl ?_; refine L_nilCheck rfl rfl ?_) | refine RL_skip rfl rfl rfl rfl ?_ | refine RL_skipU rfl rfl rfl ?_
         first | (refine RL_want rfl rfl ?_; refine L_fieldAddr rfl (off := 2) Try.underlying107 rfl rfl Try.ti105 rfl ?_) | refine RL_skip rfl rfl rfl rfl ?_ | refine RL_skipU rfl rfl rfl ?_
         first | (refine RL_want rfl rfl ?_; refine L_load rfl Try.one105 rfl (by exact HS.cellM hs (hrow2 _) rfl) ?_) | refine RL_skip rfl rfl rfl rfl ?_ | refine RL_skipU rfl rfl rfl ?_
         first | (refine RL_want rfl rfl ?_; refine L_move rfl rfl ?_) | refine RL_skip rfl rfl rfl rfl ?_ | refine RL_skipU rfl rfl rfl ?_
         first | (refine RL_want rfl rfl ?_; refine L_idxN rfl Try.underlying105 Try.ti109 rfl rfl (by with_reducible first | exact natc_k _ | exact natc_a1 _ | exact natc_0 | exact natc_1 | exact natc_2 | exact natc_s1 _ (by omega) | exact natc_a2 _ | exact natc_add _ _ | exact natc_mul _ _ | exact natc (by omega)) (by omega) (hks.ao (by rw [kcs_len]; omega)) ?_) | refine RL_skip rfl rfl rfl rfl ?_ | refine RL_skipU rfl rfl rfl ?_
         first | (refine RL_want rfl rfl ?_; refine L_fieldAddr rfl (off := 2) Try.underlying109 rfl rfl Try.ti4 rfl ?_) | refine RL_skip rfl rfl rfl rfl ?_ | refine RL_skipU rfl rfl rfl ?_
         first | (refine RL_want rfl rfl ?_; refine L_load rfl Try.one4 rfl (by exact hkat 2 _ rfl) ?_) | refine RL_skip rfl rfl rfl rfl ?_ | refine RL_skipU rfl rfl rfl ?_
         refine RL_set 99 (v' := .bool true) rfl ((by rw [hkin])) ?_
         first | refine L_pick_t rfl rfl rfl ?_ | refine L_pick_f rfl rfl rfl ?_
         refine RL_then ?_
         refine W_if_true rfl ?_
         refine W_region ?_
         refine L_move rfl rfl ?_
         refine L_move rfl rfl ?_
         refine L_nilCheck rfl rfl ?_
         refine L_fieldAddr rfl (off := 2) Try.underlying107 rfl rfl Try.ti105 rfl ?_
         refine L_load rfl Try.one105 rfl (by exact HS.cellM hs (hrow2 _) rfl) ?_
         refine L_move rfl rfl ?_
         refine L_idxN rfl Try.underlying105 Try.ti109 rfl rfl (by with_reducible first | exact natc_k _ | exact natc_a1 _ | exact natc_0 | exact natc_1 | exact natc_2 | exact natc_s1 _ (by omega) | exact natc_a2 _ | exact natc_add _ _ | exact natc_mul _ _ | exact natc (by omega)) (by omega) (hks.ao (by rw [kcs_len]; omega)) ?_
         refine L_fieldAddr rfl (off := 1) Try.underlying109 rfl rfl Try.ti3 rfl ?_
         refine L_load rfl Try.one3 rfl (by exact hkat 1 _ rfl) ?_
         refine L_call rfl Try.fun53 rfl (rput_ok aI (rids (ks.take j) ts z.num).length cI (rids (ks.take j) ts z.num) k.id w (hbI.slm hs (fun p hp => List.mem_append_right _ hp)) rfl (by omega)) ?_
         rintro _ w1 ⟨N, hs', hbN2⟩
         have hs2 := hs.call hs' hbN2.own
         replace hbN2 := hbN2.mono hs.size
         have h0 : HS w0 w1 (QQ ++ N) := HS.dropR (M := MI) (HS.re hs2 (fun c => by simp only [List.map_append, List.map_cons, List.map_nil, List.sum_append, List.sum_cons, List.sum_nil]; omega)) hbI.own
         clear hs hs' hs2
         have hs := h0
         clear h0
         have hpl := putL_len k.id (rids (ks.take j) ts z.num)
         refine L_assign rfl rfl ?_
         refine RL_nil' ?_
         refine Nx_block ?_
         refine Nx_then ?_
         refine W_region ?_
         refine L_move rfl rfl ?_
         first | refine L_add rfl rfl rfl (wrp_i64 (by omega)) ?_ | refine L_add rfl rfl rfl rfl ?_
         refine L_assign rfl rfl ?_
         refine RL_nil' ?_
         refine Nx_loopP (j + 1, _, N, w1) (is := [0, 1, 2, 7, 8, 9, 10, 11, 12, 14]) (I' := (fun (j : Nat) (vI : Value) (MI : Bks) (w : World) => (j ≤ ks.length) ∧ ((rids (ks.take j) ts z.num).length ≤ n + j) ∧ (Bl w0 3 1 vI (rids (ks.take j) ts z.num).length (il (rids (ks.take j) ts z.num)) MI) ∧ (HS w0 w (QQ ++ MI))) (j + 1) (_) (N) (w1)) rfl rfl rfl ?_ ?_
         ·
          refine ⟨by omega, ?_, ?_, hs⟩
          ·
           rw [hst]; unfold putK; rw [if_pos ⟨h1, hkin⟩]; omega
          ·
           rw [hst]; unfold putK; rw [if_pos ⟨h1, hkin⟩]; exact hbN2
         ·
          omega
       ·
        refine W_seq ?_
        refine W_seq ?_
        refine W_region ?_
        refine L_move rfl rfl ?_
        refine L_move rfl rfl ?_
        refine L_nilCheck rfl rfl ?_
        refine L_fieldAddr rfl (off := 2) Try.underlying107 rfl rfl Try.ti105 rfl ?_
        refine L_load rfl Try.one105 rfl (by exact HS.cellM hs (hrow2 _) rfl) ?_
        refine L_len rfl Try.underlying105 rfl ?_
        first | refine L_lss rfl rfl rfl (dtrue (by omega)) ?_ | refine L_lss rfl rfl rfl (dfalse (by omega)) ?_ | refine L_lss rfl rfl rfl rfl ?_
        refine RL_then ?_
        refine W_if_true rfl ?_
        refine W_skip' ?_
        refine Nx_then ?_
        refine W_seq ?_
        refine W_block ?_
        refine W_seq ?_
        refine W_region ?_
        refine L_move rfl rfl ?_
        refine L_nilCheck rfl rfl ?_
        refine L_fieldAddr rfl (off := 2) Try.underlying107 rfl rfl Try.ti105 rfl ?_
        refine L_load rfl Try.one105 rfl (by exact HS.cellM hs (hrow2 _) rfl) ?_
        refine L_move rfl rfl ?_
        refine L_idxN rfl Try.underlying105 Try.ti109 rfl rfl (by with_reducible first | exact natc_k _ | exact natc_a1 _ | exact natc_0 | exact natc_1 | exact natc_2 | exact natc_s1 _ (by omega) | exact natc_a2 _ | exact natc_add _ _ | exact natc_mul _ _ | exact natc (by omega)) (by omega) (hks.ao (by rw [kcs_len]; omega)) ?_
        refine L_fieldAddr rfl (off := 0) Try.underlying109 rfl rfl Try.ti3 rfl ?_
        refine L_load rfl Try.one3 rfl (by exact hkat 0 _ rfl) ?_
        refine L_move rfl rfl ?_
        first | refine L_eql rfl rfl rfl (dtrue (by omega)) ?_ | refine L_eql rfl rfl rfl (dfalse (by omega)) ?_ | refine L_eql rfl rfl rfl rfl ?_
        refine L_move rfl rfl ?_
        first | (refine RL_want rfl rfl ?_; refine L_move rfl rfl ?_) | refine RL_skip rfl rfl rfl rfl ?_ | refine RL_skipU rfl rfl rfl ?_
        first | (refine RL_want rfl rfl ?_; refine L_nilCheck rfl rfl ?_) | refine RL_skip rfl rfl rfl rfl ?_ | refine RL_skipU rfl rfl rfl ?_
        first | (refine RL_want rfl rfl ?_; refine L_fieldAddr rfl (off := 2) Try.underlying107 rfl rfl Try.ti105 rfl ?_) | refine RL_skip rfl rfl rfl rfl ?_ | refine RL_skipU rfl rfl rfl ?_
        first | (refine RL_want rfl rfl ?_; refine L_load rfl Try.one105 rfl (by exact HS.cellM hs (hrow2 _) rfl) ?_) | refine RL_skip rfl rfl rfl rfl ?_ | refine RL_skipU rfl rfl rfl ?_
        first | (refine RL_want rfl rfl ?_; refine L_move rfl rfl ?_) | refine RL_skip rfl rfl rfl rfl ?_ | refine RL_skipU rfl rfl rfl ?_
        first | (refine RL_want rfl rfl ?_; refine L_idxN rfl Try.underlying105 Try.ti109 rfl rfl (by with_reducible first | exact natc_k _ | exact natc_a1 _ | exact natc_0 | exact natc_1 | exact natc_2 | exact natc_s1 _ (by omega) | exact natc_a2 _ | exact natc_add _ _ | exact natc_mul _ _ | exact natc (by omega)) (by omega) (hks.ao (by rw [kcs_len]; omega)) ?_) | refine RL_skip rfl rfl rfl rfl ?_ | refine RL_skipU rfl rfl rfl ?_
        first | (refine RL_want rfl rfl ?_; refine L_fieldAddr rfl (off := 2) Try.underlying109 rfl rfl Try.ti4 rfl ?_) | refine RL_skip rfl rfl rfl rfl ?_ | refine RL_skipU rfl rfl rfl ?_
        first | (refine RL_want rfl rfl ?_; refine L_load rfl Try.one4 rfl (by exact hkat 2 _ rfl) ?_) | refine RL_skip rfl rfl rfl rfl ?_ | refine RL_skipU rfl rfl rfl ?_
        first | refine L_pick_t rfl rfl rfl ?_ | refine L_pick_f rfl rfl rfl ?_
        refine RL_then ?_
        refine W_if_false rfl ?_
        refine W_skip' ?_
        refine Nx_block ?_
        refine Nx_then ?_
        refine W_region ?_
        refine L_move rfl rfl ?_
        first | refine L_add rfl rfl rfl (wrp_i64 (by omega)) ?_ | refine L_add rfl rfl rfl rfl ?_
        refine L_assign rfl rfl ?_
        refine RL_nil' ?_
        refine Nx_loopP (j + 1, vI, MI, _) (is := [0, 1, 2, 7, 8, 9, 10, 11, 12, 14]) (I' := (fun (j : Nat) (vI : Value) (MI : Bks) (w : World) => (j ≤ ks.length) ∧ ((rids (ks.take j) ts z.num).length ≤ n + j) ∧ (Bl w0 3 1 vI (rids (ks.take j) ts z.num).length (il (rids (ks.take j) ts z.num)) MI) ∧ (HS w0 w (QQ ++ MI))) (j + 1) (vI) (MI) (_)) rfl rfl rfl ?_ ?_
        ·
         refine ⟨by omega, ?_, ?_, hs⟩
         ·
          rw [hst]; unfold putK; rw [if_neg (fun h => h1 h.1)]; omega
         ·
          rw [hst]; unfold putK; rw [if_neg (fun h => h1 h.1)]; exact hbI
        ·
         omega
      ·
       obtain hjn2 : j = ks.length := by omega
       rw [List.take_of_length_le (by omega)] at hbI hjl
       obtain ⟨ids, hids⟩ : ∃ ids, ids = rids ks ts z.num := ⟨_, rfl⟩
       rw [← hids] at hbI hjl
       obtain ⟨aI, cI, rfl, _⟩ := hbI.slice
       obtain ⟨ni, hni⟩ : ∃ ni, ni = ids.length := ⟨_, rfl⟩
       rw [← hni] at hbI hjl
       rw [← hni]
       refine W_seq ?_
       refine W_seq ?_
       refine W_region ?_
       refine L_move rfl rfl ?_
       refine L_move rfl rfl ?_
       refine L_nilCheck rfl rfl ?_
       refine L_fieldAddr rfl (off := 2) Try.underlying107 rfl rfl Try.ti105 rfl ?_
       refine L_load rfl Try.one105 rfl (by exact HS.cellM hs (hrow2 _) rfl) ?_
       refine L_len rfl Try.underlying105 rfl ?_
       first | refine L_lss rfl rfl rfl (dtrue (by omega)) ?_ | refine L_lss rfl rfl rfl (dfalse (by omega)) ?_ | refine L_lss rfl rfl rfl rfl ?_
       refine RL_then ?_
       refine W_if_false rfl ?_
       refine W_exit' ?_
       refine Ex_then_exit ?_
       refine Ex_loop_exit ?_
       refine Ex_block_hit ?_
       refine Nx_then ?_
       refine W_seq ?_
       refine W_region ?_
       refine L_assign rfl rfl ?_
       refine RL_then ?_
       refine W_block ?_
       obtain ⟨PP, hPP⟩ : ∃ PP, PP = LL ++ MI := ⟨_, rfl⟩
       have hPo : Own w0 PP := by rw [hPP]; exact hLo.app hbI.own
       have hPL : ∀ p ∈ LL, p ∈ PP := fun p hp => by rw [hPP]; exact List.mem_append_left _ hp
       have hPI : ∀ p ∈ MI, p ∈ PP := fun p hp => by rw [hPP]; exact List.mem_append_right _ hp
       have h0 : HS w0 w (PP ++ (MO ++ MN)) := by
        rw [hQQ] at hs
        rw [hPP]; exact HS.re hs (fun c => by simp only [List.map_append, List.map_cons, List.map_nil, List.sum_append, List.sum_cons, List.sum_nil]; omega)
       clear hs
       have hs := h0
       clear h0
       refine W_loop6 (fun (k : Nat) (vO' : Value) (MO' : Bks) (vN' : Value) (MN' : Bks) (w : World) => [(0, .pointer (some ⟨BR, 0, none⟩)), (1, .float .f64 time), (2, .slice a n c), (7, vO'), (8, vN'), (9, .int .i64 i), (10, .int .i64 z.num), (11, .slice az z.ps.length cz), (12, .slice aI ni cI), (15, .int .i64 k)]) (fun (k : Nat) (vO' : Value) (MO' : Bks) (vN' : Value) (MN' : Bks) (w : World) => w) (fun (k : Nat) (vO' : Value) (MO' : Bks) (vN' : Value) (MN' : Bks) (w : World) => (k ≤ ni) ∧ (Bl w0 51 4 vO' (OO ++ (ids.take k).flatMap (rA1 far time ks ts z)).length (acs (OO ++ (ids.take k).flatMap (rA1 far time ks ts z))) MO') ∧ (Bl w0 109 4 vN' (NN ++ (ids.take k).flatMap (rK1 far ks ts z)).length (kcs (NN ++ (ids.take k).flatMap (rK1 far ks ts z))) MN') ∧ ((OO ++ (ids.take k).flatMap (rA1 far time ks ts z)).length ≤ bnd + k) ∧ ((NN ++ (ids.take k).flatMap (rK1 far ks ts z)).length ≤ bnd + k) ∧ (HS w0 w (PP ++ (MO' ++ MN')))) (fun (k : Nat) (vO' : Value) (MO' : Bks) (vN' : Value) (MN' : Bks) (w : World) => ni - k) (0) (vO) (MO) (vN) (MN) (w) (is := [0, 1, 2, 7, 8, 9, 10, 11, 12, 15]) rfl rfl ?_ ?_
       ·
        exact ⟨Nat.zero_le _, by rw [List.take_zero, List.flatMap_nil, List.append_nil]; exact hbO, by rw [List.take_zero, List.flatMap_nil, List.append_nil]; exact hbN, (by simp only [List.take_zero, List.flatMap_nil, List.append_nil]; omega), (by simp only [List.take_zero, List.flatMap_nil, List.append_nil]; omega), hs⟩
       ·
        clear hs hbO hbN
        intro k vO' MO' vN' MN' w hI
        show W _ _ _ _ [(0, .pointer (some ⟨BR, 0, none⟩)), (1, .float .f64 time), (2, .slice a n c), (7, vO'), (8, vN'), (9, .int .i64 i), (10, .int .i64 z.num), (11, .slice az z.ps.length cz), (12, .slice aI ni cI), (15, .int .i64 k)] w
        obtain ⟨hk, hbO', hbN', hOl', hNl', hs⟩ := hI
        by_cases hkt : k < ni
        ·
         have hIs : SlC w aI (il ids) := hbI.slm hs (fun p hp => List.mem_append_left _ (hPI p hp))
         obtain ⟨id, hidd⟩ : ∃ id, id = ids.getD k 0 := ⟨_, rfl⟩
         have hig : (il ids)[k]? = some (.int .i64 id) := by rw [il_get (by omega), hidd]
         have hOs : OO ++ (ids.take (k + 1)).flatMap (rA1 far time ks ts z) = (OO ++ (ids.take k).flatMap (rA1 far time ks ts z)) ++ rA1 far time ks ts z id := by rw [flat_take (d := 0) (by omega), ← hidd, List.append_assoc]
         have hNs : NN ++ (ids.take (k + 1)).flatMap (rK1 far ks ts z) = (NN ++ (ids.take k).flatMap (rK1 far ks ts z)) ++ rK1 far ks ts z id := by rw [flat_take (d := 0) (by omega), ← hidd, List.append_assoc]
         obtain ⟨OL, hOL⟩ : ∃ OL, OL = OO ++ (ids.take k).flatMap (rA1 far time ks ts z) := ⟨_, rfl⟩
         obtain ⟨NL, hNL⟩ : ∃ NL, NL = NN ++ (ids.take k).flatMap (rK1 far ks ts z) := ⟨_, rfl⟩
         rw [← hOL] at hbO' hOl' hOs
         rw [← hNL] at hbN' hNl' hNs
         refine W_seq ?_
         refine W_seq ?_
         refine W_region ?_
         refine L_move rfl rfl ?_
         refine L_move rfl rfl ?_
         refine L_len rfl Try.underlying38 rfl ?_
         first | refine L_lss rfl rfl rfl (dtrue (by omega)) ?_ | refine L_lss rfl rfl rfl (dfalse (by omega)) ?_ | refine L_lss rfl rfl rfl rfl ?_
         refine RL_then ?_
         refine W_if_true rfl ?_
         refine W_skip' ?_
         refine Nx_then ?_
         refine W_seq ?_
         refine W_block ?_
         refine W_seq ?_
         refine W_region ?_
         refine L_move rfl rfl ?_
         refine L_move rfl rfl ?_
         refine L_move rfl rfl ?_
         refine L_move rfl rfl ?_
         refine L_idx1 rfl Try.underlying38 Try.ti3 rfl rfl (by with_reducible first | exact natc_k _ | exact natc_a1 _ | exact natc_0 | exact natc_1 | exact natc_2 | exact natc_s1 _ (by omega) | exact natc_a2 _ | exact natc_add _ _ | exact natc_mul _ _ | exact natc (by omega)) (by omega) (hIs.ao (by rw [il_length]; omega)) ?_
         refine L_load rfl Try.one3 rfl (by exact hIs.get hig) ?_
         have h0 : HS w0 w (rbs BR far (.slice aZ zs.length cZ) MZ (.slice aK ks.length cK) MK ever zs ++ (R ++ (MI ++ (MO' ++ MN')))) := by
          rw [hPP, hLL] at hs
          exact HS.re hs (fun c => by simp only [List.map_append, List.map_cons, List.map_nil, List.sum_append, List.sum_cons, List.sum_nil]; omega)
         refine L_call rfl Try.fun54 rfl (rof_ok w0 w BR far (.slice aZ zs.length cZ) MZ (.slice aK ks.length cK) MK ever zs ks (R ++ (MI ++ (MO' ++ MN'))) z.num id h0 hN (by omega)) ?_
         rintro _ w1 ⟨rfl, hs'⟩
         clear hs h0
         have hs : HS w0 w1 (PP ++ (MO' ++ MN')) := by rw [hPP, hLL]; exact HS.re hs' (fun c => by simp only [List.map_append, List.map_cons, List.map_nil, List.sum_append, List.sum_cons, List.sum_nil]; omega)
         clear hs'
         obtain ⟨x, hx⟩ : ∃ x, x = ofK ks z.num id := ⟨_, rfl⟩
         rw [← hx]
         refine L_alloc rfl hs Try.ti109 ?_; intro b16 w hb16 _ hs; replace hs := HS.push hs
         refine L_storeA hs (i := 0) rfl Try.ti109 rfl rfl (by first | rfl | exact add_lit0 _ _ | exact Addr.add_lit .. | (rw [add_add]; exact add_lit0 _ _)) (by simp [Kn.cells]) (by exact Kn.one x) ?_
         intro w hs
         try dsimp only [List.set_cons_succ, List.set_cons_zero, List.cons_append, List.nil_append] at hs
         refine RL_then ?_
         refine W_seq ?_
         refine W_region ?_
         refine L_assign rfl rfl ?_
         refine RL_then ?_
         refine W_seq ?_
         refine W_region ?_
         refine L_alloc rfl hs Try.ti25 ?_; intro b18 w hb18 _ hs; replace hs := HS.push hs
         refine L_alloc rfl hs Try.ti25 ?_; intro b19 w hb19 _ hs; replace hs := HS.push hs
         refine RL_then ?_
         refine W_seq ?_
         refine W_seq ?_
         refine W_region ?_
         refine L_assign rfl rfl ?_
         refine RL_then ?_
         have hq0 : HS w0 w ((b19, Row 25 (pc (0, 0))) :: (b18, Row 25 (pc (0, 0))) :: (b16, Row 109 x.cells) :: (PP ++ (MO' ++ MN'))) := hs
         have h0 : HS w0 w ((b18, Row 25 (pc (0, 0))) :: (b19, Row 25 (pc (0, 0))) :: (b16, Row 109 x.cells) :: (PP ++ (MO' ++ MN'))) := HS.re hq0 (fun c => by simp only [List.map_append, List.map_cons, List.map_nil, List.sum_append, List.sum_cons, List.sum_nil]; omega)
         clear hq0
         clear hs
         have hs := h0
         clear h0
         have hoB : ∀ (at' wy : Pt), Own w0 ((b18, Row 25 (pc at')) :: (b19, Row 25 (pc wy)) :: (b16, Row 109 x.cells) :: (PP ++ (MO' ++ MN'))) := fun at' wy => Own.cons hb18 (Own.cons hb19 (Own.cons hb16 (hPo.app (hbO'.own.app hbN'.own))))
         refine W_cut4 (fun (ct : Bool) (at' : Pt) (wy : Pt) (w : World) => [(0, .pointer (some ⟨BR, 0, none⟩)), (1, .float .f64 time), (2, .slice a n c), (7, vO'), (8, vN'), (9, .int .i64 i), (10, .int .i64 z.num), (11, .slice az z.ps.length cz), (12, .slice aI ni cI), (15, .int .i64 k), (16, .pointer (some ⟨b16, 0, none⟩)), (17, .bool ct), (18, .pointer (some ⟨b18, 0, none⟩)), (19, .pointer (some ⟨b19, 0, none⟩))]) (fun (ct : Bool) (at' : Pt) (wy : Pt) (w : World) => w) (fun (ct : Bool) (at' : Pt) (wy : Pt) (w : World) => ((ct = true ∧ ∃ t, rTrk ts id = some t ∧ at' = (t.xx, t.yx) ∧ wy = (t.xv, t.yv)) ∨ (ct = false ∧ rTrk ts id = none ∧ at' = (0, 0) ∧ wy = (0, 0))) ∧ (HS w0 w ((b18, Row 25 (pc at')) :: (b19, Row 25 (pc wy)) :: (b16, Row 109 x.cells) :: (PP ++ (MO' ++ MN'))))) ?_ ?_
         ·
          refine W_block ?_
          refine W_loop5 (fun (m : Nat) (ct : Bool) (at' : Pt) (wy : Pt) (w : World) => [(0, .pointer (some ⟨BR, 0, none⟩)), (1, .float .f64 time), (2, .slice a n c), (7, vO'), (8, vN'), (9, .int .i64 i), (10, .int .i64 z.num), (11, .slice az z.ps.length cz), (12, .slice aI ni cI), (15, .int .i64 k), (16, .pointer (some ⟨b16, 0, none⟩)), (17, .bool ct), (18, .pointer (some ⟨b18, 0, none⟩)), (19, .pointer (some ⟨b19, 0, none⟩)), (20, .int .i64 m)]) (fun (m : Nat) (ct : Bool) (at' : Pt) (wy : Pt) (w : World) => w) (fun (m : Nat) (ct : Bool) (at' : Pt) (wy : Pt) (w : World) => (m ≤ n) ∧ ((ct = true ∧ ∃ t, rTrk ts id = some t ∧ at' = (t.xx, t.yx) ∧ wy = (t.xv, t.yv)) ∨ (ct = false ∧ (∀ q, q < m → ¬ (decide ((ts.getD q tk0).id = id) && decide ((ts.getD q tk0).kind = 1)) = true) ∧ at' = (0, 0) ∧ wy = (0, 0))) ∧ (HS w0 w ((b18, Row 25 (pc at')) :: (b19, Row 25 (pc wy)) :: (b16, Row 109 x.cells) :: (PP ++ (MO' ++ MN'))))) (fun (m : Nat) (ct : Bool) (at' : Pt) (wy : Pt) (w : World) => n - m) (0) (false) ((0, 0)) ((0, 0)) (w) (is := [0, 1, 2, 7, 8, 9, 10, 11, 12, 15, 16, 17, 18, 19, 20]) rfl rfl ?_ ?_
          ·
           exact ⟨Nat.zero_le _, .inr ⟨rfl, fun q h => absurd h (Nat.not_lt_zero _), rfl, rfl⟩, hs⟩
          ·
           clear hs
           intro m ct at' wy w hI
           show W _ _ _ _ [(0, .pointer (some ⟨BR, 0, none⟩)), (1, .float .f64 time), (2, .slice a n c), (7, vO'), (8, vN'), (9, .int .i64 i), (10, .int .i64 z.num), (11, .slice az z.ps.length cz), (12, .slice aI ni cI), (15, .int .i64 k), (16, .pointer (some ⟨b16, 0, none⟩)), (17, .bool ct), (18, .pointer (some ⟨b18, 0, none⟩)), (19, .pointer (some ⟨b19, 0, none⟩)), (20, .int .i64 m)] w
           obtain ⟨hm, hct, hs⟩ := hI
           rcases (show (m < n ∧ ct = false) ∨ (m < n ∧ ct = true) ∨ (¬ m < n) from match ct, Nat.lt_or_ge m n with | false, .inl h => .inl ⟨h, rfl⟩ | true, .inl h => .inr (.inl ⟨h, rfl⟩) | _, .inr h => .inr (.inr (by omega))) with ⟨hmt, rfl⟩ | ⟨hmt, rfl⟩ | hmt
           ·
            obtain ⟨hno, rfl, rfl⟩ : (∀ q, q < m → ¬ (decide ((ts.getD q tk0).id = id) && decide ((ts.getD q tk0).kind = 1)) = true) ∧ at' = (0, 0) ∧ wy = (0, 0) := by
             rcases hct with ⟨h, _⟩ | ⟨_, h⟩
             ·
              cases h
             ·
              exact h
            have hts : ∀ (a9 w9 : Pt) w1, HS w0 w1 ((b18, Row 25 (pc a9)) :: (b19, Row 25 (pc w9)) :: (b16, Row 109 x.cells) :: (PP ++ (MO' ++ MN'))) → SlC w1 a (tcs ts) := fun a9 w9 w1 h => hA _ _ h (hoB _ _) (fun p hp => List.mem_cons_of_mem _ (List.mem_cons_of_mem _ (List.mem_cons_of_mem _ (List.mem_append_left _ (hPL _ (hRm p hp))))))
            obtain ⟨t, htd⟩ : ∃ t, t = ts.getD m tk0 := ⟨_, rfl⟩
            have htat : ∀ (a9 w9 : Pt) w1, HS w0 w1 ((b18, Row 25 (pc a9)) :: (b19, Row 25 (pc w9)) :: (b16, Row 109 x.cells) :: (PP ++ (MO' ++ MN'))) → CellsAt w1 ((aD a).add (m * 15)) t.cells := fun a9 w9 w1 h => by rw [htd]; exact tk_at (hts _ _ _ h) (by omega)
            have hIs : ∀ (a9 w9 : Pt) w1, HS w0 w1 ((b18, Row 25 (pc a9)) :: (b19, Row 25 (pc w9)) :: (b16, Row 109 x.cells) :: (PP ++ (MO' ++ MN'))) → SlC w1 aI (il ids) := fun a9 w9 w1 h => hbI.slm h (fun p hp => List.mem_cons_of_mem _ (List.mem_cons_of_mem _ (List.mem_cons_of_mem _ (List.mem_append_left _ (hPI p hp)))))
            by_cases hk1 : t.kind = 1
            ·
             by_cases hk2 : t.id = id
             ·
              refine W_seq ?_
              refine W_seq ?_
              refine W_region ?_
              refine L_move rfl rfl ?_
              refine L_move rfl rfl ?_
              refine L_len rfl Try.underlying44 rfl ?_
              first | refine L_lss rfl rfl rfl (dtrue (by omega)) ?_ | refine L_lss rfl rfl rfl (dfalse (by omega)) ?_ | refine L_lss rfl rfl rfl rfl ?_
              refine L_move rfl rfl ?_
              first | (refine RL_want rfl rfl ?_; refine L_move rfl rfl ?_) | refine RL_skip rfl rfl rfl rfl ?_ | refine RL_skipU rfl rfl rfl ?_
              first | (refine RL_want rfl rfl ?_; refine L_not rfl rfl ?_) | refine RL_skip rfl rfl rfl rfl ?_ | refine RL_skipU rfl rfl rfl ?_
              first | refine L_pick_t rfl rfl rfl ?_ | refine L_pick_f rfl rfl rfl ?_
              refine RL_then ?_
              refine W_if_true rfl ?_
              refine W_skip' ?_
              refine Nx_then ?_
              refine W_seq ?_
              refine W_block ?_
              refine W_seq ?_
              refine W_pht [0, 1, 2, 3] [4, 5, 6, 7, 8, 9, 10, 11, 12, 13, 14, 15, 16, 17] [] (fun _ _ _ => False) Try.mixed (by kernel_rfl) (fun _ _ _ _ _ h => h) hs ?_
              refine PL_val rfl (fun w => R_move rfl) ?_
              refine PL_val rfl (fun w => R_move rfl) ?_
              refine PL_val rfl (fun w => R_idxN Try.underlying44 Try.ti60 rfl rfl (by with_reducible first | exact natc_k _ | exact natc_a1 _ | exact natc_0 | exact natc_1 | exact natc_2 | exact natc_s1 _ (by omega) | exact natc_a2 _ | exact natc_add _ _ | exact natc_mul _ _ | exact natc (by omega)) (by omega) ((hts _ _ _ hs).ao (by rw [tcs_len]; omega))) ?_
              refine PL_val rfl (fun w => R_fieldAddr (off := 1) Try.underlying60 rfl rfl Try.ti49 rfl) ?_
              refine PL_end ?_
              refine HL_val rfl (fun w hs => R_load Try.one49 rfl (by exact htat _ _ _ hs 1 _ rfl)) ?_
              first | refine HL_val rfl (fun w hs => R_eql rfl rfl (dtrue (by omega))) ?_ | refine HL_val rfl (fun w hs => R_eql rfl rfl (dfalse (by omega))) ?_ | refine HL_val rfl (fun w hs => R_eql rfl rfl rfl) ?_
              refine HL_val rfl (fun w hs => R_move rfl) ?_
              first | (refine HL_want rfl rfl ?_; refine HL_val rfl (fun w hs => R_move rfl) ?_) | refine HL_skip rfl rfl rfl rfl ?_ | refine HL_skipU rfl rfl rfl ?_
              first | (refine HL_want rfl rfl ?_; refine HL_val rfl (fun w hs => R_move rfl) ?_) | refine HL_skip rfl rfl rfl rfl ?_ | refine HL_skipU rfl rfl rfl ?_
              first | (refine HL_want rfl rfl ?_; refine HL_val rfl (fun w hs => R_idxN Try.underlying44 Try.ti60 rfl rfl (by with_reducible first | exact natc_k _ | exact natc_a1 _ | exact natc_0 | exact natc_1 | exact natc_2 | exact natc_s1 _ (by omega) | exact natc_a2 _ | exact natc_add _ _ | exact natc_mul _ _ | exact natc (by omega)) (by omega) ((hts _ _ _ hs).ao (by rw [tcs_len]; omega))) ?_) | refine HL_skip rfl rfl rfl rfl ?_ | refine HL_skipU rfl rfl rfl ?_
              first | (refine HL_want rfl rfl ?_; refine HL_val rfl (fun w hs => R_fieldAddr (off := 0) Try.underlying60 rfl rfl Try.ti3 rfl) ?_) | refine HL_skip rfl rfl rfl rfl ?_ | refine HL_skipU rfl rfl rfl ?_
              first | (refine HL_want rfl rfl ?_; refine HL_val rfl (fun w hs => R_load Try.one3 rfl (by exact htat _ _ _ hs 0 _ rfl)) ?_) | refine HL_skip rfl rfl rfl rfl ?_ | refine HL_skipU rfl rfl rfl ?_
              first | (refine HL_want rfl rfl ?_; refine HL_val rfl (fun w hs => R_move rfl) ?_) | refine HL_skip rfl rfl rfl rfl ?_ | refine HL_skipU rfl rfl rfl ?_
              first | (refine HL_want rfl rfl ?_; refine HL_val rfl (fun w hs => R_move rfl) ?_) | refine HL_skip rfl rfl rfl rfl ?_ | refine HL_skipU rfl rfl rfl ?_
              first | (refine HL_want rfl rfl ?_; refine HL_val rfl (fun w hs => R_idx1 Try.underlying38 Try.ti3 rfl rfl (by with_reducible first | exact natc_k _ | exact natc_a1 _ | exact natc_0 | exact natc_1 | exact natc_2 | exact natc_s1 _ (by omega) | exact natc_a2 _ | exact natc_add _ _ | exact natc_mul _ _ | exact natc (by omega)) (by omega) ((hIs _ _ _ hs).ao (by rw [il_length]; omega))) ?_) | refine HL_skip rfl rfl rfl rfl ?_ | refine HL_skipU rfl rfl rfl ?_
              first | (refine HL_want rfl rfl ?_; refine HL_val rfl (fun w hs => R_load Try.one3 rfl (by exact (hIs _ _ _ hs).get hig)) ?_) | refine HL_skip rfl rfl rfl rfl ?_ | refine HL_skipU rfl rfl rfl ?_
              first | (refine HL_want rfl rfl ?_; (first | refine HL_val rfl (fun w hs => R_eql rfl rfl (dtrue (by omega))) ?_ | refine HL_val rfl (fun w hs => R_eql rfl rfl (dfalse (by omega))) ?_ | refine HL_val rfl (fun w hs => R_eql rfl rfl rfl) ?_)) | refine HL_skip rfl rfl rfl rfl ?_ | refine HL_skipU rfl rfl rfl ?_
              first | refine HL_val rfl (fun w hs => R_pick_t rfl rfl) ?_ | refine HL_val rfl (fun w hs => R_pick_f rfl rfl) ?_
              refine HL_tail ?_
              intro w hs
              refine RL_then ?_
              refine W_if_true rfl ?_
              refine W_seq ?_
              refine W_region ?_
              refine L_assign rfl rfl ?_
              refine RL_then ?_
              refine W_seq ?_
              refine W_pht [0, 1, 2, 3, 4, 6, 7, 8, 9, 10] [5, 11, 12] [13] (fun _ _ _ => False) Try.mixed (by kernel_rfl) (fun _ _ _ _ _ h => h) hs ?_
              refine PL_val rfl (fun w => R_move rfl) ?_
              refine PL_val rfl (fun w => R_move rfl) ?_
              refine PL_val rfl (fun w => R_idxN Try.underlying44 Try.ti60 rfl rfl (by with_reducible first | exact natc_k _ | exact natc_a1 _ | exact natc_0 | exact natc_1 | exact natc_2 | exact natc_s1 _ (by omega) | exact natc_a2 _ | exact natc_add _ _ | exact natc_mul _ _ | exact natc (by omega)) (by omega) ((hts _ _ _ hs).ao (by rw [tcs_len]; omega))) ?_
              refine PL_val rfl (fun w => R_fieldAddr (off := 2) Try.underlying60 rfl rfl Try.ti57 rfl) ?_
              refine PL_val rfl (fun w => R_fieldAddr (off := 0) Try.underlying57 rfl rfl Try.ti23 rfl) ?_
              refine PL_val rfl (fun w => R_move rfl) ?_
              refine PL_val rfl (fun w => R_move rfl) ?_
              refine PL_val rfl (fun w => R_idxN Try.underlying44 Try.ti60 rfl rfl (by with_reducible first | exact natc_k _ | exact natc_a1 _ | exact natc_0 | exact natc_1 | exact natc_2 | exact natc_s1 _ (by omega) | exact natc_a2 _ | exact natc_add _ _ | exact natc_mul _ _ | exact natc (by omega)) (by omega) ((hts _ _ _ hs).ao (by rw [tcs_len]; omega))) ?_
              refine PL_val rfl (fun w => R_fieldAddr (off := 7) Try.underlying60 rfl rfl Try.ti57 rfl) ?_
              refine PL_val rfl (fun w => R_fieldAddr (off := 0) Try.underlying57 rfl rfl Try.ti23 rfl) ?_
              refine PL_end ?_
              refine HL_val rfl (fun w hs => R_load Try.one23 rfl (by exact htat _ _ _ hs 2 _ rfl)) ?_
              refine HL_val rfl (fun w hs => R_load Try.one23 rfl (by exact htat _ _ _ hs 7 _ rfl)) ?_
              refine HL_val rfl (fun w hs => R_build rfl (Pl.built Try.pl25 rfl)) ?_
              refine HL_tail ?_
              intro w hs
              refine L_storeA (vs := pc (t.xx, t.yx)) (j := 0) hs (i := 0) rfl Try.ti25 rfl rfl rfl (by simp [pc]) (pt_one' _) ?_; intro w hs; replace hs : HS w0 w ((b18, Row 25 (pc (t.xx, t.yx))) :: (b19, Row 25 (pc (0, 0))) :: (b16, Row 109 x.cells) :: (PP ++ (MO' ++ MN'))) := hs
              refine RL_then ?_
              refine W_pht [0, 1, 2, 3, 4, 6, 7, 8, 9, 10] [5, 11, 12] [13] (fun _ _ _ => False) Try.mixed (by kernel_rfl) (fun _ _ _ _ _ h => h) hs ?_
              refine PL_val rfl (fun w => R_move rfl) ?_
              refine PL_val rfl (fun w => R_move rfl) ?_
              refine PL_val rfl (fun w => R_idxN Try.underlying44 Try.ti60 rfl rfl (by with_reducible first | exact natc_k _ | exact natc_a1 _ | exact natc_0 | exact natc_1 | exact natc_2 | exact natc_s1 _ (by omega) | exact natc_a2 _ | exact natc_add _ _ | exact natc_mul _ _ | exact natc (by omega)) (by omega) ((hts _ _ _ hs).ao (by rw [tcs_len]; omega))) ?_
              refine PL_val rfl (fun w => R_fieldAddr (off := 2) Try.underlying60 rfl rfl Try.ti57 rfl) ?_
              refine PL_val rfl (fun w => R_fieldAddr (off := 1) Try.underlying57 rfl rfl Try.ti23 rfl) ?_
              refine PL_val rfl (fun w => R_move rfl) ?_
              refine PL_val rfl (fun w => R_move rfl) ?_
              refine PL_val rfl (fun w => R_idxN Try.underlying44 Try.ti60 rfl rfl (by with_reducible first | exact natc_k _ | exact natc_a1 _ | exact natc_0 | exact natc_1 | exact natc_2 | exact natc_s1 _ (by omega) | exact natc_a2 _ | exact natc_add _ _ | exact natc_mul _ _ | exact natc (by omega)) (by omega) ((hts _ _ _ hs).ao (by rw [tcs_len]; omega))) ?_
              refine PL_val rfl (fun w => R_fieldAddr (off := 7) Try.underlying60 rfl rfl Try.ti57 rfl) ?_
              refine PL_val rfl (fun w => R_fieldAddr (off := 1) Try.underlying57 rfl rfl Try.ti23 rfl) ?_
              refine PL_end ?_
              refine HL_val rfl (fun w hs => R_load Try.one23 rfl (by exact htat _ _ _ hs 3 _ rfl)) ?_
              refine HL_val rfl (fun w hs => R_load Try.one23 rfl (by exact htat _ _ _ hs 8 _ rfl)) ?_
              refine HL_val rfl (fun w hs => R_build rfl (Pl.built Try.pl25 rfl)) ?_
              refine HL_tail ?_
              intro w hs
              refine L_storeA (vs := pc (t.xv, t.yv)) (j := 0) hs (i := 1) rfl Try.ti25 rfl rfl rfl (by simp [pc]) (pt_one' _) ?_; intro w hs; replace hs : HS w0 w ((b18, Row 25 (pc (t.xx, t.yx))) :: (b19, Row 25 (pc (t.xv, t.yv))) :: (b16, Row 109 x.cells) :: (PP ++ (MO' ++ MN'))) := hs
              refine RL_nil' ?_
              refine Nx_block ?_
              refine Nx_then ?_
              refine W_region ?_
              refine L_move rfl rfl ?_
              first | refine L_add rfl rfl rfl (wrp_i64 (by omega)) ?_ | refine L_add rfl rfl rfl rfl ?_
              refine L_assign rfl rfl ?_
              refine RL_nil' ?_
              have hfd : rTrk ts id = some t := by
               unfold rTrk
               rw [find_first (d := tk0) (i := m) (by omega) (by rw [← htd, decide_eq_true hk1, decide_eq_true hk2]; rfl) hno, ← htd]
              refine Nx_loopP (m + 1, true, (t.xx, t.yx), (t.xv, t.yv), _) (is := [0, 1, 2, 7, 8, 9, 10, 11, 12, 15, 16, 17, 18, 19, 20]) (I' := (fun (m : Nat) (ct : Bool) (at' : Pt) (wy : Pt) (w : World) => (m ≤ n) ∧ ((ct = true ∧ ∃ t, rTrk ts id = some t ∧ at' = (t.xx, t.yx) ∧ wy = (t.xv, t.yv)) ∨ (ct = false ∧ (∀ q, q < m → ¬ (decide ((ts.getD q tk0).id = id) && decide ((ts.getD q tk0).kind = 1)) = true) ∧ at' = (0, 0) ∧ wy = (0, 0))) ∧ (HS w0 w ((b18, Row 25 (pc at')) :: (b19, Row 25 (pc wy)) :: (b16, Row 109 x.cells) :: (PP ++ (MO' ++ MN'))))) (m + 1) (true) ((t.xx, t.yx)) ((t.xv, t.yv)) (_)) rfl rfl rfl ?_ ?_
              ·
               exact ⟨by omega, .inl ⟨rfl, t, hfd, rfl, rfl⟩, hs⟩
              ·
               omega
             ·
              refine W_seq ?_
              refine W_seq ?_
              refine W_region ?_
              refine L_move rfl rfl ?_
              refine L_move rfl rfl ?_
              refine L_len rfl Try.underlying44 rfl ?_
              first | refine L_lss rfl rfl rfl (dtrue (by omega)) ?_ | refine L_lss rfl rfl rfl (dfalse (by omega)) ?_ | refine L_lss rfl rfl rfl rfl ?_
              refine L_move rfl rfl ?_
              first | (refine RL_want rfl rfl ?_; refine L_move rfl rfl ?_) | refine RL_skip rfl rfl rfl rfl ?_ | refine RL_skipU rfl rfl rfl ?_
              first | (refine RL_want rfl rfl ?_; refine L_not rfl rfl ?_) | refine RL_skip rfl rfl rfl rfl ?_ | refine RL_skipU rfl rfl rfl ?_
              first | refine L_pick_t rfl rfl rfl ?_ | refine L_pick_f rfl rfl rfl ?_
              refine RL_then ?_
              refine W_if_true rfl ?_
              refine W_skip' ?_
              refine Nx_then ?_
              refine W_seq ?_
              refine W_block ?_
              refine W_seq ?_
              refine W_pht [0, 1, 2, 3] [4, 5, 6, 7, 8, 9, 10, 11, 12, 13, 14, 15, 16, 17] [] (fun _ _ _ => False) Try.mixed (by kernel_rfl) (fun _ _ _ _ _ h => h) hs ?_
              refine PL_val rfl (fun w => R_move rfl) ?_
              refine PL_val rfl (fun w => R_move rfl) ?_
              refine PL_val rfl (fun w => R_idxN Try.underlying44 Try.ti60 rfl rfl (by with_reducible first | exact natc_k _ | exact natc_a1 _ | exact natc_0 | exact natc_1 | exact natc_2 | exact natc_s1 _ (by omega) | exact natc_a2 _ | exact natc_add _ _ | exact natc_mul _ _ | exact natc (by omega)) (by omega) ((hts _ _ _ hs).ao (by rw [tcs_len]; omega))) ?_
              refine PL_val rfl (fun w => R_fieldAddr (off := 1) Try.underlying60 rfl rfl Try.ti49 rfl) ?_
              refine PL_end ?_
              refine HL_val rfl (fun w hs => R_load Try.one49 rfl (by exact htat _ _ _ hs 1 _ rfl)) ?_
              first | refine HL_val rfl (fun w hs => R_eql rfl rfl (dtrue (by omega))) ?_ | refine HL_val rfl (fun w hs => R_eql rfl rfl (dfalse (by omega))) ?_ | refine HL_val rfl (fun w hs => R_eql rfl rfl rfl) ?_
              refine HL_val rfl (fun w hs => R_move rfl) ?_
              first | (refine HL_want rfl rfl ?_; refine HL_val rfl (fun w hs => R_move rfl) ?_) | refine HL_skip rfl rfl rfl rfl ?_ | refine HL_skipU rfl rfl rfl ?_
              first | (refine HL_want rfl rfl ?_; refine HL_val rfl (fun w hs => R_move rfl) ?_) | refine HL_skip rfl rfl rfl rfl ?_ | refine HL_skipU rfl rfl rfl ?_
              first | (refine HL_want rfl rfl ?_; refine HL_val rfl (fun w hs => R_idxN Try.underlying44 Try.ti60 rfl rfl (by with_reducible first | exact natc_k _ | exact natc_a1 _ | exact natc_0 | exact natc_1 | exact natc_2 | exact natc_s1 _ (by omega) | exact natc_a2 _ | exact natc_add _ _ | exact natc_mul _ _ | exact natc (by omega)) (by omega) ((hts _ _ _ hs).ao (by rw [tcs_len]; omega))) ?_) | refine HL_skip rfl rfl rfl rfl ?_ | refine HL_skipU rfl rfl rfl ?_
              first | (refine HL_want rfl rfl ?_; refine HL_val rfl (fun w hs => R_fieldAddr (off := 0) Try.underlying60 rfl rfl Try.ti3 rfl) ?_) | refine HL_skip rfl rfl rfl rfl ?_ | refine HL_skipU rfl rfl rfl ?_
              first | (refine HL_want rfl rfl ?_; refine HL_val rfl (fun w hs => R_load Try.one3 rfl (by exact htat _ _ _ hs 0 _ rfl)) ?_) | refine HL_skip rfl rfl rfl rfl ?_ | refine HL_skipU rfl rfl rfl ?_
              first | (refine HL_want rfl rfl ?_; refine HL_val rfl (fun w hs => R_move rfl) ?_) | refine HL_skip rfl rfl rfl rfl ?_ | refine HL_skipU rfl rfl rfl ?_
              first | (refine HL_want rfl rfl ?_; refine HL_val rfl (fun w hs => R_move rfl) ?_) | refine HL_skip rfl rfl rfl rfl ?_ | refine HL_skipU rfl rfl rfl ?_
              first | (refine HL_want rfl rfl ?_; refine HL_val rfl (fun w hs => R_idx1 Try.underlying38 Try.ti3 rfl rfl (by with_reducible first | exact natc_k _ | exact natc_a1 _ | exact natc_0 | exact natc_1 | exact natc_2 | exact natc_s1 _ (by omega) | exact natc_a2 _ | exact natc_add _ _ | exact natc_mul _ _ | exact natc (by omega)) (by omega) ((hIs _ _ _ hs).ao (by rw [il_length]; omega))) ?_) | refine HL_skip rfl rfl rfl rfl ?_ | refine HL_skipU rfl rfl rfl ?_
              first | (refine HL_want rfl rfl ?_; refine HL_val rfl (fun w hs => R_load Try.one3 rfl (by exact (hIs _ _ _ hs).get hig)) ?_) | refine HL_skip rfl rfl rfl rfl ?_ | refine HL_skipU rfl rfl rfl ?_
              first | (refine HL_want rfl rfl ?_; (first | refine HL_val rfl (fun w hs => R_eql rfl rfl (dtrue (by omega))) ?_ | refine HL_val rfl (fun w hs => R_eql rfl rfl (dfalse (by omega))) ?_ | refine HL_val rfl (fun w hs => R_eql rfl rfl rfl) ?_)) | refine HL_skip rfl rfl rfl rfl ?_ | refine HL_skipU rfl rfl rfl ?_
              first | refine HL_val rfl (fun w hs => R_pick_t rfl rfl) ?_ | refine HL_val rfl (fun w hs => R_pick_f rfl rfl) ?_
              refine HL_tail ?_
              intro w hs
              refine RL_then ?_
              refine W_if_false rfl ?_
              refine W_skip' ?_
              refine Nx_block ?_
              refine Nx_then ?_
              refine W_region ?_
              refine L_move rfl rfl ?_
              first | refine L_add rfl rfl rfl (wrp_i64 (by omega)) ?_ | refine L_add rfl rfl rfl rfl ?_
              refine L_assign rfl rfl ?_
              refine RL_nil' ?_
              refine Nx_loopP (m + 1, false, (0, 0), (0, 0), _) (is := [0, 1, 2, 7, 8, 9, 10, 11, 12, 15, 16, 17, 18, 19, 20]) (I' := (fun (m : Nat) (ct : Bool) (at' : Pt) (wy : Pt) (w : World) => (m ≤ n) ∧ ((ct = true ∧ ∃ t, rTrk ts id = some t ∧ at' = (t.xx, t.yx) ∧ wy = (t.xv, t.yv)) ∨ (ct = false ∧ (∀ q, q < m → ¬ (decide ((ts.getD q tk0).id = id) && decide ((ts.getD q tk0).kind = 1)) = true) ∧ at' = (0, 0) ∧ wy = (0, 0))) ∧ (HS w0 w ((b18, Row 25 (pc at')) :: (b19, Row 25 (pc wy)) :: (b16, Row 109 x.cells) :: (PP ++ (MO' ++ MN'))))) (m + 1) (false) ((0, 0)) ((0, 0)) (_)) rfl rfl rfl ?_ ?_
              ·
               refine ⟨by omega, .inr ⟨rfl, fun q hq => ?_, rfl, rfl⟩, hs⟩
               by_cases hqm : q = m
               ·
                rw [hqm, ← htd]; simp [hk2]
               ·
                exact hno q (by omega)
              ·
               omega
            ·
             refine W_seq ?_
             refine W_seq ?_
             refine W_region ?_
             refine L_move rfl rfl ?_
             refine L_move rfl rfl ?_
             refine L_len rfl Try.underlying44 rfl ?_
             first | refine L_lss rfl rfl rfl (dtrue (by omega)) ?_ | refine L_lss rfl rfl rfl (dfalse (by omega)) ?_ | refine L_lss rfl rfl rfl rfl ?_
             refine L_move rfl rfl ?_
             first | (refine RL_want rfl rfl ?_; refine L_move rfl rfl ?_) | refine RL_skip rfl rfl rfl rfl ?_ | refine RL_skipU rfl rfl rfl ?_
             first | (refine RL_want rfl rfl ?_; refine L_not rfl rfl ?_) | refine RL_skip rfl rfl rfl rfl ?_ | refine RL_skipU rfl rfl rfl ?_
             first | refine L_pick_t rfl rfl rfl ?_ | refine L_pick_f rfl rfl rfl ?_
             refine RL_then ?_
             refine W_if_true rfl ?_
             refine W_skip' ?_
             refine Nx_then ?_
             refine W_seq ?_
             refine W_block ?_
             refine W_seq ?_
             refine W_pht [0, 1, 2, 3] [4, 5, 6, 7, 8, 9, 10, 11, 12, 13, 14, 15, 16, 17] [] (fun _ _ _ => False) Try.mixed (by kernel_rfl) (fun _ _ _ _ _ h => h) hs ?_
             refine PL_val rfl (fun w => R_move rfl) ?_
             refine PL_val rfl (fun w => R_move rfl) ?_
             refine PL_val rfl (fun w => R_idxN Try.underlying44 Try.ti60 rfl rfl (by with_reducible first | exact natc_k _ | exact natc_a1 _ | exact natc_0 | exact natc_1 | exact natc_2 | exact natc_s1 _ (by omega) | exact natc_a2 _ | exact natc_add _ _ | exact natc_mul _ _ | exact natc (by omega)) (by omega) ((hts _ _ _ hs).ao (by rw [tcs_len]; omega))) ?_
             refine PL_val rfl (fun w => R_fieldAddr (off := 1) Try.underlying60 rfl rfl Try.ti49 rfl) ?_
             refine PL_end ?_
             refine HL_val rfl (fun w hs => R_load Try.one49 rfl (by exact htat _ _ _ hs 1 _ rfl)) ?_
             first | refine HL_val rfl (fun w hs => R_eql rfl rfl (dtrue (by omega))) ?_ | refine HL_val rfl (fun w hs => R_eql rfl rfl (dfalse (by omega))) ?_ | refine HL_val rfl (fun w hs => R_eql rfl rfl rfl) ?_
             refine HL_val rfl (fun w hs => R_move rfl) ?_
             first | (refine HL_want rfl rfl ?_; refine HL_val rfl (fun w hs => R_move rfl) ?_) | refine HL_skip rfl rfl rfl rfl ?_ | refine HL_skipU rfl rfl rfl ?_
             first | (refine HL_want rfl rfl ?_; refine HL_val rfl (fun w hs => R_move rfl) ?_) | refine HL_skip rfl rfl rfl rfl ?_ | refine HL_skipU rfl rfl rfl ?_
             first | (refine HL_want rfl rfl ?_; refine HL_val rfl (fun w hs => R_idxN Try.underlying44 Try.ti60 rfl rfl (by with_reducible first | exact natc_k _ | exact natc_a1 _ | exact natc_0 | exact natc_1 | exact natc_2 | exact natc_s1 _ (by omega) | exact natc_a2 _ | exact natc_add _ _ | exact natc_mul _ _ | exact natc (by omega)) (by omega) ((hts _ _ _ hs).ao (by rw [tcs_len]; omega))) ?_) | refine HL_skip rfl rfl rfl rfl ?_ | refine HL_skipU rfl rfl rfl ?_
             first | (refine HL_want rfl rfl ?_; refine HL_val rfl (fun w hs => R_fieldAddr (off := 0) Try.underlying60 rfl rfl Try.ti3 rfl) ?_) | refine HL_skip rfl rfl rfl rfl ?_ | refine HL_skipU rfl rfl rfl ?_
             first | (refine HL_want rfl rfl ?_; refine HL_val rfl (fun w hs => R_load Try.one3 rfl (by exact htat _ _ _ hs 0 _ rfl)) ?_) | refine HL_skip rfl rfl rfl rfl ?_ | refine HL_skipU rfl rfl rfl ?_
             first | (refine HL_want rfl rfl ?_; refine HL_val rfl (fun w hs => R_move rfl) ?_) | refine HL_skip rfl rfl rfl rfl ?_ | refine HL_skipU rfl rfl rfl ?_
             first | (refine HL_want rfl rfl ?_; refine HL_val rfl (fun w hs => R_move rfl) ?_) | refine HL_skip rfl rfl rfl rfl ?_ | refine HL_skipU rfl rfl rfl ?_
             first | (refine HL_want rfl rfl ?_; refine HL_val rfl (fun w hs => R_idx1 Try.underlying38 Try.ti3 rfl rfl (by with_reducible first | exact natc_k _ | exact natc_a1 _ | exact natc_0 | exact natc_1 | exact natc_2 | exact natc_s1 _ (by omega) | exact natc_a2 _ | exact natc_add _ _ | exact natc_mul _ _ | exact natc (by omega)) (by omega) ((hIs _ _ _ hs).ao (by rw [il_length]; omega))) ?_) | refine HL_skip rfl rfl rfl rfl ?_ | refine HL_skipU rfl rfl rfl ?_
             first | (refine HL_want rfl rfl ?_; refine HL_val rfl (fun w hs => R_load Try.one3 rfl (by exact (hIs _ _ _ hs).get hig)) ?_) | refine HL_skip rfl rfl rfl rfl ?_ | refine HL_skipU rfl rfl rfl ?_
             first | (refine HL_want rfl rfl ?_; (first | refine HL_val rfl (fun w hs => R_eql rfl rfl (dtrue (by omega))) ?_ | refine HL_val rfl (fun w hs => R_eql rfl rfl (dfalse (by omega))) ?_ | refine HL_val rfl (fun w hs => R_eql rfl rfl rfl) ?_)) | refine HL_skip rfl rfl rfl rfl ?_ | refine HL_skipU rfl rfl rfl ?_
             first | refine HL_val rfl (fun w hs => R_pick_t rfl rfl) ?_ | refine HL_val rfl (fun w hs => R_pick_f rfl rfl) ?_
             refine HL_tail ?_
             intro w hs
             refine RL_then ?_
             refine W_if_false rfl ?_
             refine W_skip' ?_
             refine Nx_block ?_
             refine Nx_then ?_
             refine W_region ?_
             refine L_move rfl rfl ?_
             first | refine L_add rfl rfl rfl (wrp_i64 (by omega)) ?_ | refine L_add rfl rfl rfl rfl ?_
             refine L_assign rfl rfl ?_
             refine RL_nil' ?_
             refine Nx_loopP (m + 1, false, (0, 0), (0, 0), _) (is := [0, 1, 2, 7, 8, 9, 10, 11, 12, 15, 16, 17, 18, 19, 20]) (I' := (fun (m : Nat) (ct : Bool) (at' : Pt) (wy : Pt) (w : World) => (m ≤ n) ∧ ((ct = true ∧ ∃ t, rTrk ts id = some t ∧ at' = (t.xx, t.yx) ∧ wy = (t.xv, t.yv)) ∨ (ct = false ∧ (∀ q, q < m → ¬ (decide ((ts.getD q tk0).id = id) && decide ((ts.getD q tk0).kind = 1)) = true) ∧ at' = (0, 0) ∧ wy = (0, 0))) ∧ (HS w0 w ((b18, Row 25 (pc at')) :: (b19, Row 25 (pc wy)) :: (b16, Row 109 x.cells) :: (PP ++ (MO' ++ MN'))))) (m + 1) (false) ((0, 0)) ((0, 0)) (_)) rfl rfl rfl ?_ ?_
             ·
              refine ⟨by omega, .inr ⟨rfl, fun q hq => ?_, rfl, rfl⟩, hs⟩
              by_cases hqm : q = m
              ·
               rw [hqm, ← htd]; simp [hk1]
              ·
               exact hno q (by omega)
             ·
              omega
           ·
            refine W_seq ?_
            refine W_seq ?_
            refine W_region ?_
            refine L_move rfl rfl ?_
            refine L_move rfl rfl ?_
            refine L_len rfl Try.underlying44 rfl ?_
            first | refine L_lss rfl rfl rfl (dtrue (by omega)) ?_ | refine L_lss rfl rfl rfl (dfalse (by omega)) ?_ | refine L_lss rfl rfl rfl rfl ?_
            refine L_move rfl rfl ?_
            first | (refine RL_want rfl rfl ?_; refine L_move rfl rfl ?_) | refine RL_skip rfl rfl rfl rfl ?_ | refine RL_skipU rfl rfl rfl ?_
            first | (refine RL_want rfl rfl ?_; refine L_not rfl rfl ?_) | refine RL_skip rfl rfl rfl rfl ?_ | refine RL_skipU rfl rfl rfl ?_
            first | refine L_pick_t rfl rfl rfl ?_ | refine L_pick_f rfl rfl rfl ?_
            refine RL_then ?_
            refine W_if_false rfl ?_
            refine W_exit' ?_
            refine Ex_then_exit ?_
            refine Ex_loop_exit ?_
            refine Ex_block_hit ?_
            refine Nx_cutP (true, at', wy, w) (is := [0, 1, 2, 7, 8, 9, 10, 11, 12, 15, 16, 17, 18, 19]) (I' := (fun (ct : Bool) (at' : Pt) (wy : Pt) (w : World) => ((ct = true ∧ ∃ t, rTrk ts id = some t ∧ at' = (t.xx, t.yx) ∧ wy = (t.xv, t.yv)) ∨ (ct = false ∧ rTrk ts id = none ∧ at' = (0, 0) ∧ wy = (0, 0))) ∧ (HS w0 w ((b18, Row 25 (pc at')) :: (b19, Row 25 (pc wy)) :: (b16, Row 109 x.cells) :: (PP ++ (MO' ++ MN'))))) (true) (at') (wy) (w)) rfl rfl rfl ?_
            refine ⟨?_, hs⟩
            rcases hct with h | ⟨h, _⟩
            ·
             exact .inl h
            ·
             cases h
           ·
            refine W_seq ?_
            refine W_seq ?_
            refine W_region ?_
            refine L_move rfl rfl ?_
            refine L_move rfl rfl ?_
            refine L_len rfl Try.underlying44 rfl ?_
            first | refine L_lss rfl rfl rfl (dtrue (by omega)) ?_ | refine L_lss rfl rfl rfl (dfalse (by omega)) ?_ | refine L_lss rfl rfl rfl rfl ?_
            refine L_move rfl rfl ?_
            first | (refine RL_want rfl rfl ?_; refine L_move rfl rfl ?_) | refine RL_skip rfl rfl rfl rfl ?_ | refine RL_skipU rfl rfl rfl ?_
            first | (refine RL_want rfl rfl ?_; refine L_not rfl rfl ?_) | refine RL_skip rfl rfl rfl rfl ?_ | refine RL_skipU rfl rfl rfl ?_
            first | refine L_pick_t rfl rfl rfl ?_ | refine L_pick_f rfl rfl rfl ?_
            refine RL_then ?_
            refine W_if_false rfl ?_
            refine W_exit' ?_
            refine Ex_then_exit ?_
            refine Ex_loop_exit ?_
            refine Ex_block_hit ?_
            refine Nx_cutP (ct, at', wy, w) (is := [0, 1, 2, 7, 8, 9, 10, 11, 12, 15, 16, 17, 18, 19]) (I' := (fun (ct : Bool) (at' : Pt) (wy : Pt) (w : World) => ((ct = true ∧ ∃ t, rTrk ts id = some t ∧ at' = (t.xx, t.yx) ∧ wy = (t.xv, t.yv)) ∨ (ct = false ∧ rTrk ts id = none ∧ at' = (0, 0) ∧ wy = (0, 0))) ∧ (HS w0 w ((b18, Row 25 (pc at')) :: (b19, Row 25 (pc wy)) :: (b16, Row 109 x.cells) :: (PP ++ (MO' ++ MN'))))) (ct) (at') (wy) (w)) rfl rfl rfl ?_
            refine ⟨?_, hs⟩
            rcases hct with h | ⟨h1, h2, h3⟩
            ·
             exact .inl h
            ·
             exact .inr ⟨h1, find_not (d := tk0) fun j hj => h2 j (by omega), h3⟩
         ·
          clear hs
          intro ct at' wy w hI
          show W _ _ _ _ [(0, .pointer (some ⟨BR, 0, none⟩)), (1, .float .f64 time), (2, .slice a n c), (7, vO'), (8, vN'), (9, .int .i64 i), (10, .int .i64 z.num), (11, .slice az z.ps.length cz), (12, .slice aI ni cI), (15, .int .i64 k), (16, .pointer (some ⟨b16, 0, none⟩)), (17, .bool ct), (18, .pointer (some ⟨b18, 0, none⟩)), (19, .pointer (some ⟨b19, 0, none⟩))] w
          obtain ⟨hct, hs⟩ := hI
          obtain ⟨tk, htk⟩ : ∃ tk, tk = rTrk ts id := ⟨_, rfl⟩
          obtain ⟨inn, hinn⟩ : ∃ inn, inn = rIn z.ps tk := ⟨_, rfl⟩
          obtain ⟨cm, hcm⟩ : ∃ cm, cm = rCm far z.ps tk := ⟨_, rfl⟩
          have hA1 : rA1 far time ks ts z id = rAl time z.num id x inn cm := by unfold rA1; rw [← hx, ← htk, ← hinn, ← hcm]
          have hK1 : rK1 far ks ts z id = rKs (rKn x inn cm) := by unfold rK1; rw [← hx, ← htk, ← hinn, ← hcm]
          rw [hA1] at hOs
          rw [hK1] at hNs
          rw [← htk] at hct
          have hcm2 : (whenF z.ps at' wy far).2 = cm := by
           rcases hct with ⟨_, t, h1, rfl, rfl⟩ | ⟨_, h1, rfl, rfl⟩ <;> rw [hcm, h1] <;> rfl
          have hzs : ∀ w1, HS w0 w1 ((b18, Row 25 (pc at')) :: (b19, Row 25 (pc wy)) :: (b16, Row 109 x.cells) :: (PP ++ (MO' ++ MN'))) → SlC w1 az (pcs z.ps) := fun w1 h => hzbl.slm h (fun p hp => List.mem_cons_of_mem _ (List.mem_cons_of_mem _ (List.mem_cons_of_mem _ (List.mem_append_left _ (hPL _ (hzm z hzin p hp))))))
          refine W_seq ?_
          refine W_region ?_
          refine L_move rfl rfl ?_
          refine L_assign rfl rfl ?_
          refine RL_then ?_
          refine W_seq ?_
          refine W_seq ?_
          refine W_region ?_
          refine L_move rfl rfl ?_
          refine RL_then ?_
          refine W_cut1 (fun (w : World) => [(0, .pointer (some ⟨BR, 0, none⟩)), (1, .float .f64 time), (2, .slice a n c), (8, vN'), (9, .int .i64 i), (10, .int .i64 z.num), (11, .slice az z.ps.length cz), (12, .slice aI ni cI), (15, .int .i64 k), (16, .pointer (some ⟨b16, 0, none⟩)), (7, vO'), (18, .pointer (some ⟨b18, 0, none⟩)), (19, .pointer (some ⟨b19, 0, none⟩)), (21, .bool inn)]) (fun (w : World) => w) (fun (w : World) => (HS w0 w ((b18, Row 25 (pc at')) :: (b19, Row 25 (pc wy)) :: (b16, Row 109 x.cells) :: (PP ++ (MO' ++ MN'))))) ?_ ?_
          ·
           rcases hct with ⟨rfl, t, h1, h2, h3⟩ | ⟨rfl, h1, h2, h3⟩
           ·
            skip
            refine W_if_true rfl ?_
            refine W_region ?_
            refine L_move rfl rfl ?_
            refine L_loadA rfl Try.agg25 Try.ti25 rfl (by exact cellsAt2' (hs.get (i := 0) rfl) rfl rfl) ?_
            refine L_call rfl Try.fun31 rfl (rwithin_ok az z.ps.length cz z.ps at'.1 at'.2 w (hzs _ hs) rfl) ?_
            rintro _ w1 ⟨rfl, hs'⟩
            have hi9 : insF z.ps at'.1 at'.2 = inn := by rw [hinn, h1, h2]; rfl
            rw [hi9]
            have h0 := hs.nil hs'
            clear hs hs'
            have hs := h0
            clear h0
            refine L_assign rfl rfl ?_
            refine RL_nil' ?_
            refine Nx_cutP (w1) (is := [0, 1, 2, 8, 9, 10, 11, 12, 15, 16, 7, 18, 19, 21]) (I' := (fun (w : World) => (HS w0 w ((b18, Row 25 (pc at')) :: (b19, Row 25 (pc wy)) :: (b16, Row 109 x.cells) :: (PP ++ (MO' ++ MN'))))) (w1)) rfl rfl rfl ?_
            exact hs
           ·
            have hi9 : inn = false := by rw [hinn, h1]; rfl
            refine W_if_false rfl ?_
            refine W_set 21 (v' := .bool inn) rfl ((by rw [hi9])) ?_
            refine W_skip' ?_
            refine Nx_cutP (w) (is := [0, 1, 2, 8, 9, 10, 11, 12, 15, 16, 7, 18, 19, 21]) (I' := (fun (w : World) => (HS w0 w ((b18, Row 25 (pc at')) :: (b19, Row 25 (pc wy)) :: (b16, Row 109 x.cells) :: (PP ++ (MO' ++ MN'))))) (w)) rfl rfl rfl ?_
            exact hs
          ·
           clear hs
           intro w hI
           show W _ _ _ _ [(0, .pointer (some ⟨BR, 0, none⟩)), (1, .float .f64 time), (2, .slice a n c), (8, vN'), (9, .int .i64 i), (10, .int .i64 z.num), (11, .slice az z.ps.length cz), (12, .slice aI ni cI), (15, .int .i64 k), (16, .pointer (some ⟨b16, 0, none⟩)), (7, vO'), (18, .pointer (some ⟨b18, 0, none⟩)), (19, .pointer (some ⟨b19, 0, none⟩)), (21, .bool inn)] w
           have hs := hI
           clear hI
           have hIs : SlC w aI (il ids) := hbI.slm hs (fun p hp => List.mem_cons_of_mem _ (List.mem_cons_of_mem _ (List.mem_cons_of_mem _ (List.mem_append_left _ (hPI p hp)))))
           refine W_seq ?_
           refine W_region ?_
           refine L_move rfl rfl ?_
           refine L_move rfl rfl ?_
           refine L_move rfl rfl ?_
           refine L_idx1 rfl Try.underlying38 Try.ti3 rfl rfl (by with_reducible first | exact natc_k _ | exact natc_a1 _ | exact natc_0 | exact natc_1 | exact natc_2 | exact natc_s1 _ (by omega) | exact natc_a2 _ | exact natc_add _ _ | exact natc_mul _ _ | exact natc (by omega)) (by omega) (hIs.ao (by rw [il_length]; omega)) ?_
           refine L_load rfl Try.one3 rfl (by exact hIs.get hig) ?_
           refine L_move rfl rfl ?_
           refine L_build rfl rfl (Pl.built Try.pl51 rfl) ?_
           refine L_alloc rfl hs Try.ti51 ?_; intro b22 w hb22 _ hs; replace hs := HS.push hs
           refine L_storeA hs (i := 0) rfl Try.ti51 rfl rfl (by first | rfl | exact add_lit0 _ _ | exact Addr.add_lit .. | (rw [add_add]; exact add_lit0 _ _)) (by simp) (by first | (simp; done) | simp [Value.oneCell']) ?_
           intro w hs
           try dsimp only [List.set_cons_succ, List.set_cons_zero, List.cons_append, List.nil_append] at hs
           refine RL_then ?_
           refine W_seq ?_
           have h0 : HS w0 w ((b22, Row 51 (Al.mk 0 z.num id time).cells) :: (b18, Row 25 (pc at')) :: (b19, Row 25 (pc wy)) :: (b16, Row 109 x.cells) :: (PP ++ (MO' ++ MN'))) := hs
           clear hs
           have hs := h0
           clear h0
           have hzs2 : ∀ w1, HS w0 w1 ((b22, Row 51 (Al.mk 0 z.num id time).cells) :: (b18, Row 25 (pc at')) :: (b19, Row 25 (pc wy)) :: (b16, Row 109 x.cells) :: (PP ++ (MO' ++ MN'))) → SlC w1 az (pcs z.ps) := fun w1 h => hzbl.slm h (fun p hp => List.mem_cons_of_mem _ (List.mem_cons_of_mem _ (List.mem_cons_of_mem _ (List.mem_cons_of_mem _ (List.mem_append_left _ (hPL _ (hzm z hzin p hp)))))))
           have hrow22 : (BR, Row 107 [.float .f64 far, .slice aZ zs.length cZ, .slice aK ks.length cK, .int .i64 ever]) ∈ (b22, Row 51 (Al.mk 0 z.num id time).cells) :: (b18, Row 25 (pc at')) :: (b19, Row 25 (pc wy)) :: (b16, Row 109 x.cells) :: (PP ++ (MO' ++ MN')) := List.mem_cons_of_mem _ (List.mem_cons_of_mem _ (List.mem_cons_of_mem _ (List.mem_cons_of_mem _ (List.mem_append_left _ (hPL _ hrow)))))
           obtain ⟨xi, hxi⟩ : ∃ xi, x.inn = xi := ⟨_, rfl⟩
           obtain ⟨xt, hxt⟩ : ∃ xt, x.told = xt := ⟨_, rfl⟩
           refine W_cut3 (fun (v7 : Value) (M7 : Bks) (w : World) => [(0, .pointer (some ⟨BR, 0, none⟩)), (1, .float .f64 time), (2, .slice a n c), (8, vN'), (9, .int .i64 i), (10, .int .i64 z.num), (11, .slice az z.ps.length cz), (12, .slice aI ni cI), (15, .int .i64 k), (16, .pointer (some ⟨b16, 0, none⟩)), (7, v7)]) (fun (v7 : Value) (M7 : Bks) (w : World) => w) (fun (v7 : Value) (M7 : Bks) (w : World) => (Bl w0 51 4 v7 (OL ++ rAl time z.num id x inn cm).length (acs (OL ++ rAl time z.num id x inn cm)) M7) ∧ (HS w0 w ((b16, Row 109 (rKn x inn cm).cells) :: (PP ++ (M7 ++ MN'))))) ?_ ?_
           ·
            skip
            rcases (Bool.eq_false_or_eq_true inn).symm with hin | hin
            ·
             refine W_set 21 (v' := .bool false) rfl ((congrArg Value.bool hin)) ?_
             cases xi
             ·
              refine W_block ?_
              refine W_seq ?_
              refine W_region ?_
              refine L_move rfl rfl ?_
              refine L_assign rfl rfl ?_
              refine RL_then ?_
              refine W_if_false rfl ?_
              refine W_seq ?_
              refine W_region ?_
              refine L_fieldAddr rfl (off := 2) Try.underlying109 rfl rfl Try.ti4 rfl ?_
              refine L_load rfl Try.one4 rfl (by exact hs.cell (i := 3) rfl rfl) ?_
              refine RL_set 228 (v' := .bool false) rfl ((congrArg Value.bool hxi)) ?_
              refine L_assign rfl rfl ?_
              refine RL_then ?_
              refine W_if_false rfl ?_
              refine W_seq ?_
              refine W_sg Try.mixed ?_
              replace hs := hs.drewN 1
              refine SG_stage [0, 3, 4, 5] [1, 2, 6] [7, 8] (fun _ _ _ => False) (g' := 4) (by kernel_rfl) (by kernel_rfl) (fun _ _ _ _ _ h => h) hs ?_
              refine PL_val rfl (fun w => R_move rfl) ?_
              refine PL_val rfl (fun w => R_move rfl) ?_
              refine PL_val rfl (fun w => R_nilCheck rfl) ?_
              refine PL_val rfl (fun w => R_fieldAddr (off := 0) Try.underlying107 rfl rfl Try.ti23 rfl) ?_
              refine PL_end ?_
              refine HL_val rfl (fun w hs => R_loadA Try.agg25 Try.ti25 rfl (by exact cellsAt2' (hs.get (i := 1) rfl) rfl rfl)) ?_
              refine HL_val rfl (fun w hs => R_loadA Try.agg25 Try.ti25 rfl (by exact cellsAt2' (hs.get (i := 2) rfl) rfl rfl)) ?_
              refine HL_val rfl (fun w hs => R_load Try.one23 rfl (by exact HS.cellM hs hrow22 rfl)) ?_
              refine HL_tail ?_
              intro w hs
              refine L_call rfl Try.fun10 rfl (rwhen_ok az z.ps.length cz z.ps at' wy far _ (hzs2 _ hs) rfl) ?_
              rintro _ w1 ⟨rfl, hs'⟩
              have h0 := hs.nil hs'
              clear hs hs'
              have hs := h0
              clear h0
              rcases (Bool.eq_false_or_eq_true cm).symm with hcv | hcv
              ·
               rw [hcm2.trans hcv]
               refine L_move rfl rfl ?_
               refine RL_sg ?_
               refine SG_stage [9, 10, 11, 12] [] [] (fun _ _ _ => False) (g' := 0) (by kernel_rfl) (by kernel_rfl) (fun _ _ _ _ _ h => h) hs ?_
               refine PL_val rfl (fun w => R_extract rfl rfl) ?_
               refine PL_val rfl (fun w => R_extract rfl rfl) ?_
               refine PL_val rfl (fun w => R_assign rfl) ?_
               refine PL_val rfl (fun w => R_assign rfl) ?_
               refine PL_end ?_
               refine HL_tail ?_
               intro w hs
               refine RL_sg ?_
               refine SG_end (by kernel_rfl) ?_
               refine Nx_then ?_
               refine W_seq ?_
               refine W_seq ?_
               refine W_region ?_
               refine L_move rfl rfl ?_
               refine L_move rfl rfl ?_
               first | (refine RL_want rfl rfl ?_; refine L_fieldAddr rfl (off := 3) Try.underlying109 rfl rfl Try.ti4 rfl ?_) | refine RL_skip rfl rfl rfl rfl ?_ | refine RL_skipU rfl rfl rfl ?_
               first | (refine RL_want rfl rfl ?_; refine L_load rfl Try.one4 rfl (by exact hs.cell (i := 3) rfl rfl) ?_) | refine RL_skip rfl rfl rfl rfl ?_ | refine RL_skipU rfl rfl rfl ?_
               first | (refine RL_want rfl rfl ?_; refine L_not rfl rfl ?_) | refine RL_skip rfl rfl rfl rfl ?_ | refine RL_skipU rfl rfl rfl ?_
               first | refine L_pick_t rfl rfl rfl ?_ | refine L_pick_f rfl rfl rfl ?_
               refine RL_then ?_
               refine W_if_false rfl ?_
               refine W_skip' ?_
               refine Nx_then ?_
               refine W_region ?_
               refine L_move rfl rfl ?_
               refine L_fieldAddr rfl (off := 3) Try.underlying109 rfl rfl Try.ti4 rfl ?_
               refine L_store hs (i := 3) rfl Try.ti4 rfl rfl (by first | rfl | exact add_lit0 _ _ | exact Addr.add_lit .. | (rw [add_add]; exact add_lit0 _ _)) (by simp [Kn.cells, Al.cells]) rfl ?_
               intro w hs
               try dsimp only [List.set_cons_succ, List.set_cons_zero, List.cons_append, List.nil_append] at hs
               refine RL_nil' ?_
               refine Nx_block ?_
               have h1 : HS w0 w ((b22, Row 51 (Al.mk 0 z.num id time).cells) :: (b18, Row 25 (pc at')) :: (b19, Row 25 (pc wy)) :: (b16, Row 109 (Kn.mk x.zone x.id x.inn false).cells) :: (PP ++ (MO' ++ MN'))) := hs
               have hfin : HS w0 w ((b16, Row 109 (Kn.mk x.zone x.id x.inn false).cells) :: (PP ++ (MO' ++ MN'))) := HS.dropR (M := [(b22, Row 51 (Al.mk 0 z.num id time).cells), (b18, Row 25 (pc at')), (b19, Row 25 (pc wy))]) (HS.re h1 (fun c => by simp only [List.map_append, List.map_cons, List.map_nil, List.sum_append, List.sum_cons, List.sum_nil]; omega)) (Own.cons hb22 (Own.cons hb18 (Own.cons hb19 Own.nil)))
               refine Nx_cutP (vO', MO', w) (is := [0, 1, 2, 8, 9, 10, 11, 12, 15, 16, 7]) (I' := (fun (v7 : Value) (M7 : Bks) (w : World) => (Bl w0 51 4 v7 (OL ++ rAl time z.num id x inn cm).length (acs (OL ++ rAl time z.num id x inn cm)) M7) ∧ (HS w0 w ((b16, Row 109 (rKn x inn cm).cells) :: (PP ++ (M7 ++ MN'))))) (vO') (MO') (w)) rfl rfl rfl ?_
               refine ⟨by rw [show rAl time z.num id x inn cm = [] by rw [hin, hcv]; unfold rAl; simp [hxi, hxt], List.append_nil]; exact hbO', ?_⟩
               rw [show rKn x inn cm = Kn.mk x.zone x.id x.inn false by rw [hin, hcv]; unfold rKn; simp [hxi]]
               exact hfin
              ·
               rw [hcm2.trans hcv]
               cases xt
               ·
                refine L_move rfl rfl ?_
                refine RL_sg ?_
                refine SG_stage [9, 10, 11, 12] [] [] (fun _ _ _ => False) (g' := 0) (by kernel_rfl) (by kernel_rfl) (fun _ _ _ _ _ h => h) hs ?_
                refine PL_val rfl (fun w => R_extract rfl rfl) ?_
                refine PL_val rfl (fun w => R_extract rfl rfl) ?_
                refine PL_val rfl (fun w => R_assign rfl) ?_
                refine PL_val rfl (fun w => R_assign rfl) ?_
                refine PL_end ?_
                refine HL_tail ?_
                intro w hs
                refine RL_sg ?_
                refine SG_end (by kernel_rfl) ?_
                refine Nx_then ?_
                refine W_seq ?_
                refine W_seq ?_
                refine W_region ?_
                refine L_move rfl rfl ?_
                refine L_move rfl rfl ?_
                first | (refine RL_want rfl rfl ?_; refine L_fieldAddr rfl (off := 3) Try.underlying109 rfl rfl Try.ti4 rfl ?_) | refine RL_skip rfl rfl rfl rfl ?_ | refine RL_skipU rfl rfl rfl ?_
                first | (refine RL_want rfl rfl ?_; refine L_load rfl Try.one4 rfl (by exact hs.cell (i := 3) rfl rfl) ?_) | refine RL_skip rfl rfl rfl rfl ?_ | refine RL_skipU rfl rfl rfl ?_
                refine RL_set 204 (v' := .bool false) rfl ((congrArg Value.bool hxt)) ?_
                first | (refine RL_want rfl rfl ?_; refine L_not rfl rfl ?_) | refine RL_skip rfl rfl rfl rfl ?_ | refine RL_skipU rfl rfl rfl ?_
                first | refine L_pick_t rfl rfl rfl ?_ | refine L_pick_f rfl rfl rfl ?_
                refine RL_then ?_
                refine W_if_true rfl ?_
                refine W_seq ?_
                refine W_region ?_
                refine L_fieldAddr rfl (off := 0) Try.underlying51 rfl rfl Try.ti49 rfl ?_
                refine L_store hs (i := 0) rfl Try.ti49 rfl rfl (by first | rfl | exact add_lit0 _ _ | exact Addr.add_lit .. | (rw [add_add]; exact add_lit0 _ _)) (by simp [Kn.cells, Al.cells]) rfl ?_
                intro w hs
                try dsimp only [List.set_cons_succ, List.set_cons_zero, List.cons_append, List.nil_append] at hs
                refine RL_then ?_
                refine W_region ?_
                have h0 : HS w0 w ((b22, Row 51 (Al.mk 2 z.num id time).cells) :: (b18, Row 25 (pc at')) :: (b19, Row 25 (pc wy)) :: (b16, Row 109 x.cells) :: (PP ++ (MO' ++ MN'))) := hs
                clear hs
                have hs := h0
                clear h0
                refine L_move rfl rfl ?_
                refine L_loadA rfl Try.agg51 Try.ti51 rfl (by exact cellsAt_whole (cs := (Al.mk 2 z.num id time).cells) (hs.get (i := 0) rfl)) ?_
                refine L_buildSlice rfl hs Try.underlying47 Try.ti51 rfl (by decide) rfl (by simp [Value.cells, Al.cells]) ?_
                intro b210 w hb210 hnb210 hs
                skip
                have h0 : HS w0 w (((b22, Row 51 (Al.mk 2 z.num id time).cells) :: (b18, Row 25 (pc at')) :: (b19, Row 25 (pc wy)) :: (b16, Row 109 x.cells) :: (PP ++ (MO' ++ MN'))) ++ [(b210, Row 51 (Al.mk 2 z.num id time).cells)]) := hs
                clear hs
                have hs : HS w0 w ((((b22, Row 51 (Al.mk 2 z.num id time).cells) :: (b18, Row 25 (pc at')) :: (b19, Row 25 (pc wy)) :: (b16, Row 109 x.cells) :: (PP ++ MN')) ++ MO') ++ [(b210, Row 51 (Al.mk 2 z.num id time).cells)]) := HS.re h0 (fun c => by simp only [List.map_append, List.map_cons, List.map_nil, List.sum_append, List.sum_cons, List.sum_nil]; omega)
                clear h0
                refine L_appendT (L := (b22, Row 51 (Al.mk 2 z.num id time).cells) :: (b18, Row 25 (pc at')) :: (b19, Row 25 (pc wy)) :: (b16, Row 109 x.cells) :: (PP ++ MN')) (M := MO') rfl Try.underlying47 Try.ti51 rfl hs hb210 hbO' rfl rfl rfl (Al.one _) (by omega) (by omega) ?_
                intro v211 w M211 hs hb211
                refine L_assign rfl rfl ?_
                refine RL_then ?_
                refine W_region ?_
                refine L_move rfl rfl ?_
                refine L_fieldAddr rfl (off := 3) Try.underlying109 rfl rfl Try.ti4 rfl ?_
                refine L_store hs (i := 3) rfl Try.ti4 rfl rfl (by first | rfl | exact add_lit0 _ _ | exact Addr.add_lit .. | (rw [add_add]; exact add_lit0 _ _)) (by simp [Kn.cells, Al.cells]) rfl ?_
                intro w hs
                try dsimp only [List.set_cons_succ, List.set_cons_zero, List.cons_append, List.nil_append] at hs
                refine RL_nil' ?_
                refine Nx_block ?_
                have h1 : HS w0 w (((b22, Row 51 (Al.mk 2 z.num id time).cells) :: (b18, Row 25 (pc at')) :: (b19, Row 25 (pc wy)) :: (b16, Row 109 (Kn.mk x.zone x.id x.inn true).cells) :: (PP ++ MN')) ++ M211) := hs
                have hfin : HS w0 w ((b16, Row 109 (Kn.mk x.zone x.id x.inn true).cells) :: (PP ++ (M211 ++ MN'))) := HS.dropR (M := [(b22, Row 51 (Al.mk 2 z.num id time).cells), (b18, Row 25 (pc at')), (b19, Row 25 (pc wy))]) (HS.re h1 (fun c => by simp only [List.map_append, List.map_cons, List.map_nil, List.sum_append, List.sum_cons, List.sum_nil]; omega)) (Own.cons hb22 (Own.cons hb18 (Own.cons hb19 Own.nil)))
                refine Nx_cutP (v211, M211, w) (is := [0, 1, 2, 8, 9, 10, 11, 12, 15, 16, 7]) (I' := (fun (v7 : Value) (M7 : Bks) (w : World) => (Bl w0 51 4 v7 (OL ++ rAl time z.num id x inn cm).length (acs (OL ++ rAl time z.num id x inn cm)) M7) ∧ (HS w0 w ((b16, Row 109 (rKn x inn cm).cells) :: (PP ++ (M7 ++ MN'))))) (v211) (M211) (w)) rfl rfl rfl ?_
                refine ⟨by rw [show rAl time z.num id x inn cm = [⟨2, z.num, id, time⟩] by rw [hin, hcv]; unfold rAl; simp [hxi, hxt], List.length_append, acs_snoc]; exact hb211, ?_⟩
                rw [show rKn x inn cm = Kn.mk x.zone x.id x.inn true by rw [hin, hcv]; unfold rKn; simp [hxi]]
                exact hfin
               ·
                refine L_move rfl rfl ?_
                refine RL_sg ?_
                refine SG_stage [9, 10, 11, 12] [] [] (fun _ _ _ => False) (g' := 0) (by kernel_rfl) (by kernel_rfl) (fun _ _ _ _ _ h => h) hs ?_
                refine PL_val rfl (fun w => R_extract rfl rfl) ?_
                refine PL_val rfl (fun w => R_extract rfl rfl) ?_
                refine PL_val rfl (fun w => R_assign rfl) ?_
                refine PL_val rfl (fun w => R_assign rfl) ?_
                refine PL_end ?_
                refine HL_tail ?_
                intro w hs
                refine RL_sg ?_
                refine SG_end (by kernel_rfl) ?_
                refine Nx_then ?_
                refine W_seq ?_
                refine W_seq ?_
                refine W_region ?_
                refine L_move rfl rfl ?_
                refine L_move rfl rfl ?_
                first | (refine RL_want rfl rfl ?_; refine L_fieldAddr rfl (off := 3) Try.underlying109 rfl rfl Try.ti4 rfl ?_) | refine RL_skip rfl rfl rfl rfl ?_ | refine RL_skipU rfl rfl rfl ?_
                first | (refine RL_want rfl rfl ?_; refine L_load rfl Try.one4 rfl (by exact hs.cell (i := 3) rfl rfl) ?_) | refine RL_skip rfl rfl rfl rfl ?_ | refine RL_skipU rfl rfl rfl ?_
                refine RL_set 204 (v' := .bool true) rfl ((congrArg Value.bool hxt)) ?_
                first | (refine RL_want rfl rfl ?_; refine L_not rfl rfl ?_) | refine RL_skip rfl rfl rfl rfl ?_ | refine RL_skipU rfl rfl rfl ?_
                first | refine L_pick_t rfl rfl rfl ?_ | refine L_pick_f rfl rfl rfl ?_
                refine RL_then ?_
                refine W_if_false rfl ?_
                refine W_skip' ?_
                refine Nx_then ?_
                refine W_region ?_
                refine L_move rfl rfl ?_
                refine L_fieldAddr rfl (off := 3) Try.underlying109 rfl rfl Try.ti4 rfl ?_
                refine L_store hs (i := 3) rfl Try.ti4 rfl rfl (by first | rfl | exact add_lit0 _ _ | exact Addr.add_lit .. | (rw [add_add]; exact add_lit0 _ _)) (by simp [Kn.cells, Al.cells]) rfl ?_
                intro w hs
                try dsimp only [List.set_cons_succ, List.set_cons_zero, List.cons_append, List.nil_append] at hs
                refine RL_nil' ?_
                refine Nx_block ?_
                have h1 : HS w0 w ((b22, Row 51 (Al.mk 0 z.num id time).cells) :: (b18, Row 25 (pc at')) :: (b19, Row 25 (pc wy)) :: (b16, Row 109 (Kn.mk x.zone x.id x.inn true).cells) :: (PP ++ (MO' ++ MN'))) := hs
                have hfin : HS w0 w ((b16, Row 109 (Kn.mk x.zone x.id x.inn true).cells) :: (PP ++ (MO' ++ MN'))) := HS.dropR (M := [(b22, Row 51 (Al.mk 0 z.num id time).cells), (b18, Row 25 (pc at')), (b19, Row 25 (pc wy))]) (HS.re h1 (fun c => by simp only [List.map_append, List.map_cons, List.map_nil, List.sum_append, List.sum_cons, List.sum_nil]; omega)) (Own.cons hb22 (Own.cons hb18 (Own.cons hb19 Own.nil)))
                refine Nx_cutP (vO', MO', w) (is := [0, 1, 2, 8, 9, 10, 11, 12, 15, 16, 7]) (I' := (fun (v7 : Value) (M7 : Bks) (w : World) => (Bl w0 51 4 v7 (OL ++ rAl time z.num id x inn cm).length (acs (OL ++ rAl time z.num id x inn cm)) M7) ∧ (HS w0 w ((b16, Row 109 (rKn x inn cm).cells) :: (PP ++ (M7 ++ MN'))))) (vO') (MO') (w)) rfl rfl rfl ?_
                refine ⟨by rw [show rAl time z.num id x inn cm = [] by rw [hin, hcv]; unfold rAl; simp [hxi, hxt], List.append_nil]; exact hbO', ?_⟩
                rw [show rKn x inn cm = Kn.mk x.zone x.id x.inn true by rw [hin, hcv]; unfold rKn; simp [hxi]]
                exact hfin
             ·
              refine W_block ?_
              refine W_seq ?_
              refine W_region ?_
              refine L_move rfl rfl ?_
              refine L_assign rfl rfl ?_
              refine RL_then ?_
              refine W_if_false rfl ?_
              refine W_seq ?_
              refine W_region ?_
              refine L_fieldAddr rfl (off := 2) Try.underlying109 rfl rfl Try.ti4 rfl ?_
              refine L_load rfl Try.one4 rfl (by exact hs.cell (i := 3) rfl rfl) ?_
              refine RL_set 228 (v' := .bool true) rfl ((congrArg Value.bool hxi)) ?_
              refine L_assign rfl rfl ?_
              refine RL_then ?_
              refine W_if_true rfl ?_
              refine W_seq ?_
              refine W_region ?_
              refine L_fieldAddr rfl (off := 0) Try.underlying51 rfl rfl Try.ti49 rfl ?_
              refine L_store hs (i := 0) rfl Try.ti49 rfl rfl (by first | rfl | exact add_lit0 _ _ | exact Addr.add_lit .. | (rw [add_add]; exact add_lit0 _ _)) (by simp [Kn.cells, Al.cells]) rfl ?_
              intro w hs
              try dsimp only [List.set_cons_succ, List.set_cons_zero, List.cons_append, List.nil_append] at hs
              refine RL_then ?_
              refine W_seq ?_
              refine W_region ?_
              have h0 : HS w0 w ((b22, Row 51 (Al.mk 1 z.num id time).cells) :: (b18, Row 25 (pc at')) :: (b19, Row 25 (pc wy)) :: (b16, Row 109 x.cells) :: (PP ++ (MO' ++ MN'))) := hs
              clear hs
              have hs := h0
              clear h0
              refine L_move rfl rfl ?_
              refine L_loadA rfl Try.agg51 Try.ti51 rfl (by exact cellsAt_whole (cs := (Al.mk 1 z.num id time).cells) (hs.get (i := 0) rfl)) ?_
              refine L_buildSlice rfl hs Try.underlying47 Try.ti51 rfl (by decide) rfl (by simp [Value.cells, Al.cells]) ?_
              intro b232 w hb232 hnb232 hs
              skip
              have h0 : HS w0 w (((b22, Row 51 (Al.mk 1 z.num id time).cells) :: (b18, Row 25 (pc at')) :: (b19, Row 25 (pc wy)) :: (b16, Row 109 x.cells) :: (PP ++ (MO' ++ MN'))) ++ [(b232, Row 51 (Al.mk 1 z.num id time).cells)]) := hs
              clear hs
              have hs : HS w0 w ((((b22, Row 51 (Al.mk 1 z.num id time).cells) :: (b18, Row 25 (pc at')) :: (b19, Row 25 (pc wy)) :: (b16, Row 109 x.cells) :: (PP ++ MN')) ++ MO') ++ [(b232, Row 51 (Al.mk 1 z.num id time).cells)]) := HS.re h0 (fun c => by simp only [List.map_append, List.map_cons, List.map_nil, List.sum_append, List.sum_cons, List.sum_nil]; omega)
              clear h0
              refine L_appendT (L := (b22, Row 51 (Al.mk 1 z.num id time).cells) :: (b18, Row 25 (pc at')) :: (b19, Row 25 (pc wy)) :: (b16, Row 109 x.cells) :: (PP ++ MN')) (M := MO') rfl Try.underlying47 Try.ti51 rfl hs hb232 hbO' rfl rfl rfl (Al.one _) (by omega) (by omega) ?_
              intro v233 w M233 hs hb233
              refine L_assign rfl rfl ?_
              refine RL_then ?_
              refine W_seq ?_
              refine W_region ?_
              refine L_fieldAddr rfl (off := 2) Try.underlying109 rfl rfl Try.ti4 rfl ?_
              refine L_store hs (i := 3) rfl Try.ti4 rfl rfl (by first | rfl | exact add_lit0 _ _ | exact Addr.add_lit .. | (rw [add_add]; exact add_lit0 _ _)) (by simp [Kn.cells, Al.cells]) rfl ?_
              intro w hs
              try dsimp only [List.set_cons_succ, List.set_cons_zero, List.cons_append, List.nil_append] at hs
              refine RL_then ?_
              refine W_region ?_
              refine L_fieldAddr rfl (off := 3) Try.underlying109 rfl rfl Try.ti4 rfl ?_
              refine L_store hs (i := 3) rfl Try.ti4 rfl rfl (by first | rfl | exact add_lit0 _ _ | exact Addr.add_lit .. | (rw [add_add]; exact add_lit0 _ _)) (by simp [Kn.cells, Al.cells]) rfl ?_
              intro w hs
              try dsimp only [List.set_cons_succ, List.set_cons_zero, List.cons_append, List.nil_append] at hs
              refine RL_nil' ?_
              refine Nx_block ?_
              have h1 : HS w0 w (((b22, Row 51 (Al.mk 1 z.num id time).cells) :: (b18, Row 25 (pc at')) :: (b19, Row 25 (pc wy)) :: (b16, Row 109 (Kn.mk x.zone x.id false false).cells) :: (PP ++ MN')) ++ M233) := hs
              have hfin : HS w0 w ((b16, Row 109 (Kn.mk x.zone x.id false false).cells) :: (PP ++ (M233 ++ MN'))) := HS.dropR (M := [(b22, Row 51 (Al.mk 1 z.num id time).cells), (b18, Row 25 (pc at')), (b19, Row 25 (pc wy))]) (HS.re h1 (fun c => by simp only [List.map_append, List.map_cons, List.map_nil, List.sum_append, List.sum_cons, List.sum_nil]; omega)) (Own.cons hb22 (Own.cons hb18 (Own.cons hb19 Own.nil)))
              refine Nx_cutP (v233, M233, w) (is := [0, 1, 2, 8, 9, 10, 11, 12, 15, 16, 7]) (I' := (fun (v7 : Value) (M7 : Bks) (w : World) => (Bl w0 51 4 v7 (OL ++ rAl time z.num id x inn cm).length (acs (OL ++ rAl time z.num id x inn cm)) M7) ∧ (HS w0 w ((b16, Row 109 (rKn x inn cm).cells) :: (PP ++ (M7 ++ MN'))))) (v233) (M233) (w)) rfl rfl rfl ?_
              refine ⟨by rw [show rAl time z.num id x inn cm = [⟨1, z.num, id, time⟩] by rw [hin]; unfold rAl; simp [hxi], List.length_append, acs_snoc]; exact hb233, ?_⟩
              rw [show rKn x inn cm = Kn.mk x.zone x.id false false by rw [hin]; unfold rKn; simp [hxi]]
              exact hfin
            ·
             refine W_set 21 (v' := .bool true) rfl ((congrArg Value.bool hin)) ?_
             cases xi
             ·
              refine W_block ?_
              refine W_seq ?_
              refine W_region ?_
              refine L_move rfl rfl ?_
              refine L_assign rfl rfl ?_
              refine RL_then ?_
              refine W_if_true rfl ?_
              refine W_seq ?_
              refine W_seq ?_
              refine W_region ?_
              refine L_fieldAddr rfl (off := 2) Try.underlying109 rfl rfl Try.ti4 rfl ?_
              refine L_load rfl Try.one4 rfl (by exact hs.cell (i := 3) rfl rfl) ?_
              refine RL_set 217 (v' := .bool false) rfl ((congrArg Value.bool hxi)) ?_
              refine L_not rfl rfl ?_
              refine RL_then ?_
              refine W_if_true rfl ?_
              refine W_seq ?_
              refine W_region ?_
              refine L_fieldAddr rfl (off := 0) Try.underlying51 rfl rfl Try.ti49 rfl ?_
              refine L_store hs (i := 0) rfl Try.ti49 rfl rfl (by first | rfl | exact add_lit0 _ _ | exact Addr.add_lit .. | (rw [add_add]; exact add_lit0 _ _)) (by simp [Kn.cells, Al.cells]) rfl ?_
              intro w hs
              try dsimp only [List.set_cons_succ, List.set_cons_zero, List.cons_append, List.nil_append] at hs
              refine RL_then ?_
              refine W_region ?_
              have h0 : HS w0 w ((b22, Row 51 (Al.mk 0 z.num id time).cells) :: (b18, Row 25 (pc at')) :: (b19, Row 25 (pc wy)) :: (b16, Row 109 x.cells) :: (PP ++ (MO' ++ MN'))) := hs
              clear hs
              have hs := h0
              clear h0
              refine L_move rfl rfl ?_
              refine L_loadA rfl Try.agg51 Try.ti51 rfl (by exact cellsAt_whole (cs := (Al.mk 0 z.num id time).cells) (hs.get (i := 0) rfl)) ?_
              refine L_buildSlice rfl hs Try.underlying47 Try.ti51 rfl (by decide) rfl (by simp [Value.cells, Al.cells]) ?_
              intro b222 w hb222 hnb222 hs
              skip
              have h0 : HS w0 w (((b22, Row 51 (Al.mk 0 z.num id time).cells) :: (b18, Row 25 (pc at')) :: (b19, Row 25 (pc wy)) :: (b16, Row 109 x.cells) :: (PP ++ (MO' ++ MN'))) ++ [(b222, Row 51 (Al.mk 0 z.num id time).cells)]) := hs
              clear hs
              have hs : HS w0 w ((((b22, Row 51 (Al.mk 0 z.num id time).cells) :: (b18, Row 25 (pc at')) :: (b19, Row 25 (pc wy)) :: (b16, Row 109 x.cells) :: (PP ++ MN')) ++ MO') ++ [(b222, Row 51 (Al.mk 0 z.num id time).cells)]) := HS.re h0 (fun c => by simp only [List.map_append, List.map_cons, List.map_nil, List.sum_append, List.sum_cons, List.sum_nil]; omega)
              clear h0
              refine L_appendT (L := (b22, Row 51 (Al.mk 0 z.num id time).cells) :: (b18, Row 25 (pc at')) :: (b19, Row 25 (pc wy)) :: (b16, Row 109 x.cells) :: (PP ++ MN')) (M := MO') rfl Try.underlying47 Try.ti51 rfl hs hb222 hbO' rfl rfl rfl (Al.one _) (by omega) (by omega) ?_
              intro v223 w M223 hs hb223
              refine L_assign rfl rfl ?_
              refine RL_then ?_
              refine W_seq ?_
              refine W_region ?_
              refine L_fieldAddr rfl (off := 2) Try.underlying109 rfl rfl Try.ti4 rfl ?_
              refine L_store hs (i := 3) rfl Try.ti4 rfl rfl (by first | rfl | exact add_lit0 _ _ | exact Addr.add_lit .. | (rw [add_add]; exact add_lit0 _ _)) (by simp [Kn.cells, Al.cells]) rfl ?_
              intro w hs
              try dsimp only [List.set_cons_succ, List.set_cons_zero, List.cons_append, List.nil_append] at hs
              refine RL_then ?_
              refine W_region ?_
              refine L_fieldAddr rfl (off := 3) Try.underlying109 rfl rfl Try.ti4 rfl ?_
              refine L_store hs (i := 3) rfl Try.ti4 rfl rfl (by first | rfl | exact add_lit0 _ _ | exact Addr.add_lit .. | (rw [add_add]; exact add_lit0 _ _)) (by simp [Kn.cells, Al.cells]) rfl ?_
              intro w hs
              try dsimp only [List.set_cons_succ, List.set_cons_zero, List.cons_append, List.nil_append] at hs
              refine RL_nil' ?_
              refine Nx_block ?_
              have h1 : HS w0 w (((b22, Row 51 (Al.mk 0 z.num id time).cells) :: (b18, Row 25 (pc at')) :: (b19, Row 25 (pc wy)) :: (b16, Row 109 (Kn.mk x.zone x.id true false).cells) :: (PP ++ MN')) ++ M223) := hs
              have hfin : HS w0 w ((b16, Row 109 (Kn.mk x.zone x.id true false).cells) :: (PP ++ (M223 ++ MN'))) := HS.dropR (M := [(b22, Row 51 (Al.mk 0 z.num id time).cells), (b18, Row 25 (pc at')), (b19, Row 25 (pc wy))]) (HS.re h1 (fun c => by simp only [List.map_append, List.map_cons, List.map_nil, List.sum_append, List.sum_cons, List.sum_nil]; omega)) (Own.cons hb22 (Own.cons hb18 (Own.cons hb19 Own.nil)))
              refine Nx_cutP (v223, M223, w) (is := [0, 1, 2, 8, 9, 10, 11, 12, 15, 16, 7]) (I' := (fun (v7 : Value) (M7 : Bks) (w : World) => (Bl w0 51 4 v7 (OL ++ rAl time z.num id x inn cm).length (acs (OL ++ rAl time z.num id x inn cm)) M7) ∧ (HS w0 w ((b16, Row 109 (rKn x inn cm).cells) :: (PP ++ (M7 ++ MN'))))) (v223) (M223) (w)) rfl rfl rfl ?_
              refine ⟨by rw [show rAl time z.num id x inn cm = [⟨0, z.num, id, time⟩] by rw [hin]; unfold rAl; simp [hxi], List.length_append, acs_snoc]; exact hb223, ?_⟩
              rw [show rKn x inn cm = Kn.mk x.zone x.id true false by rw [hin]; unfold rKn; simp [hxi]]
              exact hfin
             ·
              refine W_block ?_
              refine W_seq ?_
              refine W_region ?_
              refine L_move rfl rfl ?_
              refine L_assign rfl rfl ?_
              refine RL_then ?_
              refine W_if_true rfl ?_
              refine W_seq ?_
              refine W_seq ?_
              refine W_region ?_
              refine L_fieldAddr rfl (off := 2) Try.underlying109 rfl rfl Try.ti4 rfl ?_
              refine L_load rfl Try.one4 rfl (by exact hs.cell (i := 3) rfl rfl) ?_
              refine RL_set 217 (v' := .bool true) rfl ((congrArg Value.bool hxi)) ?_
              refine L_not rfl rfl ?_
              refine RL_then ?_
              refine W_if_false rfl ?_
              refine W_skip' ?_
              refine Nx_then ?_
              refine W_seq ?_
              refine W_region ?_
              refine L_fieldAddr rfl (off := 2) Try.underlying109 rfl rfl Try.ti4 rfl ?_
              refine L_store hs (i := 3) rfl Try.ti4 rfl rfl (by first | rfl | exact add_lit0 _ _ | exact Addr.add_lit .. | (rw [add_add]; exact add_lit0 _ _)) (by simp [Kn.cells, Al.cells]) rfl ?_
              intro w hs
              try dsimp only [List.set_cons_succ, List.set_cons_zero, List.cons_append, List.nil_append] at hs
              refine RL_then ?_
              refine W_region ?_
              refine L_fieldAddr rfl (off := 3) Try.underlying109 rfl rfl Try.ti4 rfl ?_
              refine L_store hs (i := 3) rfl Try.ti4 rfl rfl (by first | rfl | exact add_lit0 _ _ | exact Addr.add_lit .. | (rw [add_add]; exact add_lit0 _ _)) (by simp [Kn.cells, Al.cells]) rfl ?_
              intro w hs
              try dsimp only [List.set_cons_succ, List.set_cons_zero, List.cons_append, List.nil_append] at hs
              refine RL_nil' ?_
              refine Nx_block ?_
              have h1 : HS w0 w ((b22, Row 51 (Al.mk 0 z.num id time).cells) :: (b18, Row 25 (pc at')) :: (b19, Row 25 (pc wy)) :: (b16, Row 109 (Kn.mk x.zone x.id true false).cells) :: (PP ++ (MO' ++ MN'))) := hs
              have hfin : HS w0 w ((b16, Row 109 (Kn.mk x.zone x.id true false).cells) :: (PP ++ (MO' ++ MN'))) := HS.dropR (M := [(b22, Row 51 (Al.mk 0 z.num id time).cells), (b18, Row 25 (pc at')), (b19, Row 25 (pc wy))]) (HS.re h1 (fun c => by simp only [List.map_append, List.map_cons, List.map_nil, List.sum_append, List.sum_cons, List.sum_nil]; omega)) (Own.cons hb22 (Own.cons hb18 (Own.cons hb19 Own.nil)))
              refine Nx_cutP (vO', MO', w) (is := [0, 1, 2, 8, 9, 10, 11, 12, 15, 16, 7]) (I' := (fun (v7 : Value) (M7 : Bks) (w : World) => (Bl w0 51 4 v7 (OL ++ rAl time z.num id x inn cm).length (acs (OL ++ rAl time z.num id x inn cm)) M7) ∧ (HS w0 w ((b16, Row 109 (rKn x inn cm).cells) :: (PP ++ (M7 ++ MN'))))) (vO') (MO') (w)) rfl rfl rfl ?_
              refine ⟨by rw [show rAl time z.num id x inn cm = [] by rw [hin]; unfold rAl; simp [hxi], List.append_nil]; exact hbO', ?_⟩
              rw [show rKn x inn cm = Kn.mk x.zone x.id true false by rw [hin]; unfold rKn; simp [hxi]]
              exact hfin
           ·
            clear hs hbO'
            intro v7 M7 w hI
            show W _ _ _ _ [(0, .pointer (some ⟨BR, 0, none⟩)), (1, .float .f64 time), (2, .slice a n c), (8, vN'), (9, .int .i64 i), (10, .int .i64 z.num), (11, .slice az z.ps.length cz), (12, .slice aI ni cI), (15, .int .i64 k), (16, .pointer (some ⟨b16, 0, none⟩)), (7, v7)] w
            obtain ⟨hb7, hs⟩ := hI
            obtain ⟨y, hy⟩ : ∃ y, y = rKn x inn cm := ⟨_, rfl⟩
            rw [← hy] at hs hNs
            have hl1 := rAl_len time z.num id x inn cm
            have hl2 := rKs_len y
            obtain ⟨yi, hyi⟩ : ∃ yi, y.inn = yi := ⟨_, rfl⟩
            obtain ⟨yt, hyt⟩ : ∃ yt, y.told = yt := ⟨_, rfl⟩
            refine W_seq ?_
            rcases (show (yi = true ∨ (yi = false ∧ yt = true)) ∨ (yi = false ∧ yt = false) from match yi, yt with | true, _ => .inl (.inl rfl) | false, true => .inl (.inr ⟨rfl, rfl⟩) | false, false => .inr ⟨rfl, rfl⟩) with hkeep | ⟨rfl, rfl⟩
            ·
             have hks9 : rKs y = [y] := by unfold rKs; rw [hyi, hyt, if_pos (hkeep.imp (fun h => h) And.right)]
             rw [hks9] at hNs hl2
             refine W_cut1 (fun (w : World) => [(0, .pointer (some ⟨BR, 0, none⟩)), (1, .float .f64 time), (2, .slice a n c), (7, v7), (8, vN'), (9, .int .i64 i), (10, .int .i64 z.num), (11, .slice az z.ps.length cz), (12, .slice aI ni cI), (15, .int .i64 k), (16, .pointer (some ⟨b16, 0, none⟩)), (241, .bool true)]) (fun (w : World) => w) (fun (w : World) => (HS w0 w ((b16, Row 109 y.cells) :: (PP ++ (M7 ++ MN'))))) ?_ ?_
             ·
              rcases hkeep with rfl | ⟨rfl, rfl⟩
              ·
               refine W_region ?_
               refine L_fieldAddr rfl (off := 2) Try.underlying109 rfl rfl Try.ti4 rfl ?_
               refine L_load rfl Try.one4 rfl (by exact hs.cell (i := 0) rfl rfl) ?_
               refine RL_set 237 (v' := .bool true) rfl ((congrArg Value.bool hyi)) ?_
               refine L_move rfl rfl ?_
               first | (refine RL_want rfl rfl ?_; refine L_fieldAddr rfl (off := 3) Try.underlying109 rfl rfl Try.ti4 rfl ?_) | refine RL_skip rfl rfl rfl rfl ?_ | refine RL_skipU rfl rfl rfl ?_
               first | (refine RL_want rfl rfl ?_; refine L_load rfl Try.one4 rfl (by exact hs.cell (i := 0) rfl rfl) ?_) | refine RL_skip rfl rfl rfl rfl ?_ | refine RL_skipU rfl rfl rfl ?_
               first | refine L_pick_t rfl rfl rfl ?_ | refine L_pick_f rfl rfl rfl ?_
               refine RL_nil' ?_
               refine Nx_cutP (w) (is := [0, 1, 2, 7, 8, 9, 10, 11, 12, 15, 16, 241]) (I' := (fun (w : World) => (HS w0 w ((b16, Row 109 y.cells) :: (PP ++ (M7 ++ MN'))))) (w)) rfl rfl rfl ?_
               exact hs
              ·
               refine W_region ?_
               refine L_fieldAddr rfl (off := 2) Try.underlying109 rfl rfl Try.ti4 rfl ?_
               refine L_load rfl Try.one4 rfl (by exact hs.cell (i := 0) rfl rfl) ?_
               refine RL_set 237 (v' := .bool false) rfl ((congrArg Value.bool hyi)) ?_
               refine L_move rfl rfl ?_
               first | (refine RL_want rfl rfl ?_; refine L_fieldAddr rfl (off := 3) Try.underlying109 rfl rfl Try.ti4 rfl ?_) | refine RL_skip rfl rfl rfl rfl ?_ | refine RL_skipU rfl rfl rfl ?_
               first | (refine RL_want rfl rfl ?_; refine L_load rfl Try.one4 rfl (by exact hs.cell (i := 0) rfl rfl) ?_) | refine RL_skip rfl rfl rfl rfl ?_ | refine RL_skipU rfl rfl rfl ?_
               refine RL_set 240 (v' := .bool true) rfl ((congrArg Value.bool hyt)) ?_
               first | refine L_pick_t rfl rfl rfl ?_ | refine L_pick_f rfl rfl rfl ?_
               refine RL_nil' ?_
               refine Nx_cutP (w) (is := [0, 1, 2, 7, 8, 9, 10, 11, 12, 15, 16, 241]) (I' := (fun (w : World) => (HS w0 w ((b16, Row 109 y.cells) :: (PP ++ (M7 ++ MN'))))) (w)) rfl rfl rfl ?_
               exact hs
             ·
              clear hs
              intro w hI
              show W _ _ _ _ [(0, .pointer (some ⟨BR, 0, none⟩)), (1, .float .f64 time), (2, .slice a n c), (7, v7), (8, vN'), (9, .int .i64 i), (10, .int .i64 z.num), (11, .slice az z.ps.length cz), (12, .slice aI ni cI), (15, .int .i64 k), (16, .pointer (some ⟨b16, 0, none⟩)), (241, .bool true)] w
              have hs := hI
              clear hI
              refine W_if_true rfl ?_
              refine W_region ?_
              refine L_move rfl rfl ?_
              refine L_loadA rfl Try.agg109 Try.ti109 rfl (by exact cellsAt_whole (cs := y.cells) (hs.get (i := 0) rfl)) ?_
              refine L_buildSlice rfl hs Try.underlying105 Try.ti109 rfl (by decide) rfl (by simp [Value.cells, Kn.cells]) ?_
              intro b244 w hb244 hnb244 hs
              skip
              have h0 : HS w0 w (((b16, Row 109 y.cells) :: (PP ++ (M7 ++ MN'))) ++ [(b244, Row 109 y.cells)]) := hs
              clear hs
              have hs : HS w0 w ((((b16, Row 109 y.cells) :: (PP ++ M7)) ++ MN') ++ [(b244, Row 109 y.cells)]) := HS.re h0 (fun c => by simp only [List.map_append, List.map_cons, List.map_nil, List.sum_append, List.sum_cons, List.sum_nil]; omega)
              clear h0
              refine L_appendT (L := (b16, Row 109 y.cells) :: (PP ++ M7)) (M := MN') rfl Try.underlying105 Try.ti109 rfl hs hb244 hbN' rfl rfl rfl (Kn.one y) (by omega) (by omega) ?_
              intro v245 w M245 hs hb245
              refine L_assign rfl rfl ?_
              refine RL_nil' ?_
              refine Nx_block ?_
              refine Nx_then ?_
              refine W_region ?_
              refine L_move rfl rfl ?_
              first | refine L_add rfl rfl rfl (wrp_i64 (by omega)) ?_ | refine L_add rfl rfl rfl rfl ?_
              refine L_assign rfl rfl ?_
              refine RL_nil' ?_
              have hfin : HS w0 w (PP ++ (M7 ++ M245)) := HS.dropR (M := [(b16, Row 109 y.cells)]) (HS.re hs (fun c => by simp only [List.map_append, List.map_cons, List.map_nil, List.sum_append, List.sum_cons, List.sum_nil]; omega)) (Own.cons hb16 Own.nil)
              refine Nx_loopP (k + 1, v7, M7, v245, M245, _) (is := [0, 1, 2, 7, 8, 9, 10, 11, 12, 15]) (I' := (fun (k : Nat) (vO' : Value) (MO' : Bks) (vN' : Value) (MN' : Bks) (w : World) => (k ≤ ni) ∧ (Bl w0 51 4 vO' (OO ++ (ids.take k).flatMap (rA1 far time ks ts z)).length (acs (OO ++ (ids.take k).flatMap (rA1 far time ks ts z))) MO') ∧ (Bl w0 109 4 vN' (NN ++ (ids.take k).flatMap (rK1 far ks ts z)).length (kcs (NN ++ (ids.take k).flatMap (rK1 far ks ts z))) MN') ∧ ((OO ++ (ids.take k).flatMap (rA1 far time ks ts z)).length ≤ bnd + k) ∧ ((NN ++ (ids.take k).flatMap (rK1 far ks ts z)).length ≤ bnd + k) ∧ (HS w0 w (PP ++ (MO' ++ MN')))) (k + 1) (v7) (M7) (v245) (M245) (_)) rfl rfl rfl ?_ ?_
              ·
               refine ⟨by omega, by rw [hOs]; exact hb7, ?_, by rw [hOs, List.length_append]; omega, by rw [hNs, List.length_append]; omega, hfin⟩
               rw [hNs, List.length_append, kcs_app, show kcs [y] = y.cells by simp [kcs]]
               exact hb245
              ·
               omega
            ·
             have hks9 : rKs y = [] := by unfold rKs; rw [hyi, hyt, if_neg (by simp)]
             rw [hks9] at hNs hl2
             refine W_region ?_
             refine L_fieldAddr rfl (off := 2) Try.underlying109 rfl rfl Try.ti4 rfl ?_
             refine L_load rfl Try.one4 rfl (by first | exact hs.cell (i := 0) rfl rfl) ?_
             refine RL_set 237 (v' := .bool false) rfl ((congrArg Value.bool hyi)) ?_
             refine L_move rfl rfl ?_
             first | (refine RL_want rfl rfl ?_; refine L_fieldAddr rfl (off := 3) Try.underlying109 rfl rfl Try.ti4 rfl ?_) | refine RL_skip rfl rfl rfl rfl ?_ | refine RL_skipU rfl rfl rfl ?_
             first | (refine RL_want rfl rfl ?_; refine L_load rfl Try.one4 rfl (by first | exact hs.cell (i := 0) rfl rfl) ?_) | refine RL_skip rfl rfl rfl rfl ?_ | refine RL_skipU rfl rfl rfl ?_
             refine RL_set 240 (v' := .bool false) rfl ((congrArg Value.bool hyt)) ?_
             first | refine L_pick_t rfl rfl rfl ?_ | refine L_pick_f rfl rfl rfl ?_
             refine RL_then ?_
             refine W_if_false rfl ?_
             refine W_skip' ?_
             refine Nx_block ?_
             refine Nx_then ?_
             refine W_region ?_
             refine L_move rfl rfl ?_
             first | refine L_add rfl rfl rfl (wrp_i64 (by omega)) ?_ | refine L_add rfl rfl rfl rfl ?_
             refine L_assign rfl rfl ?_
             refine RL_nil' ?_
             have hfin : HS w0 w (PP ++ (M7 ++ MN')) := HS.dropR (M := [(b16, Row 109 y.cells)]) (HS.re hs (fun c => by simp only [List.map_append, List.map_cons, List.map_nil, List.sum_append, List.sum_cons, List.sum_nil]; omega)) (Own.cons hb16 Own.nil)
             refine Nx_loopP (k + 1, v7, M7, vN', MN', _) (is := [0, 1, 2, 7, 8, 9, 10, 11, 12, 15]) (I' := (fun (k : Nat) (vO' : Value) (MO' : Bks) (vN' : Value) (MN' : Bks) (w : World) => (k ≤ ni) ∧ (Bl w0 51 4 vO' (OO ++ (ids.take k).flatMap (rA1 far time ks ts z)).length (acs (OO ++ (ids.take k).flatMap (rA1 far time ks ts z))) MO') ∧ (Bl w0 109 4 vN' (NN ++ (ids.take k).flatMap (rK1 far ks ts z)).length (kcs (NN ++ (ids.take k).flatMap (rK1 far ks ts z))) MN') ∧ ((OO ++ (ids.take k).flatMap (rA1 far time ks ts z)).length ≤ bnd + k) ∧ ((NN ++ (ids.take k).flatMap (rK1 far ks ts z)).length ≤ bnd + k) ∧ (HS w0 w (PP ++ (MO' ++ MN')))) (k + 1) (v7) (M7) (vN') (MN') (_)) rfl rfl rfl ?_ ?_
             ·
              refine ⟨by omega, by rw [hOs]; exact hb7, ?_, by rw [hOs, List.length_append]; omega, by rw [hNs, List.length_append]; omega, hfin⟩
              rw [hNs, List.append_nil]
              exact hbN'
             ·
              omega
        ·
         obtain hkn : k = ni := by omega
         rw [List.take_of_length_le (by omega)] at hbO' hbN' hOl' hNl'
         refine W_seq ?_
         refine W_seq ?_
         refine W_region ?_
         refine L_move rfl rfl ?_
         refine L_move rfl rfl ?_
         refine L_len rfl Try.underlying38 rfl ?_
         first | refine L_lss rfl rfl rfl (dtrue (by omega)) ?_ | refine L_lss rfl rfl rfl (dfalse (by omega)) ?_ | refine L_lss rfl rfl rfl rfl ?_
         refine RL_then ?_
         refine W_if_false rfl ?_
         refine W_exit' ?_
         refine Ex_then_exit ?_
         refine Ex_loop_exit ?_
         refine Ex_block_hit ?_
         refine Nx_block ?_
         refine Nx_then ?_
         refine W_region ?_
         refine L_move rfl rfl ?_
         first | refine L_add rfl rfl rfl (wrp_i64 (by omega)) ?_ | refine L_add rfl rfl rfl rfl ?_
         refine L_assign rfl rfl ?_
         refine RL_nil' ?_
         have e1 : ((zs.take (i + 1)).flatMap fun z => (rids ks ts z.num).flatMap (rA1 far time ks ts z)) = OO ++ ids.flatMap (rA1 far time ks ts z) := by rw [flat_take (d := zn0) hlt, ← hzd, ← hOO, ← hids]
         have e2 : ((zs.take (i + 1)).flatMap fun z => (rids ks ts z.num).flatMap (rK1 far ks ts z)) = NN ++ ids.flatMap (rK1 far ks ts z) := by rw [flat_take (d := zn0) hlt, ← hzd, ← hNN, ← hids]
         have hfin : HS w0 w (LL ++ (MO' ++ MN')) := by
          rw [hPP] at hs
          exact HS.dropR (M := MI) (HS.re hs (fun c => by simp only [List.map_append, List.map_cons, List.map_nil, List.sum_append, List.sum_cons, List.sum_nil]; omega)) hbI.own
         refine Nx_loopP (i + 1, vO', MO', vN', MN', _) (is := [0, 1, 2, 7, 8, 9]) (I' := (fun (i : Nat) (vO : Value) (MO : Bks) (vN : Value) (MN : Bks) (w : World) => (i ≤ zs.length) ∧ (Bl w0 51 4 vO ((zs.take i).flatMap fun z => (rids ks ts z.num).flatMap (rA1 far time ks ts z)).length (acs ((zs.take i).flatMap fun z => (rids ks ts z.num).flatMap (rA1 far time ks ts z))) MO) ∧ (Bl w0 109 4 vN ((zs.take i).flatMap fun z => (rids ks ts z.num).flatMap (rK1 far ks ts z)).length (kcs ((zs.take i).flatMap fun z => (rids ks ts z.num).flatMap (rK1 far ks ts z))) MN) ∧ (((zs.take i).flatMap fun z => (rids ks ts z.num).flatMap (rA1 far time ks ts z)).length ≤ i * 2000000) ∧ (((zs.take i).flatMap fun z => (rids ks ts z.num).flatMap (rK1 far ks ts z)).length ≤ i * 2000000) ∧ (HS w0 w (LL ++ (MO ++ MN)))) (i + 1) (vO') (MO') (vN') (MN') (_)) rfl rfl rfl ?_ ?_
         ·
          exact ⟨by omega, by rw [e1]; exact hbO', by rw [e2]; exact hbN', by rw [e1]; omega, by rw [e2]; omega, hfin⟩
         ·
          omega
  ·
   obtain hin : i = zs.length := by omega
   rw [List.take_of_length_le (by omega)] at hbO hbN
   have hbO9 : Bl w0 51 4 vO (rTold far time zs ks ts).length (acs (rTold far time zs ks ts)) MO := hbO
   have hbN9 : Bl w0 109 4 vN (rKnown far zs ks ts).length (kcs (rKnown far zs ks ts)) MN := hbN
   clear hbO hbN
   obtain ⟨KN, hKN⟩ : ∃ KN, KN = rKnown far zs ks ts := ⟨_, rfl⟩
   rw [← hKN] at hbN9
   obtain ⟨aN, cN, rfl, _⟩ := hbN9.slice
   refine W_seq ?_
   refine W_seq ?_
   refine W_region ?_
   refine L_move rfl rfl ?_
   refine L_move rfl rfl ?_
   refine L_nilCheck rfl rfl ?_
   refine L_fieldAddr rfl (off := 1) Try.underlying107 rfl rfl Try.ti104 rfl ?_
   refine L_load rfl Try.one104 rfl (by exact HS.cellM hs hrow1 rfl) ?_
   refine L_len rfl Try.underlying104 rfl ?_
   first | refine L_lss rfl rfl rfl (dtrue (by omega)) ?_ | refine L_lss rfl rfl rfl (dfalse (by omega)) ?_ | refine L_lss rfl rfl rfl rfl ?_
   refine RL_then ?_
   refine W_if_false rfl ?_
   refine W_exit' ?_
   refine Ex_then_exit ?_
   refine Ex_loop_exit ?_
   refine Ex_block_hit ?_
   refine Nx_then ?_
   refine W_seq ?_
   have h0 : HS w0 w (((BR, Row 107 [.float .f64 far, .slice aZ zs.length cZ, .slice aK ks.length cK, .int .i64 ever]) :: ((MZ ++ (MK ++ zms zs)) ++ R)) ++ (MO ++ MN)) := by rw [hLL] at hs; exact hs
   clear hs
   have hs := h0
   clear h0
   refine W_region ?_
   refine L_move rfl rfl ?_
   refine L_move rfl rfl ?_
   refine L_nilCheck rfl rfl ?_
   refine L_fieldAddr rfl (off := 2) Try.underlying107 rfl rfl Try.ti105 rfl ?_
   refine L_store hs (i := 0) rfl Try.ti105 rfl rfl (by first | rfl | exact add_lit0 _ _ | exact Addr.add_lit .. | (rw [add_add]; exact add_lit0 _ _)) (by simp) rfl ?_
   intro w hs
   try dsimp only [List.set_cons_succ, List.set_cons_zero, List.cons_append, List.nil_append] at hs
   refine RL_then ?_
   refine W_seq ?_
   refine W_region ?_
   refine L_move rfl rfl ?_
   refine L_assign rfl rfl ?_
   refine RL_then ?_
   refine W_ret' ?_
   refine Ex_done1 rfl rfl ?_
   have h1 : HS w0 w (((BR, Row 107 [.float .f64 far, .slice aZ zs.length cZ, .slice aN KN.length cN, .int .i64 ever]) :: ((MZ ++ (MK ++ zms zs)) ++ R)) ++ (MO ++ MN)) := hs
   refine ⟨_, rfl, MO, .slice aN KN.length cN, MN, HS.dropR (M := MK) (HS.re h1 (fun c => by simp only [List.map_append, List.map_cons, List.map_nil, List.sum_append, List.sum_cons, List.sum_nil]; omega)) hbK.own, hbO9, ?_⟩
   rw [← hKN]
   exact ⟨hN.ownB, hbZ, hbN9, hN.each, hN.len⟩
end Go.Proofs.Ytoiobncojfeoiaa
