/-
  A part of the proof: laws for walks, and plain laws, over any program of the model. Each theorem holds under its own premises alone.
-/
import Derived.Test.YtffobakdngbadaaGreatKit
import Derived.Test.YtffobakdngbadaaGreatP7
import Derived.Test.YtffobakdngbadaaGreatP8
import Derived.Test.YtffobakdngbadaaGreatP1
import Derived.Test.YtffobakdngbadaaGreatKitQ
namespace Go.Proofs.YtffobakdngbadaaGreat
open Go Go.Lk
def bc (s : Nat) : Nat -> Nat
 | 0 => 0
 | n + 1 => bc s n + (s / 2 ^ n) % 2
theorem pop_bc' : ∀ m, m < 256 -> popT m = bc m 8 := by decide +kernel
theorem bc_mod (s k : Nat) : ∀ n, n <= k -> bc (s % 2 ^ k) n = bc s n
 | 0, _ => rfl
 | n + 1, h => by
  show bc (s % 2 ^ k) n + (s % 2 ^ k / 2 ^ n) % 2 = bc s n + (s / 2 ^ n) % 2
  rw [bc_mod s k n (by omega)]
  congr 1
  have h1 : (s % 2 ^ k).testBit n = s.testBit n := by rw [Nat.testBit_mod_two_pow]; simp; omega
  rw [Nat.testBit_eq_decide_div_mod_eq, Nat.testBit_eq_decide_div_mod_eq] at h1
  have h2 := Nat.mod_two_eq_zero_or_one (s % 2 ^ k / 2 ^ n)
  have h3 := Nat.mod_two_eq_zero_or_one (s / 2 ^ n)
  rcases h2 with h2 | h2 <;> rcases h3 with h3 | h3 <;> rw [h2, h3] at h1 ⊢ <;> exact absurd h1 (by decide)
theorem bc_shift (s k : Nat) : ∀ n, bc s (k + n) = bc s k + bc (s / 2 ^ k) n
 | 0 => rfl
 | n + 1 => by
  show bc s (k + n) + (s / 2 ^ (k + n)) % 2 = bc s k + (bc (s / 2 ^ k) n + (s / 2 ^ k / 2 ^ n) % 2)
  rw [bc_shift s k n, Nat.div_div_eq_div_mul, <- Nat.pow_add]; omega
theorem bc_high {s k : Nat} (h : s < 2 ^ k) : ∀ n, bc s (k + n) = bc s k
 | 0 => rfl
 | n + 1 => by
  show bc s (k + n) + (s / 2 ^ (k + n)) % 2 = bc s k
  rw [bc_high h n, Nat.div_eq_of_lt (Nat.lt_of_lt_of_le h (Nat.pow_le_pow_right (by decide) (by omega)))]
  rfl
theorem low_bc {s n : Nat} (hs : s < 65536) (hn : n <= 16) : lowF s n = bc s n := by
 unfold lowF popF
 obtain ⟨m, hm⟩ : ∃ m, m = s % 2 ^ n := ⟨_, rfl⟩
 have hml : m < 2 ^ n := by rw [hm]; exact Nat.mod_lt _ (Nat.two_pow_pos n)
 have h16 : m < 65536 := Nat.lt_of_lt_of_le hml (by have := Nat.pow_le_pow_right (n := 2) (by decide) hn; exact this)
 rw [<- hm, pop_bc' (m / 256) (by omega), pop_bc' (m % 256) (by omega)]
 have e1 : bc (m % 256) 8 = bc m 8 := bc_mod m 8 8 (by omega)
 have e2 : bc m 16 = bc m 8 + bc (m / 256) 8 := bc_shift m 8 8
 have e3 : bc m 16 = bc m n := by
  have := bc_high hml (16 - n)
  rwa [show n + (16 - n) = 16 by omega] at this
 have e4 : bc m n = bc s n := by rw [hm]; exact bc_mod s n n (Nat.le_refl _)
 omega
theorem bc_le (s : Nat) : ∀ n, bc s n <= n
 | 0 => Nat.le_refl _
 | n + 1 => by
  have := bc_le s n
  show bc s n + (s / 2 ^ n) % 2 <= n + 1
  omega
def jnY (r : Rul) (t : Trk) : Int := if r.miss <= t.steps /\ lowF t.seen r.miss.toNat = 0 then 2 else if t.kind = 1 ∨ r.need <= (lowF t.seen r.of.toNat : Int) then 1 else 0
theorem bc_step (s i m : Nat) : bc s (min (i + 1) m) = bc s (min i m) + if i < m then (s / 2 ^ i) % 2 else 0 := by
 by_cases h : i < m
 ·
  rw [if_pos h, show min (i + 1) m = i + 1 by omega, show min i m = i by omega]; rfl
 rw [if_neg h, show min (i + 1) m = min i m by omega]; rfl
theorem shr_i (s i : Nat) (hi : i < 16) : ((s : Nat) : Int).fdiv (2 ^ (min ((i : Nat) : Int).toNat (IntKind.bits .u16))) = ((s / 2 ^ i : Nat) : Int) := by
 rw [show min ((i : Nat) : Int).toNat (IntKind.bits .u16) = i by show min i 16 = i; omega, Int.fdiv_eq_ediv_of_nonneg _ (by have := Int.pow_pos (n := 2) (m := i) (by decide); omega)]
 have : ((2 : Int) ^ i) = ((2 ^ i : Nat) : Int) := by rw [Int.natCast_pow]; rfl
 rw [this, Int.natCast_ediv]
set_option maxHeartbeats 1000000 in
theorem rkind_ok (w0 w : World) (B : Nat) (r : Rul) (rest : List Value) (t : Trk) (L : Bks) (hs : HS w0 w L) (hB : (B, Row 70 (r.cells ++ rest)) ∈ L) (hr : RulOk r) (hse : t.seen < 65536) :
  Ret Tryz.prog 55 [.pointer (some ⟨B, 0, none⟩), .agg t.cells.toArray] w fun v w' => v = .int .i8 (jnY r t) /\ HS w0 w' L := by
 obtain ⟨m, hm⟩ : ∃ m : Nat, r.miss = (m : Int) := ⟨r.miss.toNat, by have := hr.miss1; omega⟩
 obtain ⟨f, hf⟩ : ∃ f : Nat, r.of = (f : Int) := ⟨r.of.toNat, by have := hr.of1; omega⟩
 have hm16 : m <= 16 := by have := hr.miss16; omega
 have hf16 : f <= 16 := by have := hr.of16; omega
 have hne := hr.need1
 have hg : ∀ {w' : World} {x : Nat × Obj} {j : Nat} {v : Value}, HS w0 w' (x :: L) -> (r.cells ++ rest)[j]? = some v -> w'.cell? ((Addr.mk B 0 none).add j) = some v := fun h1 h2 => jb6 h1 (List.mem_cons_of_mem _ hB) h2
 refine ja7 Tryz.func55 rfl rfl rfl (Wq ?_)
 refine jeH rfl hs rfl ?_; intro b3 w hb3 _ hs; replace hs := HS.push hs
 refine La rfl (Rq (La rfl (Rq (La rfl (Rqq (La rfl (Rt (ja4 (jd8 (fun (i : Nat) (w : World) => [(0, .pointer (some ⟨B, 0, none⟩)), (3, .pointer (some ⟨b3, 0, none⟩)), (5, .int .i64 (bc t.seen (min i m) : Nat)), (6, .int .i64 (bc t.seen (min i f) : Nat)), (7, .int .i64 i)]) (fun i w => w) (fun i w => (i <= 16) /\ (HS w0 w ((b3, Row 51 t.cells) :: L))) (fun i w => 16 - i) (0) (_) (is := [0, 3, 5, 6, 7]) rfl rfl ?_ ?_)))))))))
 ·
  exact ⟨by decide, hs⟩
 clear hs
 intro i w hI
 show W _ _ _ _ [(0, .pointer (some ⟨B, 0, none⟩)), (3, .pointer (some ⟨b3, 0, none⟩)), (5, .int .i64 (bc t.seen (min i m) : Nat)), (6, .int .i64 (bc t.seen (min i f) : Nat)), (7, .int .i64 i)] w
 obtain ⟨hi, hs⟩ := hI
 by_cases hlt : i < 16
 ·
  have b1 := bc_le t.seen (min i m)
  have b2 := bc_le t.seen (min i f)
  have s1 := bc_step t.seen i m
  have s2 := bc_step t.seen i f
  have hmod : ((t.seen / 2 ^ i : Nat) : Int).tmod 2 = ((t.seen / 2 ^ i % 2 : Nat) : Int) := rfl
  rcases Nat.mod_two_eq_zero_or_one (t.seen / 2 ^ i) with hb | hb
  ·
   rw [hb] at hmod
   refine Wqq (Lm rfl (jaZ rfl (jaF (by omega)) ?_))
   refine Rt (Wt rfl (Ws (Wsq (ja4 (Wqq (Lf 12 jcC rfl i_49 (Ll o_49 rfl (by exact hs.cellA (i := 0) (j := 12) rfl rfl) ?_)))))))
   refine Lm rfl (jaT rfl (R_shr rfl rfl (by omega) (shr_i t.seen i hlt)) ?_)
   refine L_rem rfl rfl rfl (by omega) ?_
   refine jdS rfl (jaF (by rw [hmod]; rfl)) ?_
   refine Rt (Wt rfl (jcG 5 (v' := .int .i64 (bc t.seen (min (i + 1) m) : Nat)) rfl ((by rw [s1, hb, show (if i < m then 0 else 0) = 0 by split <;> rfl, Nat.add_zero])) ?_))
   refine jcG 6 (v' := .int .i64 (bc t.seen (min (i + 1) f) : Nat)) rfl ((by rw [s2, hb, show (if i < f then 0 else 0) = 0 by split <;> rfl, Nat.add_zero])) ?_
   refine jaK (ja0 (ja1 (Nt (Wr (Lm rfl (jbG rfl (ja3 (by omega)) ?_))))))
   refine La rfl (Rnl (Nq (i + 1, _) [0, 3, 5, 6, 7] rfl ?_ ?_))
   ·
    dsimp only
    exact ⟨by omega, hs⟩
   show 16 - (i + 1) < 16 - i; omega
  rw [hb] at hmod
  refine Wqq (Lm rfl (jaZ rfl (jaF (by omega)) ?_))
  refine Rt (Wt rfl (Ws (Wsq (ja4 (Wqq (Lf 12 jcC rfl i_49 (Ll o_49 rfl (by exact hs.cellA (i := 0) (j := 12) rfl rfl) ?_)))))))
  refine Lm rfl (jaT rfl (R_shr rfl rfl (by omega) (shr_i t.seen i hlt)) ?_)
  refine L_rem rfl rfl rfl (by omega) ?_
  refine jdS rfl (jaA (by rw [hmod]; decide)) ?_
  refine Rt (Wf rfl ?_)
  by_cases hm' : i < m
  ·
   refine Ws (Wqq (Lmm rfl rfl (Ln rfl (Lf 0 jeK rfl jfP (Lf 5 jbM rfl i_3 ?_)))))
   refine Ll o_3 rfl (by (rw [jaR]; exact hg hs (j := 5) rfl)) ?_
   refine jaZ rfl (jaF (by omega)) ?_
   refine Rt (Wt rfl (Wr (Lm rfl (jbG rfl (ja3 (by omega)) ?_))))
   refine La rfl (Rt (Wsq ?_))
   refine jcG 5 (v' := .int .i64 (bc t.seen (min (i + 1) m) : Nat)) rfl ((by rw [s1, hb, if_pos hm']; rfl)) ?_
   by_cases hf' : i < f
   ·
    refine Wr (Lmm rfl rfl (Ln rfl (Lf 0 jeK rfl jfP (Lf 4 jbM rfl i_3 ?_))))
    refine Ll o_3 rfl (by (rw [jaR]; exact hg hs (j := 4) rfl)) ?_
    refine jaZ rfl (jaF (by omega)) ?_
    refine Rt (Wt rfl (Wr (Lm rfl (jbG rfl (ja3 (by omega)) ?_))))
    refine La rfl (Rnl (jaB (Nt (Wr (Lm rfl (jbG rfl (ja3 (by omega)) ?_))))))
    refine La rfl (Rnl ?_)
    refine Nx_set 6 (v' := .int .i64 (bc t.seen (min (i + 1) f) : Nat)) rfl ((by rw [s2, hb, if_pos hf']; rfl)) ?_
    refine Nq (i + 1, _) [0, 3, 5, 6, 7] rfl ?_ ?_
    ·
     dsimp only
     exact ⟨by omega, hs⟩
    show 16 - (i + 1) < 16 - i; omega
   refine Wr (Lmm rfl rfl (Ln rfl (Lf 0 jeK rfl jfP (Lf 4 jbM rfl i_3 ?_))))
   refine Ll o_3 rfl (by (rw [jaR]; exact hg hs (j := 4) rfl)) ?_
   refine jaZ rfl (jaA (by omega)) ?_
   refine Rt (Wf rfl (jcG 6 (v' := .int .i64 (bc t.seen (min (i + 1) f) : Nat)) rfl ((by rw [s2, hb, if_neg hf', Nat.add_zero])) ?_))
   refine jaY (jaB (Nt (Wr (Lm rfl (jbG rfl (ja3 (by omega)) ?_)))))
   refine La rfl (Rnl (Nq (i + 1, _) [0, 3, 5, 6, 7] rfl ?_ ?_))
   ·
    dsimp only
    exact ⟨by omega, hs⟩
   show 16 - (i + 1) < 16 - i; omega
  refine Ws (Wqq (Lmm rfl rfl (Ln rfl (Lf 0 jeK rfl jfP (Lf 5 jbM rfl i_3 ?_)))))
  refine Ll o_3 rfl (by (rw [jaR]; exact hg hs (j := 5) rfl)) ?_
  refine jaZ rfl (jaA (by omega)) ?_
  refine Rt (Wf rfl (Ws (Wsq (jcG 5 (v' := .int .i64 (bc t.seen (min (i + 1) m) : Nat)) rfl ((by rw [s1, hb, if_neg hm', Nat.add_zero])) ?_))))
  by_cases hf' : i < f
  ·
   refine Wr (Lmm rfl rfl (Ln rfl (Lf 0 jeK rfl jfP (Lf 4 jbM rfl i_3 ?_))))
   refine Ll o_3 rfl (by (rw [jaR]; exact hg hs (j := 4) rfl)) ?_
   refine jaZ rfl (jaF (by omega)) ?_
   refine Rt (Wt rfl (Wr (Lm rfl (jbG rfl (ja3 (by omega)) ?_))))
   refine La rfl (Rnl (jaB (Nt (Wr (Lm rfl (jbG rfl (ja3 (by omega)) ?_))))))
   refine La rfl (Rnl ?_)
   refine Nx_set 6 (v' := .int .i64 (bc t.seen (min (i + 1) f) : Nat)) rfl ((by rw [s2, hb, if_pos hf']; rfl)) ?_
   refine Nq (i + 1, _) [0, 3, 5, 6, 7] rfl ?_ ?_
   ·
    dsimp only
    exact ⟨by omega, hs⟩
   show 16 - (i + 1) < 16 - i; omega
  refine Wr (Lmm rfl rfl (Ln rfl (Lf 0 jeK rfl jfP (Lf 4 jbM rfl i_3 ?_))))
  refine Ll o_3 rfl (by (rw [jaR]; exact hg hs (j := 4) rfl)) ?_
  refine jaZ rfl (jaA (by omega)) ?_
  refine Rt (Wf rfl (jcG 6 (v' := .int .i64 (bc t.seen (min (i + 1) f) : Nat)) rfl ((by rw [s2, hb, if_neg hf', Nat.add_zero])) ?_))
  refine jaY (jaB (Nt (Wr (Lm rfl (jbG rfl (ja3 (by omega)) ?_)))))
  refine La rfl (Rnl (Nq (i + 1, _) [0, 3, 5, 6, 7] rfl ?_ ?_))
  ·
   dsimp only
   exact ⟨by omega, hs⟩
  show 16 - (i + 1) < 16 - i; omega
 obtain rfl : i = 16 := by omega
 refine Wqq (Lm rfl (jaZ rfl (jaA (by omega)) ?_))
 refine Rt (Wf rfl ?_)
 rw [show min 16 m = m by omega, show min 16 f = f by omega]
 have em : lowF t.seen r.miss.toNat = bc t.seen m := by rw [hm]; exact low_bc hse hm16
 have ef : lowF t.seen r.of.toNat = bc t.seen f := by rw [hf]; exact low_bc hse hf16
 obtain ⟨x, hx⟩ : ∃ x, x = bc t.seen m := ⟨_, rfl⟩
 obtain ⟨y, hy⟩ : ∃ y, y = bc t.seen f := ⟨_, rfl⟩
 rw [<- hx] at em ⊢
 rw [<- hy] at ef ⊢
 have hK : jnY r t = if r.miss <= t.steps /\ x = 0 then 2 else if t.kind = 1 ∨ r.need <= (y : Int) then 1 else 0 := by unfold jnY; rw [em, ef]
 rw [hK]
 have hpop : ∀ {w' : World}, HS w0 w' ((b3, Row 51 t.cells) :: L) -> HS w0 w' L := fun h => HS.pop h hb3
 refine jaK (ja0 (ja8 (ja1 (Nt (Wsq (Wsq ?_))))))
 by_cases c1 : r.miss <= t.steps
 ·
  by_cases c2 : x = 0
  ·
   refine jcH [0, 2, 3, 4, 5] [1, 6, 7, 8, 9, 10, 11] [] (fun _ _ _ => False) Tryz.mixed (by kernel_rfl) (fun _ _ _ _ _ h => h) hs ?_
   refine Pfa 13 jcC rfl i_3 (Pm rfl (Pn rfl (Pfa 0 jeK rfl jfP (Pfa 5 jbM rfl i_3 (jbH (Hv rfl (fun w hs => jaN o_3 rfl (by exact hs.cellA (i := 0) (j := 13) rfl rfl)) ?_))))))
   refine Hl o_3 rfl (fun w hs => (by (rw [jaR]; exact hg hs (j := 5) rfl))) ?_
   refine Hv rfl (fun w hs => jpU rfl rfl (jaF (by omega))) ?_
   refine Hm rfl (Hw rfl rfl (Hm rfl (Hw rfl rfl (Hv rfl (fun w hs => R_eql rfl rfl (jaF (by omega))) ?_))))
   refine Hv rfl (fun w hs => jf7 rfl rfl) ?_
   refine jb2 ?_
   intro w hs
   refine Rt (Wt rfl (Wq (La rfl (Rt (jaW (ja2 (ja9 rfl rfl ?_)))))))
   exact ⟨_, rfl, by rw [if_pos ⟨c1, c2⟩], hpop hs⟩
  rw [if_neg (fun h => c2 h.2)]
  refine jcH [0, 2, 3, 4, 5] [1, 6, 7, 8, 9, 10, 11] [] (fun _ _ _ => False) Tryz.mixed (by kernel_rfl) (fun _ _ _ _ _ h => h) hs ?_
  refine Pfa 13 jcC rfl i_3 (Pm rfl (Pn rfl (Pfa 0 jeK rfl jfP (Pfa 5 jbM rfl i_3 (jbH (Hv rfl (fun w hs => jaN o_3 rfl (by exact hs.cellA (i := 0) (j := 13) rfl rfl)) ?_))))))
  refine Hl o_3 rfl (fun w hs => (by (rw [jaR]; exact hg hs (j := 5) rfl))) ?_
  refine Hv rfl (fun w hs => jpU rfl rfl (jaF (by omega))) ?_
  refine Hm rfl (Hw rfl rfl (Hm rfl (Hw rfl rfl (Hv rfl (fun w hs => R_eql rfl rfl (jaA (by omega))) ?_))))
  refine Hv rfl (fun w hs => jf7 rfl rfl) ?_
  refine jb2 ?_
  intro w hs
  refine Rt (Wf rfl ?_)
  by_cases c3 : t.kind = 1
  ·
   refine Ws (Wqq (Lf 1 jcC rfl jmS (Ll o_46 rfl (by exact hs.cellA (i := 0) (j := 1) rfl rfl) ?_)))
   refine jdS rfl (jaF (by omega)) ?_
   refine Lm rfl (Rs rfl (Rs rfl (Rs rfl (Rs rfl (Rs rfl (Rs rfl (Rs rfl (Lpt rfl (Rt (Wt rfl (Wq (La rfl (Rt (jaW (ja2 (ja9 rfl rfl ?_))))))))))))))))
   exact ⟨_, rfl, by rw [if_pos (.inl c3)], hpop hs⟩
  by_cases c4 : r.need <= (y : Int)
  ·
   refine Ws (Wqq (Lf 1 jcC rfl jmS (Ll o_46 rfl (by exact hs.cellA (i := 0) (j := 1) rfl rfl) ?_)))
   refine jdS rfl (jaA (by omega)) ?_
   refine Lm rfl (Gm rfl rfl (Gm rfl rfl (Rw rfl (Ln rfl (Rw rfl (Lf 0 jeK rfl jfP (Rw rfl (Lf 3 jbM rfl i_3 (Rw rfl ?_)))))))))
   refine Ll o_3 rfl (by (rw [jaR]; exact hg hs (j := 3) rfl)) ?_
   refine Rw rfl (jgM rfl (jaF (by omega)) ?_)
   refine Lpf rfl (Rt (Wt rfl (Wq (La rfl (Rt (jaW (ja2 (ja9 rfl rfl ?_))))))))
   exact ⟨_, rfl, by rw [if_pos (.inr c4)], hpop hs⟩
  refine Ws (Wqq (Lf 1 jcC rfl jmS (Ll o_46 rfl (by exact hs.cellA (i := 0) (j := 1) rfl rfl) ?_)))
  refine jdS rfl (jaA (by omega)) ?_
  refine Lm rfl (Gm rfl rfl (Gm rfl rfl (Rw rfl (Ln rfl (Rw rfl (Lf 0 jeK rfl jfP (Rw rfl (Lf 3 jbM rfl i_3 (Rw rfl ?_)))))))))
  refine Ll o_3 rfl (by (rw [jaR]; exact hg hs (j := 3) rfl)) ?_
  refine Rw rfl (jgM rfl (jaA (by omega)) ?_)
  refine Lpf rfl (Rt (Wf rfl (Ws (Wq (La rfl (Rt (jaW (ja9 rfl rfl ?_))))))))
  exact ⟨_, rfl, by rw [if_neg (fun h => h.elim c3 c4)], hpop hs⟩
 rw [if_neg (fun h => c1 h.1)]
 refine jcH [0, 2, 3, 4, 5] [1, 6, 7, 8, 9, 10, 11] [] (fun _ _ _ => False) Tryz.mixed (by kernel_rfl) (fun _ _ _ _ _ h => h) hs ?_
 refine Pfa 13 jcC rfl i_3 (Pm rfl (Pn rfl (Pfa 0 jeK rfl jfP (Pfa 5 jbM rfl i_3 (jbH (Hv rfl (fun w hs => jaN o_3 rfl (by exact hs.cellA (i := 0) (j := 13) rfl rfl)) ?_))))))
 refine Hl o_3 rfl (fun w hs => (by (rw [jaR]; exact hg hs (j := 5) rfl))) ?_
 refine Hv rfl (fun w hs => jpU rfl rfl (jaA (by omega))) ?_
 refine Hm rfl (jaU rfl rfl rfl rfl (jaU rfl rfl rfl rfl (Hv rfl (fun w hs => jf8 rfl rfl) ?_)))
 refine jb2 ?_
 intro w hs
 refine Rt (Wf rfl ?_)
 by_cases c3 : t.kind = 1
 ·
  refine Ws (Wqq (Lf 1 jcC rfl jmS (Ll o_46 rfl (by exact hs.cellA (i := 0) (j := 1) rfl rfl) ?_)))
  refine jdS rfl (jaF (by omega)) ?_
  refine Lm rfl (Rs rfl (Rs rfl (Rs rfl (Rs rfl (Rs rfl (Rs rfl (Rs rfl (Lpt rfl (Rt (Wt rfl (Wq (La rfl (Rt (jaW (ja2 (ja9 rfl rfl ?_))))))))))))))))
  exact ⟨_, rfl, by rw [if_pos (.inl c3)], hpop hs⟩
 by_cases c4 : r.need <= (y : Int)
 ·
  refine Ws (Wqq (Lf 1 jcC rfl jmS (Ll o_46 rfl (by exact hs.cellA (i := 0) (j := 1) rfl rfl) ?_)))
  refine jdS rfl (jaA (by omega)) ?_
  refine Lm rfl (Gm rfl rfl (Gm rfl rfl (Rw rfl (Ln rfl (Rw rfl (Lf 0 jeK rfl jfP (Rw rfl (Lf 3 jbM rfl i_3 (Rw rfl ?_)))))))))
  refine Ll o_3 rfl (by (rw [jaR]; exact hg hs (j := 3) rfl)) ?_
  refine Rw rfl (jgM rfl (jaF (by omega)) ?_)
  refine Lpf rfl (Rt (Wt rfl (Wq (La rfl (Rt (jaW (ja2 (ja9 rfl rfl ?_))))))))
  exact ⟨_, rfl, by rw [if_pos (.inr c4)], hpop hs⟩
 refine Ws (Wqq (Lf 1 jcC rfl jmS (Ll o_46 rfl (by exact hs.cellA (i := 0) (j := 1) rfl rfl) ?_)))
 refine jdS rfl (jaA (by omega)) ?_
 refine Lm rfl (Gm rfl rfl (Gm rfl rfl (Rw rfl (Ln rfl (Rw rfl (Lf 0 jeK rfl jfP (Rw rfl (Lf 3 jbM rfl i_3 (Rw rfl ?_)))))))))
 refine Ll o_3 rfl (by (rw [jaR]; exact hg hs (j := 3) rfl)) ?_
 refine Rw rfl (jgM rfl (jaA (by omega)) ?_)
 refine Lpf rfl (Rt (Wf rfl (Ws (Wq (La rfl (Rt (jaW (ja9 rfl rfl ?_))))))))
 exact ⟨_, rfl, by rw [if_neg (fun h => h.elim c3 c4)], hpop hs⟩
def oM (o : On) : Bks := o.Mx ++ o.My
structure On.okD (w0 : World) (o : On) : Prop where
 bx : Bo w0 48 5 o.vx o.xs.length (scs o.xs) o.Mx
 by' : Bo w0 48 5 o.vy o.ys.length (scs o.ys) o.My
 seen : o.t.seen < 65536
 kind : o.t.kind = 0 ∨ o.t.kind = 1 ∨ o.t.kind = 2
 lx : o.xs.length <= 1024
 ly : o.ys.length = o.xs.length
theorem On.okD.own {w0 : World} {o : On} (h : o.okD w0) : Own w0 (oM o) := h.bx.own.app h.by'.own
set_option maxHeartbeats 2000000 in
theorem keep_ok (w0 w : World) (b : Nat) (o : On) (L : Bks) (hs : HS w0 w ((b, Row 103 o.cells) :: (L ++ oM o))) (hb : w0.heap.size <= b) (ho : o.okD w0) (hL : Own w0 L) :
  Ret Tryz.prog 56 [.pointer (some ⟨b, 0, none⟩)] w fun _ w' => ∃ o' : On, o'.p = o.p /\ o'.c = o.c /\ o'.t = o.t /\ o'.xs = jeX (o.xs ++ [o.t.x]) /\ o'.ys = jeX (o.ys ++ [o.t.y]) /\ HS w0 w' ((b, Row 103 o'.cells) :: (L ++ oM o')) /\ o'.okD w0 := by
 have hbx := ho.bx
 have hby := ho.by'
 have hlx := ho.lx
 have hly := ho.ly
 obtain ⟨p, t, vx, Mx, xs, vy, My, ys, c⟩ := o
 obtain ⟨C, hC⟩ : ∃ C, C = L ++ My := ⟨_, rfl⟩
 have hCo : Own w0 C := by rw [hC]; exact hL.app hby.own
 have h1 : HS w0 w ((b, Row 103 (On.cells ⟨p, t, vx, Mx, xs, vy, My, ys, c⟩)) :: (C ++ Mx)) := by
  rw [hC]
  exact HS.re (L := (b, Row 103 (On.cells ⟨p, t, vx, Mx, xs, vy, My, ys, c⟩)) :: (L ++ (Mx ++ My))) hs (fun c => by simp only [mpA, mpC, mpN, smA, smC, smN]; omega)
 clear hs
 have hs := h1
 clear h1
 refine ja7 Tryz.func56 rfl rfl rfl (Wsq (jqD Tryz.mixed ?_))
 replace hs := hs.drewN 1
 refine jbR [0, 1, 2, 3, 5, 6, 7, 8] [4, 9, 10] [11, 12, 13, 14] (jmZ (fun _ _ _ => False)) (g' := 0) (by kernel_rfl) (by kernel_rfl) (fun _ _ _ _ _ h => h) hs ?_
 refine Pm rfl (Pm rfl (Pn rfl (Pfa 15 jc9 rfl jn1 (Pm rfl (Pn rfl (Pfa 0 jc9 rfl jcE (Pfa 2 jcC rfl jbP (jd0 (jaP rfl (fun w R hR hs => jaN o_55 rfl (by exact hs.cellA (i := 0) (j := 15) rfl rfl)) ?_)))))))))
 refine jaP rfl (fun w R hR hs => jcL jfY jbP rfl (by (rw [jaR]; exact jaX (n := 5) (cs := t.x.cells) (hs.get (i := 0) rfl) rfl))) ?_
 refine jkV rfl jkX jbP rfl (by decide) rfl (by simp [Value.cells, Stt.cells]) ?_
 intro b12 hb12
 refine jcU ?_
 intro w hs
 have h0 : HS w0 w (((b, Row 103 (On.cells ⟨p, t, vx, Mx, xs, vy, My, ys, c⟩)) :: (C ++ Mx)) ++ ([] ++ [(b12, Row 48 t.x.cells)])) := by
  have := hs
  simp only [List.flatMap_cons, List.flatMap_nil, List.append_nil] at this
  exact this
 clear hs
 have hs : HS w0 w ((((b, Row 103 (On.cells ⟨p, t, vx, Mx, xs, vy, My, ys, c⟩)) :: C) ++ Mx) ++ [(b12, Row 48 t.x.cells)]) := h0
 clear h0
 refine jpK (L := (b, Row 103 (On.cells ⟨p, t, vx, Mx, xs, vy, My, ys, c⟩)) :: C) rfl jkX jbP rfl hs hb12 hbx rfl rfl rfl (Stt.one _) (by have : xs.length <= 1024 := hlx; omega) (by have : xs.length <= 1024 := hlx; omega) ?_
 intro vx' w Mx' hs hbx'
 obtain ⟨ax, cx, rfl, hcx⟩ := hbx'.slice
 refine Ln rfl (Lf 15 jc9 rfl jn1 (jaH hs (i := 0) rfl jn1 rfl rfl (by rfl) (by simp [On.cells]) rfl ?_))
 intro w hs
 dsimp only [sS, sZ, sA, sN] at hs
 refine jg5 (jdW (by kernel_rfl) ?_)
 refine Nt (Wsq ?_)
 replace hs : HS w0 w ((b, Row 103 (On.cells ⟨p, t, .slice ax (xs.length + 1) cx, Mx', xs ++ [t.x], vy, My, ys, c⟩)) :: ((L ++ Mx') ++ My)) := by
  have h2 : HS w0 w ((b, Row 103 (On.cells ⟨p, t, .slice ax (xs.length + 1) cx, Mx', xs ++ [t.x], vy, My, ys, c⟩)) :: (C ++ Mx')) := by
   first
    | exact hs
    | (have := hs; simp only [List.append_nil] at this; exact this)
  rw [hC] at h2
  exact HS.re h2 (fun c => by simp only [mpA, mpC, mpN, smA, smC, smN]; omega)
 obtain ⟨D, hD⟩ : ∃ D, D = L ++ Mx' := ⟨_, rfl⟩
 rw [<- hD] at hs
 refine jqD Tryz.mixed ?_
 replace hs := hs.drewN 1
 refine jbR [0, 1, 2, 3, 5, 6, 7, 8] [4, 9, 10] [11, 12, 13, 14] (jmZ (fun _ _ _ => False)) (g' := 0) (by kernel_rfl) (by kernel_rfl) (fun _ _ _ _ _ h => h) hs ?_
 refine Pm rfl (Pm rfl (Pn rfl (Pfa 16 jc9 rfl jn1 (Pm rfl (Pn rfl (Pfa 0 jc9 rfl jcE (Pfa 7 jcC rfl jbP (jd0 (jaP rfl (fun w R hR hs => jaN o_55 rfl (by exact hs.cellA (i := 0) (j := 16) rfl rfl)) ?_)))))))))
 refine jaP rfl (fun w R hR hs => jcL jfY jbP rfl (by (rw [jaR]; exact jaX (n := 5) (cs := t.y.cells) (hs.get (i := 0) rfl) rfl))) ?_
 refine jkV rfl jkX jbP rfl (by decide) rfl (by simp [Value.cells, Stt.cells]) ?_
 intro b26 hb26
 refine jcU ?_
 intro w hs
 have h0 : HS w0 w ((((b, Row 103 (On.cells ⟨p, t, .slice ax (xs.length + 1) cx, Mx', xs ++ [t.x], vy, My, ys, c⟩)) :: D) ++ My) ++ [(b26, Row 48 t.y.cells)]) := by
  have := hs
  simp only [List.flatMap_cons, List.flatMap_nil, List.append_nil, List.nil_append] at this
  exact this
 clear hs
 have hs := h0
 clear h0
 refine jpK (L := (b, Row 103 (On.cells ⟨p, t, .slice ax (xs.length + 1) cx, Mx', xs ++ [t.x], vy, My, ys, c⟩)) :: D) rfl jkX jbP rfl hs hb26 hby rfl rfl rfl (Stt.one _) (by have : xs.length <= 1024 := hlx; have : ys.length = xs.length := hly; omega) (by have : xs.length <= 1024 := hlx; have : ys.length = xs.length := hly; omega) ?_
 intro vy' w My' hs hby'
 obtain ⟨ay, cy, rfl, hcy⟩ := hby'.slice
 refine Ln rfl (Lf 16 jc9 rfl jn1 (jaH hs (i := 0) rfl jn1 rfl rfl (by rfl) (by simp [On.cells]) rfl ?_))
 intro w hs
 dsimp only [sS, sZ, sA, sN] at hs
 refine jg5 (jdW (by kernel_rfl) ?_)
 refine Nt (Wsq ?_)
 replace hs : HS w0 w ((b, Row 103 (On.cells ⟨p, t, .slice ax (xs.length + 1) cx, Mx', xs ++ [t.x], (.slice ay (ys.length + 1) cy), My', ys ++ [t.y], c⟩)) :: (L ++ (Mx' ++ My'))) := by
  have h2 : HS w0 w ((b, Row 103 (On.cells ⟨p, t, .slice ax (xs.length + 1) cx, Mx', xs ++ [t.x], (.slice ay (ys.length + 1) cy), My', ys ++ [t.y], c⟩)) :: (D ++ My')) := by
   first
    | exact hs
    | (have := hs; simp only [List.append_nil] at this; exact this)
  rw [hD] at h2
  exact HS.re h2 (fun c => by simp only [mpA, mpC, mpN, smA, smC, smN]; omega)
 have hl' : xs.length <= 1024 := hlx
 have hly' : ys.length = xs.length := hly
 by_cases hfull : xs.length + 1 <= 1024
 ·
  refine Wr (Lm rfl (Ln rfl (Lf 15 jc9 rfl jn1 (Ll o_55 rfl (by exact hs.cellA (i := 0) (j := 15) rfl rfl) ?_))))
  refine Le jkX rfl (jgY rfl (jaA (by omega)) ?_)
  refine Rt (Wf rfl (jaY (jg0 rfl ?_)))
  have ex : jeX (xs ++ [t.x]) = xs ++ [t.x] := jhM (by rw [List.length_append]; exact hfull)
  have ey : jeX (ys ++ [t.y]) = ys ++ [t.y] := jhM (by rw [List.length_append, hly']; exact hfull)
  refine ⟨_, rfl, ⟨p, t, .slice ax (xs.length + 1) cx, Mx', xs ++ [t.x], (.slice ay (ys.length + 1) cy), My', ys ++ [t.y], c⟩, rfl, rfl, rfl, ex.symm, ey.symm, hs, ?_, ?_, ho.seen, ho.kind, ?_, ?_⟩
  ·
   show Bo w0 48 5 (.slice ax (xs.length + 1) cx) (xs ++ [t.x]).length (scs (xs ++ [t.x])) Mx'
   rw [List.length_append, jnF, jnE]
   exact hbx'
  ·
   show Bo w0 48 5 (.slice ay (ys.length + 1) cy) (ys ++ [t.y]).length (scs (ys ++ [t.y])) My'
   rw [List.length_append, jnF, jnE]
   exact hby'
  ·
   show (xs ++ [t.x]).length <= 1024
   rw [List.length_append]; exact hfull
  show (ys ++ [t.y]).length = (xs ++ [t.x]).length
  rw [List.length_append, List.length_append, hly']; rfl
 refine Wr (Lm rfl (Ln rfl (Lf 15 jc9 rfl jn1 (Ll o_55 rfl (by exact hs.cellA (i := 0) (j := 15) rfl rfl) ?_))))
 refine Le jkX rfl (jgY rfl (jaF (by omega)) ?_)
 refine Rt (Wt rfl (Wq (Lmm rfl rfl (Ln rfl (Lf 15 jc9 rfl jn1 (Ll o_55 rfl (by exact hs.cellA (i := 0) (j := 15) rfl rfl) ?_))))))
 refine jaT rfl (jgG jkX jbP rfl rfl (show (1 : Int) = ((1 : Nat) : Int) from rfl) ⟨Nat.le_add_left 1 _, hcx⟩) (Ln rfl (Lf 15 jc9 rfl jn1 (jaH hs (i := 0) rfl jn1 rfl rfl (by rfl) (by simp [On.cells]) rfl ?_)))
 intro w hs
 dsimp only [sS, sZ, sA, sN] at hs
 refine Rr (Lmm rfl rfl (Ln rfl (Lf 16 jc9 rfl jn1 (Ll o_55 rfl (by exact hs.cellA (i := 0) (j := 16) rfl rfl) ?_))))
 refine jaT rfl (jgG jkX jbP rfl rfl (show (1 : Int) = ((1 : Nat) : Int) from rfl) ⟨Nat.le_add_left 1 _, hcy⟩) (Ln rfl (Lf 16 jc9 rfl jn1 (jaH hs (i := 0) rfl jn1 rfl rfl (by rfl) (by simp [On.cells]) rfl ?_)))
 intro w hs
 dsimp only [sS, sZ, sA, sN] at hs
 refine Rnl (jg0 rfl ?_)
 have ex : jeX (xs ++ [t.x]) = (xs ++ [t.x]).drop 1 := by unfold jeX; rw [List.length_append, show xs.length + [t.x].length - 1024 = 1 by show xs.length + 1 - 1024 = 1; omega]
 have ey : jeX (ys ++ [t.y]) = (ys ++ [t.y]).drop 1 := by unfold jeX; rw [List.length_append, show ys.length + [t.y].length - 1024 = 1 by show ys.length + 1 - 1024 = 1; omega]
 have bx := hbx'.cut (k := 1) (by show 1 < xs.length + 1; omega)
 have by2 := hby'.cut (k := 1) (by show 1 < ys.length + 1; omega)
 have sx : (scs xs ++ t.x.cells).drop (1 * 5) = scs ((xs ++ [t.x]).drop 1) := by rw [<- jmV, jnF, jnE]
 have sy : (scs ys ++ t.y.cells).drop (1 * 5) = scs ((ys ++ [t.y]).drop 1) := by rw [<- jmV, jnF, jnE]
 have lx : ((xs ++ [t.x]).drop 1).length = xs.length := by rw [List.length_drop, List.length_append]; rfl
 have ly : ((ys ++ [t.y]).drop 1).length = ys.length := by rw [List.length_drop, List.length_append]; rfl
 obtain ⟨cxs, hcxs⟩ : ∃ cxs, cxs = (xs ++ [t.x]).drop 1 := ⟨_, rfl⟩
 obtain ⟨cys, hcys⟩ : ∃ cys, cys = (ys ++ [t.y]).drop 1 := ⟨_, rfl⟩
 rw [<- hcxs] at ex sx lx
 rw [<- hcys] at ey sy ly
 refine ⟨_, rfl, ⟨p, t, .slice (slA ax 1 cx 5) (xs.length + 1 - 1) (cx - 1), Mx', cxs, .slice (slA ay 1 cy 5) (ys.length + 1 - 1) (cy - 1), My', cys, c⟩, rfl, rfl, rfl, ex.symm, ey.symm, hs, ?_, ?_, ho.seen, ho.kind, ?_, ?_⟩
 ·
  show Bo w0 48 5 _ cxs.length (scs cxs) Mx'
  rw [lx, <- sx]
  exact bx
 ·
  show Bo w0 48 5 _ cys.length (scs cys) My'
  rw [ly, <- sy]
  exact by2
 ·
  show cxs.length <= 1024
  rw [lx]; exact hl'
 show cys.length = cxs.length
 rw [lx, ly]; exact hly'
theorem fin_fv {x : Nat} {v : Int} (h : FV x v) : je6 x = true := by
 unfold je6 nanB infB
 have h1 : FloatKind.f64.format.order x x = some .eq := by rw [h.order h, Int.compare_eq_eq.2 rfl]
 have h2 := h.fin
 rw [h1, h.abs.gtt (FV.nat (r := 9218868437227405311) (by decide)), decide_eq_false (by unfold Gr at h2; omega)]
 rfl
theorem fv_fin {x : Nat} (hx : x < 18446744073709551616) (h : je6 x = true) : ∃ v, FV x v := by
 rcases jhL hx with hv | ⟨s, hs⟩ | hn
 ·
  exact hv
 ·
  exfalso
  rcases jfK hx hs with e | e <;> rw [e] at h <;> exact absurd h (by decide +kernel)
 exfalso
 unfold je6 nanB at h
 rw [jcM hn] at h
 exact absurd h (by simp)
theorem rrefused_ok (B time la last : Nat) (any : Bool) (a : Option Addr) (n c : Nat) (l : List Plt) (w0 : World) (h7 : w0.cell? ⟨B, 7, none⟩ = some (.float .f64 la)) (h8 : w0.cell? ⟨B, 8, none⟩ = some (.bool any)) (hal : (any = true /\ la = last) ∨ (any = false /\ last = ninf)) (ht : time < 18446744073709551616) (hx : SlC w0 a (pcs l)) (hn : l.length = n) (hn2 : n <= 1000000) (hlt : ∀ i, i < n -> PltLt (l.getD i plt0)) :
  Ret Tryz.prog 49 [.pointer (some ⟨B, 0, none⟩), .float .f64 time, .slice a n c] w0 fun v w' => v = .int .i64 (jeZ last time l) /\ HS w0 w' [] := by
 refine Ret.start fun w hs => ?_
 have hBl := World.block_lt_of_cell? w0 _ h7
 refine ja7 Tryz.func49 rfl rfl rfl ?_
 by_cases h256 : 256 < n
 ·
  have e : jeZ last time l = 3 := by unfold jeZ; rw [if_pos (by omega)]
  refine Wq (La rfl (Rqq (Lm rfl (Le jeA rfl (jgY rfl (jaF (by omega)) ?_)))))
  refine Rt (Wt rfl (Wq (La rfl (Rt (jaW (ja2 (ja9 rfl rfl ?_)))))))
  exact ⟨_, rfl, by rw [e], hs⟩
 refine Wq (La rfl (Rqq (Lm rfl (Le jeA rfl (jgY rfl (jaA (by omega)) ?_)))))
 refine Rt (Wf rfl (Ws (Wq (Lm rfl (Lc f_20 rfl (jhH time ht w) ?_)))))
 rintro _ w ⟨rfl, rfl⟩
 refine La rfl (Rqq (La rfl (Rt (jcG 7 (v' := .bool (je6 time && (l.take 0).all jgW)) rfl ((by simp)) ?_))))
 refine ja4 (jd8 (fun (i : Nat) (w : World) => [(0, .pointer (some ⟨B, 0, none⟩)), (1, .float .f64 time), (2, .slice a n c), (7, .bool (je6 time && (l.take i).all jgW)), (8, .int .i64 i)]) (fun i w => w) (fun i w => (i <= n) /\ (HS w0 w [])) (fun i w => n - i) (0) (_) (is := [0, 1, 2, 7, 8]) rfl rfl ?_ ?_)
 ·
  exact ⟨Nat.zero_le _, hs⟩
 clear hs
 intro i w hI
 show W _ _ _ _ [(0, .pointer (some ⟨B, 0, none⟩)), (1, .float .f64 time), (2, .slice a n c), (7, .bool (je6 time && (l.take i).all jgW)), (8, .int .i64 i)] w
 obtain ⟨hi, hs⟩ := hI
 by_cases hlt2 : i < n
 ·
  have hxw := hx.old hs Own.nil
  have hl := hlt i hlt2
  obtain ⟨p, hp⟩ : ∃ p, p = l.getD i plt0 := ⟨_, rfl⟩
  rw [<- hp] at hl
  have hpi : l[i]? = some p := by rw [hp, List.getD_eq_getElem?_getD, List.getElem?_eq_getElem (by omega)]; rfl
  have hta : (je6 time && (l.take (i + 1)).all jgW) = ((je6 time && (l.take i).all jgW) && (je6 p.r && je6 p.b)) := by
   rw [jcX hpi, List.all_append, show ([p] : List Plt).all jgW = jgW p by simp, Bool.and_assoc]
   unfold jgW
   simp
  refine Wqq (Lmm rfl rfl (Le jeA rfl (jaZ rfl (jaF (by omega)) ?_)))
  refine Rt (Wt rfl (Ws (Wsq (ja4 (Wq (Lmm rfl rfl ?_))))))
  refine LiN jeA jg7 rfl (ja6 _) (by omega) (hxw.ao (by rw [jf1]; omega)) ?_
  refine Lf 0 jqM rfl jaS ?_
  refine Ll jb5 rfl (by (rw [jaR]; exact (hx.old hs Own.nil).2 _ _ (jm3 (ts := l) (i := i) (q := 0) (by omega) (by rw [<- hp]; rfl)))) ?_
  refine Lc f_20 rfl (jhH p.r hl.r w) ?_
  rintro _ w ⟨rfl, rfl⟩
  refine La rfl (Rq (Lmm rfl rfl ?_))
  refine LiN jeA jg7 rfl (ja6 _) (by omega) (hxw.ao (by rw [jf1]; omega)) ?_
  refine Lf 3 jqM rfl jaS ?_
  refine Ll jb5 rfl (by (rw [jaR]; exact (hx.old hs Own.nil).2 _ _ (jm3 (ts := l) (i := i) (q := 3) (by omega) (by rw [<- hp]; rfl)))) ?_
  refine Lc f_20 rfl (jhH p.b hl.b w) ?_
  rintro _ w ⟨rfl, rfl⟩
  obtain ⟨q, hq⟩ : ∃ q, q = (je6 time && (l.take i).all jgW) := ⟨_, rfl⟩
  rw [<- hq] at hta
  refine La rfl (Rr (je7 7 (v' := .bool q) rfl ((by rw [hq])) ?_))
  cases q
  ·
   refine Lmm rfl rfl (Rs rfl (Lpf rfl (Lm rfl (Rs rfl (Lpf rfl (La rfl (Rnl (jaB (Nt (Wr (je7 7 (v' := .bool (je6 time && (l.take (i + 1)).all jgW)) rfl ((by rw [hta, Bool.false_and])) ?_)))))))))))
   refine Lm rfl (jbG rfl (ja3 (by omega)) ?_)
   refine La rfl (Rnl (Nq (i + 1, _) [0, 1, 2, 7, 8] rfl ?_ ?_))
   ·
    dsimp only
    exact ⟨by omega, hs⟩
   show n - (i + 1) < n - i; omega
  cases e1 : je6 p.r
  ·
   refine Lmm rfl rfl (Gm rfl rfl (Lpt rfl (Lm rfl (Rs rfl (Lpf rfl (La rfl (Rnl (jaB (Nt (Wr ?_))))))))))
   refine je7 7 (v' := .bool (je6 time && (l.take (i + 1)).all jgW)) rfl ((by rw [hta, e1]; rfl)) ?_
   refine Lm rfl (jbG rfl (ja3 (by omega)) ?_)
   refine La rfl (Rnl (Nq (i + 1, _) [0, 1, 2, 7, 8] rfl ?_ ?_))
   ·
    dsimp only
    exact ⟨by omega, hs⟩
   show n - (i + 1) < n - i; omega
  cases e2 : je6 p.b
  ·
   refine Lmm rfl rfl (Gm rfl rfl (Lpt rfl (Lm rfl (Gm rfl rfl (Lpt rfl (La rfl (Rnl (jaB (Nt (Wr ?_))))))))))
   refine je7 7 (v' := .bool (je6 time && (l.take (i + 1)).all jgW)) rfl ((by rw [hta, e1, e2]; rfl)) ?_
   refine Lm rfl (jbG rfl (ja3 (by omega)) ?_)
   refine La rfl (Rnl (Nq (i + 1, _) [0, 1, 2, 7, 8] rfl ?_ ?_))
   ·
    dsimp only
    exact ⟨by omega, hs⟩
   show n - (i + 1) < n - i; omega
  refine Lmm rfl rfl (Gm rfl rfl (Lpt rfl (Lm rfl (Gm rfl rfl (Lpt rfl (La rfl (Rnl (jaB (Nt (Wr ?_))))))))))
  refine je7 7 (v' := .bool (je6 time && (l.take (i + 1)).all jgW)) rfl ((by rw [hta, e1, e2]; rfl)) ?_
  refine Lm rfl (jbG rfl (ja3 (by omega)) ?_)
  refine La rfl (Rnl (Nq (i + 1, _) [0, 1, 2, 7, 8] rfl ?_ ?_))
  ·
   dsimp only
   exact ⟨by omega, hs⟩
  show n - (i + 1) < n - i; omega
 obtain rfl : n = i := by omega
 rw [List.take_of_length_le (by omega : l.length <= n)]
 have hBn : ∀ {w' : World}, HS w0 w' [] -> ∀ {j : Nat} {v : Value}, w0.cell? ⟨B, j, none⟩ = some v -> w'.cell? ⟨B, j, none⟩ = some v := fun h _ _ hv => HS.oldcell h hv (Own.nil.notin hBl)
 refine Wqq (Lmm rfl rfl (Le jeA rfl (jaZ rfl (jaA (by omega)) ?_)))
 refine Rt (Wf rfl ?_)
 cases e1 : (je6 time && l.all jgW)
 ·
  have e : jeZ last time l = 6 := by unfold jeZ; rw [if_neg (by omega), e1, if_neg (by decide)]
  refine jaK (ja0 (ja8 (ja1 (Nt (Wqq (Lm rfl (jcP rfl (Rt (Wt rfl (Wsq (Wr (La rfl (Rt (jaW (ja2 (ja9 rfl rfl ?_))))))))))))))))
  exact ⟨_, rfl, by rw [e], hs⟩
 have hf : je6 time = true := by cases h : je6 time with | true => rfl | false => rw [h] at e1; cases e1
 refine jaK (ja0 (ja8 (ja1 (Nt (Wqq (Lm rfl (jcP rfl (Rt (Wf rfl ?_)))))))))
 rcases hal with ⟨rfl, rfl⟩ | ⟨rfl, rfl⟩
 ·
  cases e2 : FloatKind.f64.format.order time la == some .lt
  ·
   have e : jeZ la time l = 0 := by unfold jeZ ltB; rw [if_neg (by omega), e1, if_pos rfl, e2]; rfl
   refine Ws (Wqq (Lm rfl (Ln rfl (Lf 8 jeK rfl i_4 (Ll o_4 rfl (by exact hBn hs h8) ?_)))))
   refine Lm rfl (Gm rfl rfl (Gm rfl rfl (Rw rfl (Ln rfl (Rw rfl (Lf 7 jeK rfl jaS (Rw rfl (Ll jb5 rfl (by exact hBn hs h7) ?_))))))))
   refine Rw rfl ?_
   refine Cf rfl (fun _ => by rw [binOp_float_cmp_lss, e2]; rfl) ?_
   refine Lpt rfl (Rt (Wf rfl (Ws (Wq (La rfl (Rt (jaW (ja9 rfl rfl ?_))))))))
   exact ⟨_, rfl, by rw [e], hs⟩
  have e : jeZ la time l = 2 := by unfold jeZ ltB; rw [if_neg (by omega), e1, if_pos rfl, e2]; rfl
  refine Ws (Wqq (Lm rfl (Ln rfl (Lf 8 jeK rfl i_4 (Ll o_4 rfl (by exact hBn hs h8) ?_)))))
  refine Lm rfl (Gm rfl rfl (Gm rfl rfl (Rw rfl (Ln rfl (Rw rfl (Lf 7 jeK rfl jaS (Rw rfl (Ll jb5 rfl (by exact hBn hs h7) ?_))))))))
  refine Rw rfl ?_
  refine Cf rfl (fun _ => by rw [binOp_float_cmp_lss, e2]; rfl) ?_
  refine Lpt rfl (Rt (Wt rfl (Wq (La rfl (Rt (jaW (ja2 (ja9 rfl rfl ?_))))))))
  exact ⟨_, rfl, by rw [e], hs⟩
 have e2 : ltB time ninf = false := by
  obtain ⟨v, hv⟩ := fv_fin ht hf
  obtain ⟨b, m, q, e1, _⟩ := hv.read
  have : FloatKind.f64.format.order time ninf = some .gt := by
   show (Ieee.double.read time).order (Ieee.double.read ninf) = _
   rw [e1, show Ieee.double.read ninf = .infinity true by decide +kernel]; rfl
  unfold ltB
  rw [this]; decide
 have e : jeZ ninf time l = 0 := by unfold jeZ; rw [if_neg (by omega), e1, if_pos rfl, e2]; rfl
 refine Ws (Wqq (Lm rfl (Ln rfl (Lf 8 jeK rfl i_4 (Ll o_4 rfl (by exact hBn hs h8) ?_)))))
 refine Lm rfl (Rs rfl (Rs rfl (Rs rfl (Rs rfl (Rs rfl (Rs rfl (Lpf rfl (Rt (Wf rfl (Ws (Wsq (Wr (La rfl (Rt (jaW (ja9 rfl rfl ?_))))))))))))))))
 exact ⟨_, rfl, by rw [e], hs⟩
def jcA (r : Rul) (vL : Value) (la : Nat) (any : Bool) (next : Int) : List Value := r.cells ++ [vL, .float .f64 la, .bool any, .int .i64 next]
set_option maxHeartbeats 4000000 in
theorem rnew_ok (r : Rul) (hn : r.noise < 18446744073709551616) (hsw : r.sway < 18446744073709551616) (hg : r.gate < 18446744073709551616) (w0 : World) : Ret Tryz.prog 8 [.agg r.cells.toArray] w0 fun v w' =>
  (jfA r ≠ 0 /\ v = .tuple #[.pointer none, .int .i64 (jfA r)] /\ HS w0 w' []) ∨ (jfA r = 0 /\ ∃ B, v = .tuple #[bv B, .int .i64 0] /\ w0.heap.size <= B /\ HS w0 w' [(B, Row 70 (jcA r (.slice none 0 0) 0 false 1))]) := by
 have hE : jfA r = if (je6 r.noise && (je6 r.sway && je6 r.gate)) = false then 6 else if leB r.noise 0 then 2 else if ltB r.sway 0 then 2 else if leB r.gate 0 then 2 else if gtB r.gate 4697254411347427328 then 2 else if inB r.of 1 16 = false then 2 else if inB r.need 1 r.of = false then 2 else if inB r.miss 1 16 = false then 2 else 0 := by
  unfold jfA
  rw [show [r.noise, r.sway, r.gate].all je6 = (je6 r.noise && (je6 r.sway && je6 r.gate)) by simp]
 refine Ret.start fun w hs => ?_
 refine ja7 Tryz.func8 rfl rfl rfl (Wq (jeH rfl hs rfl ?_))
 intro b1 w hb1 hnb1 hs
 dsimp only [sS, sZ, sA, sN] at hs
 replace hs : HS w0 w [(b1, Row 24 r.cells)] := hs
 have ho : Own w0 [(b1, Row 24 r.cells)] := Own.cons hb1 Own.nil
 refine La rfl (La rfl (Rq (Lf 0 jbM rfl jaS (Ll jb5 rfl (by exact hs.cell (i := 0) rfl rfl) ?_))))
 refine Lc f_20 rfl (jhH r.noise hn w) ?_
 rintro _ w ⟨rfl, rfl⟩
 refine La rfl (Rq (Lf 1 jbM rfl jaS (Ll jb5 rfl (by exact hs.cell (i := 0) rfl rfl) ?_)))
 refine Lc f_20 rfl (jhH r.sway hsw w) ?_
 rintro _ w ⟨rfl, rfl⟩
 refine La rfl (Rq (Lf 2 jbM rfl jaS (Ll jb5 rfl (by exact hs.cell (i := 0) rfl rfl) ?_)))
 refine Lc f_20 rfl (jhH r.gate hg w) ?_
 rintro _ w ⟨rfl, rfl⟩
 cases f1 : je6 r.noise
 ·
  refine La rfl (Rqq (Lm rfl (jcP rfl (Lm rfl (Rs rfl (Rs rfl (Lpt rfl (Lm rfl (Rs rfl (Rs rfl (Lpt rfl (Rt (Wt rfl (Wq (La rfl (La rfl (Rt (jaW (ja2 (jb9 rfl rfl rfl ?_))))))))))))))))))))
  have e : jfA r = 6 := by rw [hE]; rw [f1]; rw [if_pos (by simp)]
  exact ⟨_, rfl, .inl ⟨by rw [e]; decide, by rw [e], hs.forget ho⟩⟩
 cases f2 : je6 r.sway
 ·
  refine La rfl (Rqq (Lm rfl (jcP rfl (Lm rfl (Gm rfl rfl (Rw rfl (jcP rfl (Lpf rfl (Lm rfl (Rs rfl (Rs rfl (Lpt rfl (Rt (Wt rfl (Wq (La rfl (La rfl (Rt (jaW (ja2 (jb9 rfl rfl rfl ?_)))))))))))))))))))))
  have e : jfA r = 6 := by rw [hE]; rw [f1, f2]; rw [if_pos (by simp)]
  exact ⟨_, rfl, .inl ⟨by rw [e]; decide, by rw [e], hs.forget ho⟩⟩
 cases f3 : je6 r.gate
 ·
  refine La rfl (Rqq (Lm rfl (jcP rfl (Lm rfl (Gm rfl rfl (Rw rfl (jcP rfl (Lpf rfl (Lm rfl (Gm rfl rfl (Rw rfl (jcP rfl (Lpf rfl (Rt (Wt rfl (Wq (La rfl (La rfl (Rt (jaW (ja2 (jb9 rfl rfl rfl ?_))))))))))))))))))))))
  have e : jfA r = 6 := by rw [hE]; rw [f1, f2, f3]; rw [if_pos (by simp)]
  exact ⟨_, rfl, .inl ⟨by rw [e]; decide, by rw [e], hs.forget ho⟩⟩
 cases c1 : (FloatKind.f64.format.order r.noise 0 == some .lt || FloatKind.f64.format.order r.noise 0 == some .eq)
 ·
  have gc1 : leB r.noise 0 = false := c1
  cases c2 : FloatKind.f64.format.order r.sway 0 == some .lt
  ·
   have gc2 : ltB r.sway 0 = false := c2
   cases c3 : (FloatKind.f64.format.order r.gate 0 == some .lt || FloatKind.f64.format.order r.gate 0 == some .eq)
   ·
    have gc3 : leB r.gate 0 = false := c3
    cases c4 : FloatKind.f64.format.order r.gate 4697254411347427328 == some .gt
    ·
     have gc4 : gtB r.gate 4697254411347427328 = false := c4
     by_cases i1 : r.of < 1
     ·
      refine La rfl (Rqq (Lm rfl (jcP rfl (Lm rfl (Gm rfl rfl (Rw rfl (jcP rfl (Lpf rfl (Lm rfl (Gm rfl rfl (Rw rfl (jcP rfl (Lpf rfl (Rt (Wf rfl (Ws (Wqq (Lf 0 jbM rfl jaS (Ll jb5 rfl (by exact hs.cell (i := 0) rfl rfl) ?_)))))))))))))))))))
      refine Cf rfl (fun _ => by rw [binOp_float_cmp_leq, c1]; rfl) ?_
      refine Lm rfl (Rw rfl (Lf 1 jbM rfl jaS (Rw rfl (Ll jb5 rfl (by exact hs.cell (i := 0) rfl rfl) ?_))))
      refine Rw rfl ?_
      refine Cf rfl (fun _ => by rw [binOp_float_cmp_lss, c2]; rfl) ?_
      refine Lpf rfl (Lm rfl (Rw rfl (Lf 2 jbM rfl jaS (Rw rfl (Ll jb5 rfl (by exact hs.cell (i := 0) rfl rfl) ?_)))))
      refine Rw rfl ?_
      refine Cf rfl (fun _ => by rw [binOp_float_cmp_leq, c3]; rfl) ?_
      refine Lpf rfl (Lm rfl (Rw rfl (Lf 2 jbM rfl jaS (Rw rfl (Ll jb5 rfl (by exact hs.cell (i := 0) rfl rfl) ?_)))))
      refine Rw rfl ?_
      refine Cf rfl (fun _ => by rw [binOp_float_cmp_gtr, c4]; rfl) ?_
      refine Lpf rfl (Lm rfl (Rw rfl (Lf 4 jbM rfl i_3 (Rw rfl (Ll o_3 rfl (by exact hs.cell (i := 0) rfl rfl) ?_)))))
      refine Rw rfl (jaZ rfl (jaF (by omega)) ?_)
      refine Lpf rfl (Lm rfl (Rs rfl (Rs rfl (Rs rfl (Lpt rfl (Lm rfl (Rs rfl (Rs rfl (Rs rfl (Lpt rfl (Lm rfl (Rs rfl (Rs rfl (Rs rfl (Rs rfl (Rs rfl (Lpt rfl (Lm rfl (Rs rfl (Rs rfl (Rs rfl (Lpt rfl (Lm rfl (Rs rfl (Rs rfl (Rs rfl (Lpt rfl (Rt (Wt rfl (Wq (La rfl (La rfl (Rt (jaW (ja2 (jb9 rfl rfl rfl ?_))))))))))))))))))))))))))))))))))))
      have e : jfA r = 2 := by rw [hE]; rw [f1, f2, f3, if_neg (by decide)]; rw [if_neg (by rw [gc1]; decide)]; rw [if_neg (by rw [gc2]; decide)]; rw [if_neg (by rw [gc3]; decide)]; rw [if_neg (by rw [gc4]; decide)]; rw [if_pos (by unfold inB; rw [decide_eq_false (by omega), Bool.false_and])]
      exact ⟨_, rfl, .inl ⟨by rw [e]; decide, by rw [e], hs.forget ho⟩⟩
     by_cases i2 : 16 < r.of
     ·
      refine La rfl (Rqq (Lm rfl (jcP rfl (Lm rfl (Gm rfl rfl (Rw rfl (jcP rfl (Lpf rfl (Lm rfl (Gm rfl rfl (Rw rfl (jcP rfl (Lpf rfl (Rt (Wf rfl (Ws (Wqq (Lf 0 jbM rfl jaS (Ll jb5 rfl (by exact hs.cell (i := 0) rfl rfl) ?_)))))))))))))))))))
      refine Cf rfl (fun _ => by rw [binOp_float_cmp_leq, c1]; rfl) ?_
      refine Lm rfl (Rw rfl (Lf 1 jbM rfl jaS (Rw rfl (Ll jb5 rfl (by exact hs.cell (i := 0) rfl rfl) ?_))))
      refine Rw rfl ?_
      refine Cf rfl (fun _ => by rw [binOp_float_cmp_lss, c2]; rfl) ?_
      refine Lpf rfl (Lm rfl (Rw rfl (Lf 2 jbM rfl jaS (Rw rfl (Ll jb5 rfl (by exact hs.cell (i := 0) rfl rfl) ?_)))))
      refine Rw rfl ?_
      refine Cf rfl (fun _ => by rw [binOp_float_cmp_leq, c3]; rfl) ?_
      refine Lpf rfl (Lm rfl (Rw rfl (Lf 2 jbM rfl jaS (Rw rfl (Ll jb5 rfl (by exact hs.cell (i := 0) rfl rfl) ?_)))))
      refine Rw rfl ?_
      refine Cf rfl (fun _ => by rw [binOp_float_cmp_gtr, c4]; rfl) ?_
      refine Lpf rfl (Lm rfl (Rw rfl (Lf 4 jbM rfl i_3 (Rw rfl (Ll o_3 rfl (by exact hs.cell (i := 0) rfl rfl) ?_)))))
      refine Rw rfl (jaZ rfl (jaA (by omega)) ?_)
      refine Lpf rfl (Lm rfl (Rw rfl (Lf 4 jbM rfl i_3 (Rw rfl (Ll o_3 rfl (by exact hs.cell (i := 0) rfl rfl) ?_)))))
      refine Rw rfl (jgY rfl (jaF (by omega)) ?_)
      refine Lpf rfl (Lm rfl (Rs rfl (Rs rfl (Rs rfl (Lpt rfl (Lm rfl (Rs rfl (Rs rfl (Rs rfl (Rs rfl (Rs rfl (Lpt rfl (Lm rfl (Rs rfl (Rs rfl (Rs rfl (Lpt rfl (Lm rfl (Rs rfl (Rs rfl (Rs rfl (Lpt rfl (Rt (Wt rfl (Wsq (Wr (La rfl (La rfl (Rt (jaW (ja2 (jb9 rfl rfl rfl ?_))))))))))))))))))))))))))))))))
      have e : jfA r = 2 := by rw [hE]; rw [f1, f2, f3, if_neg (by decide)]; rw [if_neg (by rw [gc1]; decide)]; rw [if_neg (by rw [gc2]; decide)]; rw [if_neg (by rw [gc3]; decide)]; rw [if_neg (by rw [gc4]; decide)]; rw [if_pos (by unfold inB; rw [Bool.and_eq_false_iff]; right; exact decide_eq_false (by omega))]
      exact ⟨_, rfl, .inl ⟨by rw [e]; decide, by rw [e], hs.forget ho⟩⟩
     by_cases i3 : r.need < 1
     ·
      refine La rfl (Rqq (Lm rfl (jcP rfl (Lm rfl (Gm rfl rfl (Rw rfl (jcP rfl (Lpf rfl (Lm rfl (Gm rfl rfl (Rw rfl (jcP rfl (Lpf rfl (Rt (Wf rfl (Ws (Wqq (Lf 0 jbM rfl jaS (Ll jb5 rfl (by exact hs.cell (i := 0) rfl rfl) ?_)))))))))))))))))))
      refine Cf rfl (fun _ => by rw [binOp_float_cmp_leq, c1]; rfl) ?_
      refine Lm rfl (Rw rfl (Lf 1 jbM rfl jaS (Rw rfl (Ll jb5 rfl (by exact hs.cell (i := 0) rfl rfl) ?_))))
      refine Rw rfl ?_
      refine Cf rfl (fun _ => by rw [binOp_float_cmp_lss, c2]; rfl) ?_
      refine Lpf rfl (Lm rfl (Rw rfl (Lf 2 jbM rfl jaS (Rw rfl (Ll jb5 rfl (by exact hs.cell (i := 0) rfl rfl) ?_)))))
      refine Rw rfl ?_
      refine Cf rfl (fun _ => by rw [binOp_float_cmp_leq, c3]; rfl) ?_
      refine Lpf rfl (Lm rfl (Rw rfl (Lf 2 jbM rfl jaS (Rw rfl (Ll jb5 rfl (by exact hs.cell (i := 0) rfl rfl) ?_)))))
      refine Rw rfl ?_
      refine Cf rfl (fun _ => by rw [binOp_float_cmp_gtr, c4]; rfl) ?_
      refine Lpf rfl (Lm rfl (Rw rfl (Lf 4 jbM rfl i_3 (Rw rfl (Ll o_3 rfl (by exact hs.cell (i := 0) rfl rfl) ?_)))))
      refine Rw rfl (jaZ rfl (jaA (by omega)) ?_)
      refine Lpf rfl (Lm rfl (Rw rfl (Lf 4 jbM rfl i_3 (Rw rfl (Ll o_3 rfl (by exact hs.cell (i := 0) rfl rfl) ?_)))))
      refine Rw rfl (jgY rfl (jaA (by omega)) ?_)
      refine Lpf rfl (Lm rfl (Rw rfl (Lf 3 jbM rfl i_3 (Rw rfl (Ll o_3 rfl (by exact hs.cell (i := 0) rfl rfl) ?_)))))
      refine Rw rfl (jaZ rfl (jaF (by omega)) ?_)
      refine Lpf rfl (Lm rfl (Rs rfl (Rs rfl (Rs rfl (Rs rfl (Rs rfl (Lpt rfl (Lm rfl (Rs rfl (Rs rfl (Rs rfl (Lpt rfl (Lm rfl (Rs rfl (Rs rfl (Rs rfl (Lpt rfl (Rt (Wt rfl (Wq (La rfl (La rfl (Rt (jaW (ja2 (jb9 rfl rfl rfl ?_))))))))))))))))))))))))))
      have e : jfA r = 2 := by rw [hE]; rw [f1, f2, f3, if_neg (by decide)]; rw [if_neg (by rw [gc1]; decide)]; rw [if_neg (by rw [gc2]; decide)]; rw [if_neg (by rw [gc3]; decide)]; rw [if_neg (by rw [gc4]; decide)]; rw [if_neg (by rw [show inB r.of 1 16 = true by unfold inB; rw [decide_eq_true (by omega), decide_eq_true (by omega)]; rfl]; decide)]; rw [if_pos (by unfold inB; rw [decide_eq_false (by omega), Bool.false_and])]
      exact ⟨_, rfl, .inl ⟨by rw [e]; decide, by rw [e], hs.forget ho⟩⟩
     by_cases i4 : r.of < r.need
     ·
      refine La rfl (Rqq (Lm rfl (jcP rfl (Lm rfl (Gm rfl rfl (Rw rfl (jcP rfl (Lpf rfl (Lm rfl (Gm rfl rfl (Rw rfl (jcP rfl (Lpf rfl (Rt (Wf rfl (Ws (Wqq (Lf 0 jbM rfl jaS (Ll jb5 rfl (by exact hs.cell (i := 0) rfl rfl) ?_)))))))))))))))))))
      refine Cf rfl (fun _ => by rw [binOp_float_cmp_leq, c1]; rfl) ?_
      refine Lm rfl (Rw rfl (Lf 1 jbM rfl jaS (Rw rfl (Ll jb5 rfl (by exact hs.cell (i := 0) rfl rfl) ?_))))
      refine Rw rfl ?_
      refine Cf rfl (fun _ => by rw [binOp_float_cmp_lss, c2]; rfl) ?_
      refine Lpf rfl (Lm rfl (Rw rfl (Lf 2 jbM rfl jaS (Rw rfl (Ll jb5 rfl (by exact hs.cell (i := 0) rfl rfl) ?_)))))
      refine Rw rfl ?_
      refine Cf rfl (fun _ => by rw [binOp_float_cmp_leq, c3]; rfl) ?_
      refine Lpf rfl (Lm rfl (Rw rfl (Lf 2 jbM rfl jaS (Rw rfl (Ll jb5 rfl (by exact hs.cell (i := 0) rfl rfl) ?_)))))
      refine Rw rfl ?_
      refine Cf rfl (fun _ => by rw [binOp_float_cmp_gtr, c4]; rfl) ?_
      refine Lpf rfl (Lm rfl (Rw rfl (Lf 4 jbM rfl i_3 (Rw rfl (Ll o_3 rfl (by exact hs.cell (i := 0) rfl rfl) ?_)))))
      refine Rw rfl (jaZ rfl (jaA (by omega)) ?_)
      refine Lpf rfl (Lm rfl (Rw rfl (Lf 4 jbM rfl i_3 (Rw rfl (Ll o_3 rfl (by exact hs.cell (i := 0) rfl rfl) ?_)))))
      refine Rw rfl (jgY rfl (jaA (by omega)) ?_)
      refine Lpf rfl (Lm rfl (Rw rfl (Lf 3 jbM rfl i_3 (Rw rfl (Ll o_3 rfl (by exact hs.cell (i := 0) rfl rfl) ?_)))))
      refine Rw rfl (jaZ rfl (jaA (by omega)) ?_)
      refine Lpf rfl (Lm rfl (Rw rfl (Lf 3 jbM rfl i_3 (Rw rfl (Ll o_3 rfl (by exact hs.cell (i := 0) rfl rfl) ?_)))))
      refine Rw rfl (Lf 4 jbM rfl i_3 (Rw rfl (Ll o_3 rfl (by exact hs.cell (i := 0) rfl rfl) ?_)))
      refine Rw rfl (jgY rfl (jaF (by omega)) ?_)
      refine Lpf rfl (Lm rfl (Rs rfl (Rs rfl (Rs rfl (Lpt rfl (Lm rfl (Rs rfl (Rs rfl (Rs rfl (Lpt rfl (Rt (Wt rfl (Wq (La rfl (La rfl (Rt (jaW (ja2 (jb9 rfl rfl rfl ?_)))))))))))))))))))
      have e : jfA r = 2 := by rw [hE]; rw [f1, f2, f3, if_neg (by decide)]; rw [if_neg (by rw [gc1]; decide)]; rw [if_neg (by rw [gc2]; decide)]; rw [if_neg (by rw [gc3]; decide)]; rw [if_neg (by rw [gc4]; decide)]; rw [if_neg (by rw [show inB r.of 1 16 = true by unfold inB; rw [decide_eq_true (by omega), decide_eq_true (by omega)]; rfl]; decide)]; rw [if_pos (by unfold inB; rw [Bool.and_eq_false_iff]; right; exact decide_eq_false (by omega))]
      exact ⟨_, rfl, .inl ⟨by rw [e]; decide, by rw [e], hs.forget ho⟩⟩
     by_cases i5 : r.miss < 1
     ·
      refine La rfl (Rqq (Lm rfl (jcP rfl (Lm rfl (Gm rfl rfl (Rw rfl (jcP rfl (Lpf rfl (Lm rfl (Gm rfl rfl (Rw rfl (jcP rfl (Lpf rfl (Rt (Wf rfl (Ws (Wqq (Lf 0 jbM rfl jaS (Ll jb5 rfl (by exact hs.cell (i := 0) rfl rfl) ?_)))))))))))))))))))
      refine Cf rfl (fun _ => by rw [binOp_float_cmp_leq, c1]; rfl) ?_
      refine Lm rfl (Rw rfl (Lf 1 jbM rfl jaS (Rw rfl (Ll jb5 rfl (by exact hs.cell (i := 0) rfl rfl) ?_))))
      refine Rw rfl ?_
      refine Cf rfl (fun _ => by rw [binOp_float_cmp_lss, c2]; rfl) ?_
      refine Lpf rfl (Lm rfl (Rw rfl (Lf 2 jbM rfl jaS (Rw rfl (Ll jb5 rfl (by exact hs.cell (i := 0) rfl rfl) ?_)))))
      refine Rw rfl ?_
      refine Cf rfl (fun _ => by rw [binOp_float_cmp_leq, c3]; rfl) ?_
      refine Lpf rfl (Lm rfl (Rw rfl (Lf 2 jbM rfl jaS (Rw rfl (Ll jb5 rfl (by exact hs.cell (i := 0) rfl rfl) ?_)))))
      refine Rw rfl ?_
      refine Cf rfl (fun _ => by rw [binOp_float_cmp_gtr, c4]; rfl) ?_
      refine Lpf rfl (Lm rfl (Rw rfl (Lf 4 jbM rfl i_3 (Rw rfl (Ll o_3 rfl (by exact hs.cell (i := 0) rfl rfl) ?_)))))
      refine Rw rfl (jaZ rfl (jaA (by omega)) ?_)
      refine Lpf rfl (Lm rfl (Rw rfl (Lf 4 jbM rfl i_3 (Rw rfl (Ll o_3 rfl (by exact hs.cell (i := 0) rfl rfl) ?_)))))
      refine Rw rfl (jgY rfl (jaA (by omega)) ?_)
      refine Lpf rfl (Lm rfl (Rw rfl (Lf 3 jbM rfl i_3 (Rw rfl (Ll o_3 rfl (by exact hs.cell (i := 0) rfl rfl) ?_)))))
      refine Rw rfl (jaZ rfl (jaA (by omega)) ?_)
      refine Lpf rfl (Lm rfl (Rw rfl (Lf 3 jbM rfl i_3 (Rw rfl (Ll o_3 rfl (by exact hs.cell (i := 0) rfl rfl) ?_)))))
      refine Rw rfl (Lf 4 jbM rfl i_3 (Rw rfl (Ll o_3 rfl (by exact hs.cell (i := 0) rfl rfl) ?_)))
      refine Rw rfl (jgY rfl (jaA (by omega)) ?_)
      refine Lpf rfl (Lm rfl (Rw rfl (Lf 5 jbM rfl i_3 (Rw rfl (Ll o_3 rfl (by exact hs.cell (i := 0) rfl rfl) ?_)))))
      refine Rw rfl (jaZ rfl (jaF (by omega)) ?_)
      refine Lpf rfl (Lm rfl (Rs rfl (Rs rfl (Rs rfl (Lpt rfl (Rt (Wt rfl (Wq (La rfl (La rfl (Rt (jaW (ja2 (jb9 rfl rfl rfl ?_))))))))))))))
      have e : jfA r = 2 := by rw [hE]; rw [f1, f2, f3, if_neg (by decide)]; rw [if_neg (by rw [gc1]; decide)]; rw [if_neg (by rw [gc2]; decide)]; rw [if_neg (by rw [gc3]; decide)]; rw [if_neg (by rw [gc4]; decide)]; rw [if_neg (by rw [show inB r.of 1 16 = true by unfold inB; rw [decide_eq_true (by omega), decide_eq_true (by omega)]; rfl]; decide)]; rw [if_neg (by rw [show inB r.need 1 r.of = true by unfold inB; rw [decide_eq_true (by omega), decide_eq_true (by omega)]; rfl]; decide)]; rw [if_pos (by unfold inB; rw [decide_eq_false (by omega), Bool.false_and])]
      exact ⟨_, rfl, .inl ⟨by rw [e]; decide, by rw [e], hs.forget ho⟩⟩
     by_cases i6 : 16 < r.miss
     ·
      refine La rfl (Rqq (Lm rfl (jcP rfl (Lm rfl (Gm rfl rfl (Rw rfl (jcP rfl (Lpf rfl (Lm rfl (Gm rfl rfl (Rw rfl (jcP rfl (Lpf rfl (Rt (Wf rfl (Ws (Wqq (Lf 0 jbM rfl jaS (Ll jb5 rfl (by exact hs.cell (i := 0) rfl rfl) ?_)))))))))))))))))))
      refine Cf rfl (fun _ => by rw [binOp_float_cmp_leq, c1]; rfl) ?_
      refine Lm rfl (Rw rfl (Lf 1 jbM rfl jaS (Rw rfl (Ll jb5 rfl (by exact hs.cell (i := 0) rfl rfl) ?_))))
      refine Rw rfl ?_
      refine Cf rfl (fun _ => by rw [binOp_float_cmp_lss, c2]; rfl) ?_
      refine Lpf rfl (Lm rfl (Rw rfl (Lf 2 jbM rfl jaS (Rw rfl (Ll jb5 rfl (by exact hs.cell (i := 0) rfl rfl) ?_)))))
      refine Rw rfl ?_
      refine Cf rfl (fun _ => by rw [binOp_float_cmp_leq, c3]; rfl) ?_
      refine Lpf rfl (Lm rfl (Rw rfl (Lf 2 jbM rfl jaS (Rw rfl (Ll jb5 rfl (by exact hs.cell (i := 0) rfl rfl) ?_)))))
      refine Rw rfl ?_
      refine Cf rfl (fun _ => by rw [binOp_float_cmp_gtr, c4]; rfl) ?_
      refine Lpf rfl (Lm rfl (Rw rfl (Lf 4 jbM rfl i_3 (Rw rfl (Ll o_3 rfl (by exact hs.cell (i := 0) rfl rfl) ?_)))))
      refine Rw rfl (jaZ rfl (jaA (by omega)) ?_)
      refine Lpf rfl (Lm rfl (Rw rfl (Lf 4 jbM rfl i_3 (Rw rfl (Ll o_3 rfl (by exact hs.cell (i := 0) rfl rfl) ?_)))))
      refine Rw rfl (jgY rfl (jaA (by omega)) ?_)
      refine Lpf rfl (Lm rfl (Rw rfl (Lf 3 jbM rfl i_3 (Rw rfl (Ll o_3 rfl (by exact hs.cell (i := 0) rfl rfl) ?_)))))
      refine Rw rfl (jaZ rfl (jaA (by omega)) ?_)
      refine Lpf rfl (Lm rfl (Rw rfl (Lf 3 jbM rfl i_3 (Rw rfl (Ll o_3 rfl (by exact hs.cell (i := 0) rfl rfl) ?_)))))
      refine Rw rfl (Lf 4 jbM rfl i_3 (Rw rfl (Ll o_3 rfl (by exact hs.cell (i := 0) rfl rfl) ?_)))
      refine Rw rfl (jgY rfl (jaA (by omega)) ?_)
      refine Lpf rfl (Lm rfl (Rw rfl (Lf 5 jbM rfl i_3 (Rw rfl (Ll o_3 rfl (by exact hs.cell (i := 0) rfl rfl) ?_)))))
      refine Rw rfl (jaZ rfl (jaA (by omega)) ?_)
      refine Lpf rfl (Lm rfl (Rw rfl (Lf 5 jbM rfl i_3 (Rw rfl (Ll o_3 rfl (by exact hs.cell (i := 0) rfl rfl) ?_)))))
      refine Rw rfl (jgY rfl (jaF (by omega)) ?_)
      refine Lpf rfl (Rt (Wt rfl (Wq (La rfl (La rfl (Rt (jaW (ja2 (jb9 rfl rfl rfl ?_)))))))))
      have e : jfA r = 2 := by rw [hE]; rw [f1, f2, f3, if_neg (by decide)]; rw [if_neg (by rw [gc1]; decide)]; rw [if_neg (by rw [gc2]; decide)]; rw [if_neg (by rw [gc3]; decide)]; rw [if_neg (by rw [gc4]; decide)]; rw [if_neg (by rw [show inB r.of 1 16 = true by unfold inB; rw [decide_eq_true (by omega), decide_eq_true (by omega)]; rfl]; decide)]; rw [if_neg (by rw [show inB r.need 1 r.of = true by unfold inB; rw [decide_eq_true (by omega), decide_eq_true (by omega)]; rfl]; decide)]; rw [if_pos (by unfold inB; rw [Bool.and_eq_false_iff]; right; exact decide_eq_false (by omega))]
      exact ⟨_, rfl, .inl ⟨by rw [e]; decide, by rw [e], hs.forget ho⟩⟩
     refine La rfl (Rqq (Lm rfl (jcP rfl (Lm rfl (Gm rfl rfl (Rw rfl (jcP rfl (Lpf rfl (Lm rfl (Gm rfl rfl (Rw rfl (jcP rfl (Lpf rfl (Rt (Wf rfl (Ws (Wqq (Lf 0 jbM rfl jaS (Ll jb5 rfl (by exact hs.cell (i := 0) rfl rfl) ?_)))))))))))))))))))
     refine Cf rfl (fun _ => by rw [binOp_float_cmp_leq, c1]; rfl) ?_
     refine Lm rfl (Rw rfl (Lf 1 jbM rfl jaS (Rw rfl (Ll jb5 rfl (by exact hs.cell (i := 0) rfl rfl) ?_))))
     refine Rw rfl ?_
     refine Cf rfl (fun _ => by rw [binOp_float_cmp_lss, c2]; rfl) ?_
     refine Lpf rfl (Lm rfl (Rw rfl (Lf 2 jbM rfl jaS (Rw rfl (Ll jb5 rfl (by exact hs.cell (i := 0) rfl rfl) ?_)))))
     refine Rw rfl ?_
     refine Cf rfl (fun _ => by rw [binOp_float_cmp_leq, c3]; rfl) ?_
     refine Lpf rfl (Lm rfl (Rw rfl (Lf 2 jbM rfl jaS (Rw rfl (Ll jb5 rfl (by exact hs.cell (i := 0) rfl rfl) ?_)))))
     refine Rw rfl ?_
     refine Cf rfl (fun _ => by rw [binOp_float_cmp_gtr, c4]; rfl) ?_
     refine Lpf rfl (Lm rfl (Rw rfl (Lf 4 jbM rfl i_3 (Rw rfl (Ll o_3 rfl (by exact hs.cell (i := 0) rfl rfl) ?_)))))
     refine Rw rfl (jaZ rfl (jaA (by omega)) ?_)
     refine Lpf rfl (Lm rfl (Rw rfl (Lf 4 jbM rfl i_3 (Rw rfl (Ll o_3 rfl (by exact hs.cell (i := 0) rfl rfl) ?_)))))
     refine Rw rfl (jgY rfl (jaA (by omega)) ?_)
     refine Lpf rfl (Lm rfl (Rw rfl (Lf 3 jbM rfl i_3 (Rw rfl (Ll o_3 rfl (by exact hs.cell (i := 0) rfl rfl) ?_)))))
     refine Rw rfl (jaZ rfl (jaA (by omega)) ?_)
     refine Lpf rfl (Lm rfl (Rw rfl (Lf 3 jbM rfl i_3 (Rw rfl (Ll o_3 rfl (by exact hs.cell (i := 0) rfl rfl) ?_)))))
     refine Rw rfl (Lf 4 jbM rfl i_3 (Rw rfl (Ll o_3 rfl (by exact hs.cell (i := 0) rfl rfl) ?_)))
     refine Rw rfl (jgY rfl (jaA (by omega)) ?_)
     refine Lpf rfl (Lm rfl (Rw rfl (Lf 5 jbM rfl i_3 (Rw rfl (Ll o_3 rfl (by exact hs.cell (i := 0) rfl rfl) ?_)))))
     refine Rw rfl (jaZ rfl (jaA (by omega)) ?_)
     refine Lpf rfl (Lm rfl (Rw rfl (Lf 5 jbM rfl i_3 (Rw rfl (Ll o_3 rfl (by exact hs.cell (i := 0) rfl rfl) ?_)))))
     refine Rw rfl (jgY rfl (jaA (by omega)) ?_)
     refine Lpf rfl (Rt (Wf rfl (Ws (Wq (jb7 rfl a_24 jfP rfl (by exact jaE (cs := r.cells) (hs.get (i := 0) rfl)) ?_)))))
     refine jbE rfl rfl (Pl.builtN Tryz.pl70 rfl) (jeH rfl hs rfl ?_)
     intro b78 w hb78 hnb78 hs
     dsimp only [sS, sZ, sA, sN] at hs
     refine La rfl (La rfl (Rt (jaW (jb9 rfl rfl rfl ?_))))
     have e : jfA r = 0 := by rw [hE]; rw [f1, f2, f3, if_neg (by decide)]; rw [if_neg (by rw [gc1]; decide)]; rw [if_neg (by rw [gc2]; decide)]; rw [if_neg (by rw [gc3]; decide)]; rw [if_neg (by rw [gc4]; decide)]; rw [if_neg (by rw [show inB r.of 1 16 = true by unfold inB; rw [decide_eq_true (by omega), decide_eq_true (by omega)]; rfl]; decide)]; rw [if_neg (by rw [show inB r.need 1 r.of = true by unfold inB; rw [decide_eq_true (by omega), decide_eq_true (by omega)]; rfl]; decide)]; rw [if_neg (by rw [show inB r.miss 1 16 = true by unfold inB; rw [decide_eq_true (by omega), decide_eq_true (by omega)]; rfl]; decide)]
     refine ⟨_, rfl, .inr ⟨e, b78, rfl, hb78, ?_⟩⟩
     exact HS.pop (p := (b1, Row 24 r.cells)) (L := [(b78, Row 70 (jcA r (.slice none 0 0) 0 false 1))]) hs hb1
    have gc4 : gtB r.gate 4697254411347427328 = true := c4
    refine La rfl (Rqq (Lm rfl (jcP rfl (Lm rfl (Gm rfl rfl (Rw rfl (jcP rfl (Lpf rfl (Lm rfl (Gm rfl rfl (Rw rfl (jcP rfl (Lpf rfl (Rt (Wf rfl (Ws (Wqq (Lf 0 jbM rfl jaS (Ll jb5 rfl (by exact hs.cell (i := 0) rfl rfl) ?_)))))))))))))))))))
    refine Cf rfl (fun _ => by rw [binOp_float_cmp_leq, c1]; rfl) ?_
    refine Lm rfl (Rw rfl (Lf 1 jbM rfl jaS (Rw rfl (Ll jb5 rfl (by exact hs.cell (i := 0) rfl rfl) ?_))))
    refine Rw rfl ?_
    refine Cf rfl (fun _ => by rw [binOp_float_cmp_lss, c2]; rfl) ?_
    refine Lpf rfl (Lm rfl (Rw rfl (Lf 2 jbM rfl jaS (Rw rfl (Ll jb5 rfl (by exact hs.cell (i := 0) rfl rfl) ?_)))))
    refine Rw rfl ?_
    refine Cf rfl (fun _ => by rw [binOp_float_cmp_leq, c3]; rfl) ?_
    refine Lpf rfl (Lm rfl (Rw rfl (Lf 2 jbM rfl jaS (Rw rfl (Ll jb5 rfl (by exact hs.cell (i := 0) rfl rfl) ?_)))))
    refine Rw rfl ?_
    refine Cf rfl (fun _ => by rw [binOp_float_cmp_gtr, c4]; rfl) ?_
    refine Lpf rfl (Lm rfl (Rs rfl (Rs rfl (Rs rfl (Lpt rfl (Lm rfl (Rs rfl (Rs rfl (Rs rfl (Lpt rfl (Lm rfl (Rs rfl (Rs rfl (Rs rfl (Lpt rfl (Lm rfl (Rs rfl (Rs rfl (Rs rfl (Rs rfl (Rs rfl (Lpt rfl (Lm rfl (Rs rfl (Rs rfl (Rs rfl (Lpt rfl (Lm rfl (Rs rfl (Rs rfl (Rs rfl (Lpt rfl (Rt (Wt rfl (Wq (La rfl (La rfl ?_)))))))))))))))))))))))))))))))))))))
    refine Rt (jaW (ja2 (jb9 rfl rfl rfl ?_)))
    have e : jfA r = 2 := by rw [hE]; rw [f1, f2, f3, if_neg (by decide)]; rw [if_neg (by rw [gc1]; decide)]; rw [if_neg (by rw [gc2]; decide)]; rw [if_neg (by rw [gc3]; decide)]; rw [if_pos gc4]
    exact ⟨_, rfl, .inl ⟨by rw [e]; decide, by rw [e], hs.forget ho⟩⟩
   have gc3 : leB r.gate 0 = true := c3
   refine La rfl (Rqq (Lm rfl (jcP rfl (Lm rfl (Gm rfl rfl (Rw rfl (jcP rfl (Lpf rfl (Lm rfl (Gm rfl rfl (Rw rfl (jcP rfl (Lpf rfl (Rt (Wf rfl (Ws (Wqq (Lf 0 jbM rfl jaS (Ll jb5 rfl (by exact hs.cell (i := 0) rfl rfl) ?_)))))))))))))))))))
   refine Cf rfl (fun _ => by rw [binOp_float_cmp_leq, c1]; rfl) ?_
   refine Lm rfl (Rw rfl (Lf 1 jbM rfl jaS (Rw rfl (Ll jb5 rfl (by exact hs.cell (i := 0) rfl rfl) ?_))))
   refine Rw rfl ?_
   refine Cf rfl (fun _ => by rw [binOp_float_cmp_lss, c2]; rfl) ?_
   refine Lpf rfl (Lm rfl (Rw rfl (Lf 2 jbM rfl jaS (Rw rfl (Ll jb5 rfl (by exact hs.cell (i := 0) rfl rfl) ?_)))))
   refine Rw rfl ?_
   refine Cf rfl (fun _ => by rw [binOp_float_cmp_leq, c3]; rfl) ?_
   refine Lpf rfl (Lm rfl (Rs rfl (Rs rfl (Rs rfl (Lpt rfl (Lm rfl (Rs rfl (Rs rfl (Rs rfl (Lpt rfl (Lm rfl (Rs rfl (Rs rfl (Rs rfl (Lpt rfl (Lm rfl (Rs rfl (Rs rfl (Rs rfl (Lpt rfl (Lm rfl (Rs rfl (Rs rfl (Rs rfl (Rs rfl (Rs rfl (Lpt rfl (Lm rfl (Rs rfl (Rs rfl (Rs rfl (Lpt rfl (Lm rfl (Rs rfl (Rs rfl (Rs rfl (Lpt rfl (Rt ?_))))))))))))))))))))))))))))))))))))))
   refine Wt rfl (Wq (La rfl (La rfl (Rt (jaW (ja2 (jb9 rfl rfl rfl ?_)))))))
   have e : jfA r = 2 := by rw [hE]; rw [f1, f2, f3, if_neg (by decide)]; rw [if_neg (by rw [gc1]; decide)]; rw [if_neg (by rw [gc2]; decide)]; rw [if_pos gc3]
   exact ⟨_, rfl, .inl ⟨by rw [e]; decide, by rw [e], hs.forget ho⟩⟩
  have gc2 : ltB r.sway 0 = true := c2
  refine La rfl (Rqq (Lm rfl (jcP rfl (Lm rfl (Gm rfl rfl (Rw rfl (jcP rfl (Lpf rfl (Lm rfl (Gm rfl rfl (Rw rfl (jcP rfl (Lpf rfl (Rt (Wf rfl (Ws (Wqq (Lf 0 jbM rfl jaS (Ll jb5 rfl (by exact hs.cell (i := 0) rfl rfl) ?_)))))))))))))))))))
  refine Cf rfl (fun _ => by rw [binOp_float_cmp_leq, c1]; rfl) ?_
  refine Lm rfl (Rw rfl (Lf 1 jbM rfl jaS (Rw rfl (Ll jb5 rfl (by exact hs.cell (i := 0) rfl rfl) ?_))))
  refine Rw rfl ?_
  refine Cf rfl (fun _ => by rw [binOp_float_cmp_lss, c2]; rfl) ?_
  refine Lpf rfl (Lm rfl (Rs rfl (Rs rfl (Rs rfl (Lpt rfl (Lm rfl (Rs rfl (Rs rfl (Rs rfl (Lpt rfl (Lm rfl (Rs rfl (Rs rfl (Rs rfl (Lpt rfl (Lm rfl (Rs rfl (Rs rfl (Rs rfl (Lpt rfl (Lm rfl (Rs rfl (Rs rfl (Rs rfl (Lpt rfl (Lm rfl (Rs rfl (Rs rfl (Rs rfl (Rs rfl (Rs rfl (Lpt rfl (Lm rfl (Rs rfl (Rs rfl (Rs rfl (Lpt rfl (Lm rfl ?_))))))))))))))))))))))))))))))))))))))
  refine Rs rfl (Rs rfl (Rs rfl (Lpt rfl (Rt (Wt rfl (Wq (La rfl (La rfl (Rt (jaW (ja2 (jb9 rfl rfl rfl ?_))))))))))))
  have e : jfA r = 2 := by rw [hE]; rw [f1, f2, f3, if_neg (by decide)]; rw [if_neg (by rw [gc1]; decide)]; rw [if_pos gc2]
  exact ⟨_, rfl, .inl ⟨by rw [e]; decide, by rw [e], hs.forget ho⟩⟩
 have gc1 : leB r.noise 0 = true := c1
 refine La rfl (Rqq (Lm rfl (jcP rfl (Lm rfl (Gm rfl rfl (Rw rfl (jcP rfl (Lpf rfl (Lm rfl (Gm rfl rfl (Rw rfl (jcP rfl (Lpf rfl (Rt (Wf rfl (Ws (Wqq (Lf 0 jbM rfl jaS (Ll jb5 rfl (by exact hs.cell (i := 0) rfl rfl) ?_)))))))))))))))))))
 refine Cf rfl (fun _ => by rw [binOp_float_cmp_leq, c1]; rfl) ?_
 refine Lm rfl (Rs rfl (Rs rfl (Rs rfl (Lpt rfl (Lm rfl (Rs rfl (Rs rfl (Rs rfl (Lpt rfl (Lm rfl (Rs rfl (Rs rfl (Rs rfl (Lpt rfl (Lm rfl (Rs rfl (Rs rfl (Rs rfl (Lpt rfl (Lm rfl (Rs rfl (Rs rfl (Rs rfl (Lpt rfl (Lm rfl (Rs rfl (Rs rfl (Rs rfl (Lpt rfl (Lm rfl (Rs rfl (Rs rfl (Rs rfl (Rs rfl (Rs rfl (Lpt rfl (Lm rfl (Rs rfl ?_))))))))))))))))))))))))))))))))))))))
 refine Rs rfl (Rs rfl (Lpt rfl (Lm rfl (Rs rfl (Rs rfl (Rs rfl (Lpt rfl (Rt (Wt rfl (Wq (La rfl (La rfl (Rt (jaW (ja2 (jb9 rfl rfl rfl ?_))))))))))))))))
 have e : jfA r = 2 := by rw [hE]; rw [f1, f2, f3, if_neg (by decide)]; rw [if_pos gc1]
 exact ⟨_, rfl, .inl ⟨by rw [e]; decide, by rw [e], hs.forget ho⟩⟩
end Go.Proofs.YtffobakdngbadaaGreat