/-
  A part of the proof: what functions that the statement reaches do, or a plain law on what they do. Each theorem holds under its own premises alone.
-/
import Derived.Test.YtoiobncojfeoiaaTUJ
namespace Go.Proofs.Ytoiobncojfeoiaa
open Go Go.Lk
/-! ### Watch and In, of a guard's memory -/
theorem WOk.of {w0 : World} {B far : Nat} {v : Value} {M R : Bks} {ever : Int} {m : Nat} {es : List KE} {ck : Nat} {zs : List Zn} {a : Option Addr} {ts : List Tk} (hN : GOk w0 B v M m es ck zs) (hR : Own w0 R) (hA : ∀ w' L', HS w0 w' L' → Own w0 L' → (∀ p ∈ R, p ∈ L') → SlC w' a (tcs ts)) :
    WOk w0 ((B, Row 87 [.float .f64 far, v, .int .i64 ever, .map (some m)]) :: ((M ++ zms zs) ++ R)) B far v ever m zs a ts where
  guard := List.mem_cons_self ..
  own := Own.cons hN.ownB ((hN.bl.own.app (zms_own hN.each)).app hR)
  ownm := hN.ownm
  zones := by
    have hb := hN.bl
    obtain ⟨az, cz, rfl, _⟩ := hb.slice
    exact ⟨az, cz, rfl, fun w' L' hs hL => Bl.slcM hb hs fun p hp => hL p (List.mem_cons_of_mem _ (List.mem_append_left _ (List.mem_append_left _ hp)))⟩
  each z hz := by
    have hb := (hN.each z hz).bl
    obtain ⟨ac, cc, hv, _⟩ := hb.slice
    rw [hv] at hb
    exact ⟨ac, cc, hv, fun w' L' hs hL => Bl.slcM hb hs fun p hp => hL p (List.mem_cons_of_mem _ (List.mem_append_left _ (List.mem_append_right _ (List.mem_flatMap.2 ⟨z, hz, hp⟩))))⟩
  tracks w' L' hs ho hL := hA w' L' hs ho fun p hp => hL p (List.mem_cons_of_mem _ (List.mem_append_right _ hp))
theorem watchG (w0 w : World) (B far : Nat) (v : Value) (M R : Bks) (ever : Int) (m : Nat) (es : List KE) (ck : Nat) (zs : List Zn) (time : Nat) (a : Option Addr) (n c : Nat) (ts : List Tk) (hs : HS w0 w (gbs B far v M ever m es ck zs ++ R)) (hN : GOk w0 B v M m es ck zs) (hR : Own w0 R)
    (hA : ∀ w' L', HS w0 w' L' → Own w0 L' → (∀ p ∈ R, p ∈ L') → SlC w' a (tcs ts)) (hle : es.length ≤ 1000000) (hn : ts.length = n) (hn2 : n ≤ 5000) :
    Ret Try.prog 15 [.pointer (some ⟨B, 0, none⟩), .float .f64 time, .slice a n c] w fun r w' => ∃ N, HS w0 w' ((gbs B far v M ever m (watchF far time zs es ck ts).es (watchF far time zs es ck ts).ck zs ++ R) ++ N) ∧ Bl w0 51 4 r (watchF far time zs es ck ts).told.length (acs (watchF far time zs es ck ts).told) N ∧
      GOk w0 B v M m (watchF far time zs es ck ts).es (watchF far time zs es ck ts).ck zs ∧ (watchF far time zs es ck ts).es.length ≤ es.length + 64 * n := by
  have hs1 : HS w0 w ((m, KO es ck) :: ((B, Row 87 [.float .f64 far, v, .int .i64 ever, .map (some m)]) :: ((M ++ zms zs) ++ R))) := HS.swap hs
  refine Calls.mono (watchW w0 w _ B far v ever m es ck zs time a n c ts hs1 (WOk.of hN hR hA) hN.map hle hn hn2 hN.len) fun e w' => ?_
  rintro ⟨r, rfl, N, hs2, hb, hK, hl⟩
  refine ⟨_, rfl, N, HS.swap hs2, hb, ⟨hN.ownB, hN.ownm, hN.bl, hN.each, hN.len, hK⟩, ?_⟩
  rw [hn] at hl
  exact Nat.le_trans hl (Nat.add_le_add_left (Nat.mul_le_mul_right _ hN.len) _)
theorem inG (w0 w : World) (B far : Nat) (v : Value) (M R : Bks) (ever : Int) (m : Nat) (es : List KE) (ck : Nat) (zs : List Zn) (q : Int) (hs : HS w0 w (gbs B far v M ever m es ck zs ++ R)) (hN : GOk w0 B v M m es ck zs) (hle : es.length ≤ 100000000) :
    Ret Try.prog 17 [.pointer (some ⟨B, 0, none⟩), .int .i64 q] w fun r w' => ∃ N, HS w0 w' ((gbs B far v M ever m es ck zs ++ R) ++ N) ∧ Bl w0 3 1 r (inL es q).length (il (isort (inL es q))) N :=
  inW w0 w _ B far v ever m es ck q hs (List.mem_append_left _ (List.mem_cons_self ..)) (List.mem_append_left _ (List.mem_cons_of_mem _ (List.mem_cons_self ..))) hN.map hle
end Go.Proofs.Ytoiobncojfeoiaa
