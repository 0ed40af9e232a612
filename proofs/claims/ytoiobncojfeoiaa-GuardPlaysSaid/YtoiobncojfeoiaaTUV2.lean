/-
  A part of the proof: what functions that the statement reaches do, or a plain law on what they do. Each theorem holds under its own premises alone.
-/
import Derived.Test.YtoiobncojfeoiaaTUV
import Derived.Test.YtoiobncojfeoiaaTUH
namespace Go.Lk
open Go Go.Deep
section
variable {H : Type} {enc : TypeId × Value → H} {P : Program} {w : World} {base : Nat} {spare : Nat → Bool} {held : Bool} {fuel : Nat} {t : TypeId} {cs : List Value} {x : DataW H × List MemPlace} {fs : Array Field}
theorem weightsEach_at {P : Program} {H : Type} : ∀ {ts : List TypeId} {ds : List (DataW H)} {i : Nat} {t : TypeId} {d : DataW H}, ts[i]? = some t → ds[i]? = some d → ∀ n ∈ d.weights P t, n ∈ DataW.weightsEach P ts ds
  | t :: ts, d :: ds, 0, t', d', h1, h2, n, hn => by
    obtain rfl := Option.some.inj h1
    obtain rfl := Option.some.inj h2
    simp only [DataW.weightsEach, List.mem_append]
    exact .inl hn
  | t :: ts, d :: ds, i + 1, t', d', h1, h2, n, hn => by
    simp only [DataW.weightsEach, List.mem_append]
    exact .inr (weightsEach_at (i := i) h1 h2 n hn)
theorem fld_subL (ht : P.underlying t = some (.struct fs)) (h : DataW.trod enc P w base spare held fuel t cs = some x) (hw : Light P t x.1) {i : Nat} {f : Field} (hf : fs[i]? = some f) :
    ∃ n y, DataW.trod enc P w base spare held n f.type ((cs.drop f.offset).take (P.cellsOf f.type)) = some y ∧ cs.length = P.cellsOf t ∧ Light P f.type y.1 := by
  obtain ⟨xs, n, _, hx0, hl, hlen, hx⟩ := DataW.trod_struct ht h
  have hi : i < xs.length := by rw [hlen]; exact (Array.getElem?_eq_some_iff.1 hf).1
  refine ⟨n, xs[i], (hx i f hf).trans (List.getElem?_eq_getElem hi), hl, fun m hm => hw m ?_⟩
  rw [hx0]
  have hmm := weightsEach_at (P := P) (ts := fs.toList.map (·.type)) (ds := xs.map (·.1)) (i := i) (t := f.type) (d := xs[i].1) (by rw [List.getElem?_map, Array.getElem?_toList, hf]; rfl) (by rw [List.getElem?_map, List.getElem?_eq_getElem hi]; rfl) m hm
  simp only [DataW.weights, ht]
  exact hmm
theorem trod_string' {e : TypeId} {n : Nat} {v : Value} {y : DataW H × List MemPlace} (he : P.underlying e = some .string) (h : DataW.trod enc P w base spare held n e [v] = some y) : ∃ b, v = .string b := by
  cases n with
  | zero => simp [DataW.trod] at h
  | succ n =>
    simp only [DataW.trod, he] at h
    cases v <;> simp at h
    exact ⟨_, rfl⟩
theorem fld_string (ht : P.underlying t = some (.struct fs)) (h : DataW.trod enc P w base spare held fuel t cs = some x) {i : Nat} {f : Field} (hf : fs[i]? = some f) (hc : P.cellsOf f.type = 1) (hk : P.underlying f.type = some .string) (ho : f.offset < cs.length) :
    ∃ b, cs[f.offset]? = some (.string b) := by
  obtain ⟨n, y, hy, _⟩ := fld_sub ht h hf
  rw [hc] at hy
  obtain ⟨c, hcc⟩ := take_one ho
  rw [hcc] at hy
  obtain ⟨b, rfl⟩ := trod_string' hk hy
  exact ⟨b, one_of hcc⟩
end
end Go.Lk
namespace Go.Proofs.Ytoiobncojfeoiaa
open Go Go.Lk
structure Sta where
  x : Nat
  v : Nat
  xx : Nat
  xv : Nat
  vv : Nat
def Sta.cells (s : Sta) : List Value := [.float .f64 s.x, .float .f64 s.v, .float .f64 s.xx, .float .f64 s.xv, .float .f64 s.vv]
/-- a zone that came in -/
structure AZ where
  name : ByteArray
  a : Option Addr
  c : Nat
  ps : List Pt
def AZ.cells (z : AZ) : List Value := [.string z.name, .slice z.a z.ps.length z.c]
def az0 : AZ := ⟨⟨#[]⟩, none, 0, []⟩
/-- tracks at a time -/
structure LK where
  time : Nat
  a : Option Addr
  c : Nat
  ts : List Tk
def LK.cells (l : LK) : List Value := [.float .f64 l.time, .slice l.a l.ts.length l.c]
section
variable {H : Type} {enc : TypeId × Value → H} {w : World} {base : Nat} {spare : Nat → Bool} {held : Bool} {fuel : Nat} {cs : List Value} {x : DataW H × List MemPlace}
theorem cells57 : Try.prog.cellsOf 57 = 5 := by kernel_rfl
theorem cells60 : Try.prog.cellsOf 60 = 15 := by kernel_rfl
theorem cells40 : Try.prog.cellsOf 40 = 2 := by kernel_rfl
theorem cells22 : Try.prog.cellsOf 22 = 1 := by kernel_rfl
theorem cells44 : Try.prog.cellsOf 44 = 1 := by kernel_rfl
end
end Go.Proofs.Ytoiobncojfeoiaa
