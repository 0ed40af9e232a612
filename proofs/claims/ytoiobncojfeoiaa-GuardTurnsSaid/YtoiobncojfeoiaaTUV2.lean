/-
  A part of the proof: what functions that the statement reaches do, or a plain law on what they do. Each theorem holds under its own premises alone.
-/
import Derived.Test.YtoiobncojfeoiaaTUV
import Derived.Test.YtoiobncojfeoiaaTUH
namespace Go.Lk
open Go Go.Deep
section
variable {H : Type} {enc : TypeId × Value → H} {P : Program} {w : World} {base : Nat} {spare : Nat → Bool} {held : Bool} {fuel : Nat} {t : TypeId} {cs : List Value} {x : DataW H × List MemPlace} {fs : Array Field}
theorem weightsEach_at {P : Program} {H : Type} : ∀ {ts : List TypeId} {ds : List (DataW H)} {i : Nat} {t : TypeId} {d : DataW H}, ts[i]? = some t → ds[i]? = some d → ∀ n ∈ d.weights P t, n ∈ DataW.weightsEach P ts ds
  | t :: ts, d :: ds, 0, t', d', h1, h2, n, hn => by
    obtain rfl := Option.some.inj h1
    obtain rfl := Option.some.inj h2
    simp only [DataW.weightsEach, List.mem_append]
    exact .inl hn
  | t :: ts, d :: ds, i + 1, t', d', h1, h2, n, hn => by
    simp only [DataW.weightsEach, List.mem_append]
    exact .inr (weightsEach_at (i := i) h1 h2 n hn)
theorem fld_subL (ht : P.underlying t = some (.struct fs)) (h : DataW.trod enc P w base spare held fuel t cs = some x) (hw : Light P t x.1) {i : Nat} {f : Field} (hf : fs[i]? = some f) :
    ∃ n y, DataW.trod enc P w base spare held n f.type ((cs.drop f.offset).take (P.cellsOf f.type)) = some y ∧ cs.length = P.cellsOf t ∧ Light P f.type y.1 := by
  obtain ⟨xs, n, _, hx0, hl, hlen, hx⟩ := DataW.trod_struct ht h
  have hi : i < xs.length := by rw [hlen]; exact (Array.getElem?_eq_some_iff.1 hf).1
  refine ⟨n, xs[i], (hx i f hf).trans (List.getElem?_eq_getElem hi), hl, fun m hm => hw m ?_⟩
  rw [hx0]
  have hmm := weightsEach_at (P := P) (ts := fs.toList.map (·.type)) (ds := xs.map (·.1)) (i := i) (t := f.type) (d := xs[i].1) (by rw [List.getElem?_map, Array.getElem?_toList, hf]; rfl) (by rw [List.getElem?_map, List.getElem?_eq_getElem hi]; rfl) m hm
  simp only [DataW.weights, ht]
  exact hmm
theorem trod_string' {e : TypeId} {n : Nat} {v : Value} {y : DataW H × List MemPlace} (he : P.underlying e = some .string) (h : DataW.trod enc P w base spare held n e [v] = some y) : ∃ b, v = .string b := by
  cases n with
  | zero => simp [DataW.trod] at h
  | succ n =>
    simp only [DataW.trod, he] at h
    cases v <;> simp at h
    exact ⟨_, rfl⟩
theorem fld_string (ht : P.underlying t = some (.struct fs)) (h : DataW.trod enc P w base spare held fuel t cs = some x) {i : Nat} {f : Field} (hf : fs[i]? = some f) (hc : P.cellsOf f.type = 1) (hk : P.underlying f.type = some .string) (ho : f.offset < cs.length) :
    ∃ b, cs[f.offset]? = some (.string b) := by
  obtain ⟨n, y, hy, _⟩ := fld_sub ht h hf
  rw [hc] at hy
  obtain ⟨c, hcc⟩ := take_one ho
  rw [hcc] at hy
  obtain ⟨b, rfl⟩ := trod_string' hk hy
  exact ⟨b, one_of hcc⟩
end
end Go.Lk
namespace Go.Proofs.Ytoiobncojfeoiaa
open Go Go.Lk
structure Sta where
  x : Nat
  v : Nat
  xx : Nat
  xv : Nat
  vv : Nat
def Sta.cells (s : Sta) : List Value := [.float .f64 s.x, .float .f64 s.v, .float .f64 s.xx, .float .f64 s.xv, .float .f64 s.vv]
/-- a zone that came in -/
structure AZ where
  name : ByteArray
  a : Option Addr
  c : Nat
  ps : List Pt
def AZ.cells (z : AZ) : List Value := [.string z.name, .slice z.a z.ps.length z.c]
def az0 : AZ := ⟨⟨#[]⟩, none, 0, []⟩
def azs (zs : List AZ) : List Value := zs.flatMap AZ.cells
/-- tracks at a time -/
structure LK where
  time : Nat
  a : Option Addr
  c : Nat
  ts : List Tk
def LK.cells (l : LK) : List Value := [.float .f64 l.time, .slice l.a l.ts.length l.c]
def lk0 : LK := ⟨0, none, 0, []⟩
def lks (ls : List LK) : List Value := ls.flatMap LK.cells
theorem azs_len (ts : List AZ) : (azs ts).length = ts.length * 2 := by
  induction ts with
  | nil => rfl
  | cons t ts ih =>
    show (t.cells ++ azs ts).length = _
    rw [List.length_append, ih, List.length_cons]
    show 2 + _ = _
    omega
theorem azs_get : ∀ {ts : List AZ} {i q : Nat} {v : Value}, i < ts.length → (ts.getD i az0).cells[q]? = some v → (azs ts)[i * 2 + q]? = some v
  | t :: ts, 0, q, v, _, h => by
    show (t.cells ++ azs ts)[0 * 2 + q]? = some v
    rw [Nat.zero_mul, Nat.zero_add]
    have hq : q < t.cells.length := (List.getElem?_eq_some_iff.1 h).1
    rw [List.getElem?_append_left hq]; exact h
  | t :: ts, i + 1, q, v, hi, h => by
    show (t.cells ++ azs ts)[(i + 1) * 2 + q]? = some v
    have hl : t.cells.length = 2 := rfl
    rw [List.getElem?_append_right (by omega), show (i + 1) * 2 + q - t.cells.length = i * 2 + q by omega]
    exact azs_get (by simpa using hi) h
theorem azs_at {w : World} {a : Option Addr} {ts : List AZ} (h : SlC w a (azs ts)) {i : Nat} (hi : i < ts.length) : CellsAt w ((aD a).add (i * 2)) (ts.getD i az0).cells := h.sub fun _ _ hv => azs_get hi hv
theorem azs_app (ts us : List AZ) : azs (ts ++ us) = azs ts ++ azs us := List.flatMap_append ..
theorem lks_len (ts : List LK) : (lks ts).length = ts.length * 2 := by
  induction ts with
  | nil => rfl
  | cons t ts ih =>
    show (t.cells ++ lks ts).length = _
    rw [List.length_append, ih, List.length_cons]
    show 2 + _ = _
    omega
theorem lks_get : ∀ {ts : List LK} {i q : Nat} {v : Value}, i < ts.length → (ts.getD i lk0).cells[q]? = some v → (lks ts)[i * 2 + q]? = some v
  | t :: ts, 0, q, v, _, h => by
    show (t.cells ++ lks ts)[0 * 2 + q]? = some v
    rw [Nat.zero_mul, Nat.zero_add]
    have hq : q < t.cells.length := (List.getElem?_eq_some_iff.1 h).1
    rw [List.getElem?_append_left hq]; exact h
  | t :: ts, i + 1, q, v, hi, h => by
    show (t.cells ++ lks ts)[(i + 1) * 2 + q]? = some v
    have hl : t.cells.length = 2 := rfl
    rw [List.getElem?_append_right (by omega), show (i + 1) * 2 + q - t.cells.length = i * 2 + q by omega]
    exact lks_get (by simpa using hi) h
theorem lks_at {w : World} {a : Option Addr} {ts : List LK} (h : SlC w a (lks ts)) {i : Nat} (hi : i < ts.length) : CellsAt w ((aD a).add (i * 2)) (ts.getD i lk0).cells := h.sub fun _ _ hv => lks_get hi hv
theorem lks_app (ts us : List LK) : lks (ts ++ us) = lks ts ++ lks us := List.flatMap_append ..
section
variable {H : Type} {enc : TypeId × Value → H} {w : World} {base : Nat} {spare : Nat → Bool} {held : Bool} {fuel : Nat} {cs : List Value} {x : DataW H × List MemPlace}
theorem cells57 : Try.prog.cellsOf 57 = 5 := by kernel_rfl
theorem cells60 : Try.prog.cellsOf 60 = 15 := by kernel_rfl
theorem cells40 : Try.prog.cellsOf 40 = 2 := by kernel_rfl
theorem cells46 : Try.prog.cellsOf 46 = 2 := by kernel_rfl
theorem cells22 : Try.prog.cellsOf 22 = 1 := by kernel_rfl
theorem cells44 : Try.prog.cellsOf 44 = 1 := by kernel_rfl
theorem open_state (h : DataW.trod enc Try.prog w base spare held fuel 57 cs = some x) : ∃ s : Sta, cs = s.cells := by
  have hl : cs.length = 5 := by obtain ⟨_, _, _, hl⟩ := fld_sub Try.underlying57 h (i := 0) rfl; rw [cells57] at hl; exact hl
  obtain ⟨b0, e0, w0⟩ := fld_float Try.underlying57 h (i := 0) rfl (by kernel_rfl) Try.underlying23 (by rw [hl]; decide)
  obtain ⟨b1, e1, w1⟩ := fld_float Try.underlying57 h (i := 1) rfl (by kernel_rfl) Try.underlying23 (by rw [hl]; decide)
  obtain ⟨b2, e2, w2⟩ := fld_float Try.underlying57 h (i := 2) rfl (by kernel_rfl) Try.underlying23 (by rw [hl]; decide)
  obtain ⟨b3, e3, w3⟩ := fld_float Try.underlying57 h (i := 3) rfl (by kernel_rfl) Try.underlying23 (by rw [hl]; decide)
  obtain ⟨b4, e4, w4⟩ := fld_float Try.underlying57 h (i := 4) rfl (by kernel_rfl) Try.underlying23 (by rw [hl]; decide)
  match cs, hl with
  | [c0, c1, c2, c3, c4], _ =>
    obtain rfl := Option.some.inj e0
    obtain rfl := Option.some.inj e1
    obtain rfl := Option.some.inj e2
    obtain rfl := Option.some.inj e3
    obtain rfl := Option.some.inj e4
    exact ⟨⟨b0, b1, b2, b3, b4⟩, rfl⟩
theorem open_track (h : DataW.trod enc Try.prog w base spare held fuel 60 cs = some x) : ∃ t : Tk, cs = t.cells := by
  obtain ⟨n2, y2, h2, hl⟩ := fld_sub Try.underlying60 h (i := 2) rfl
  obtain ⟨n3, y3, h3, _⟩ := fld_sub Try.underlying60 h (i := 3) rfl
  rw [cells60] at hl
  replace h2 : DataW.trod enc Try.prog w base spare held n2 57 ((cs.drop 2).take 5) = some y2 := by rw [← cells57]; exact h2
  replace h3 : DataW.trod enc Try.prog w base spare held n3 57 ((cs.drop 7).take 5) = some y3 := by rw [← cells57]; exact h3
  obtain ⟨b0, e0, _⟩ := fld_int Try.underlying60 h (i := 0) rfl (by kernel_rfl) Try.underlying3 (by rw [hl]; decide)
  obtain ⟨b1, e1, _⟩ := fld_int Try.underlying60 h (i := 1) rfl (by kernel_rfl) Try.underlying49 (by rw [hl]; decide)
  obtain ⟨b4, e4, _⟩ := fld_int Try.underlying60 h (i := 4) rfl (by kernel_rfl) Try.underlying58 (by rw [hl]; decide)
  obtain ⟨b5, e5, _⟩ := fld_int Try.underlying60 h (i := 5) rfl (by kernel_rfl) Try.underlying3 (by rw [hl]; decide)
  obtain ⟨b6, e6, _⟩ := fld_float Try.underlying60 h (i := 6) rfl (by kernel_rfl) Try.underlying23 (by rw [hl]; decide)
  match cs, hl with
  | [c0, c1, c2, c3, c4, c5, c6, c7, c8, c9, c10, c11, c12, c13, c14], _ =>
    obtain ⟨s, es⟩ := open_state (cs := [c2, c3, c4, c5, c6]) h2
    obtain ⟨u, eu⟩ := open_state (cs := [c7, c8, c9, c10, c11]) h3
    simp only [Sta.cells, List.cons.injEq, and_true] at es eu
    obtain ⟨rfl, rfl, rfl, rfl, rfl⟩ := es
    obtain ⟨rfl, rfl, rfl, rfl, rfl⟩ := eu
    obtain rfl := Option.some.inj e0
    obtain rfl := Option.some.inj e1
    obtain rfl := Option.some.inj e4
    obtain rfl := Option.some.inj e5
    obtain rfl := Option.some.inj e6
    exact ⟨⟨b0, b1, s.x, s.v, s.xx, s.xv, s.vv, u.x, u.v, u.xx, u.xv, u.vv, b4, b5, b6⟩, rfl⟩
theorem open_tracks (h : DataW.trod enc Try.prog w base spare held fuel 44 cs = some x) (hw : Light Try.prog 44 x.1) : ∃ a ts c, cs = [.slice a (List.length ts) c] ∧ ts.length ≤ c ∧ ts.length ≤ 1000000000 * 1000000 ∧ SlC w a (tcs ts) := by
  obtain ⟨a, len, cap, rfl, hc, hb, ha, hx⟩ := open_rowsN Try.underlying44 h hw
  have hc15 : Try.prog.cellsOf 60 = 15 := by kernel_rfl
  have hb60 : 1 ≤ Try.prog.bytesOf 60 := by decide +kernel
  obtain ⟨ts, hl, ht⟩ := choose_list (p := fun i t => CellsAt w ((aD a).add (i * 15)) (Tk.cells t)) tk0 (n := len) (fun i hi => by
    obtain ⟨cs', n, y, h1, h2, h3, h4⟩ := hx i hi
    obtain ⟨t, rfl⟩ := open_track h3
    rw [hc15] at h2
    exact ⟨t, h2⟩)
  subst hl
  refine ⟨a, ts, cap, rfl, hc, ?_, ⟨fun h => ha (by rw [tcs_len] at h; omega), fun j v hv => ?_⟩⟩
  · have := Nat.mul_le_mul_left ts.length hb60
    omega
  · have hj := (List.getElem?_eq_some_iff.1 hv).1
    rw [tcs_len] at hj
    have hi : j / 15 < ts.length := by omega
    have h1 := ht (j / 15) hi
    have hq : (ts.getD (j / 15) tk0).cells[j % 15]? = some v := by
      cases hh : (ts.getD (j / 15) tk0).cells[j % 15]? with
      | none =>
        have := List.getElem?_eq_none_iff.1 hh
        have : (ts.getD (j / 15) tk0).cells.length = 15 := rfl
        omega
      | some u =>
        have := tcs_get hi hh
        rw [show j / 15 * 15 + j % 15 = j by omega, hv] at this
        exact this.symm
    have := h1 (j % 15) v hq
    rw [add_add, show j / 15 * 15 + j % 15 = j by omega] at this
    exact this
theorem open_zone (h : DataW.trod enc Try.prog w base spare held fuel 40 cs = some x) (hw : Light Try.prog 40 x.1) : ∃ z : AZ, cs = z.cells ∧ SlC w z.a (pcs z.ps) ∧ z.ps.length ≤ 1000000000000000 := by
  obtain ⟨n1, y1, h1, hl, hw1⟩ := fld_subL Try.underlying40 h hw (i := 1) rfl
  rw [cells40] at hl
  replace h1 : DataW.trod enc Try.prog w base spare held n1 22 ((cs.drop 1).take (Try.prog.cellsOf 22)) = some y1 := h1
  rw [cells22] at h1
  obtain ⟨b0, e0⟩ := fld_string Try.underlying40 h (i := 0) rfl (by kernel_rfl) Try.underlying9 (by rw [hl]; decide)
  match cs, hl with
  | [c0, c1], _ =>
    obtain ⟨a, ps, c, e, _, hm, hs⟩ := open_points (cs := [c1]) h1 hw1
    obtain rfl := (List.cons.inj e).1
    obtain rfl := Option.some.inj e0
    exact ⟨⟨b0, a, c, ps⟩, rfl, hs, (by show ps.length ≤ _; have h9 : ps.length ≤ 1000000000 * 1000000 := hm; omega)⟩
theorem open_look (h : DataW.trod enc Try.prog w base spare held fuel 46 cs = some x) (hw : Light Try.prog 46 x.1) : ∃ l : LK, cs = l.cells ∧ SlC w l.a (tcs l.ts) ∧ l.ts.length ≤ 1000000000000000 := by
  obtain ⟨n1, y1, h1, hl, hw1⟩ := fld_subL Try.underlying46 h hw (i := 1) rfl
  rw [cells46] at hl
  replace h1 : DataW.trod enc Try.prog w base spare held n1 44 ((cs.drop 1).take (Try.prog.cellsOf 44)) = some y1 := h1
  rw [cells44] at h1
  obtain ⟨b0, e0, _⟩ := fld_float Try.underlying46 h (i := 0) rfl (by kernel_rfl) Try.underlying23 (by rw [hl]; decide)
  match cs, hl with
  | [c0, c1], _ =>
    obtain ⟨a, ts, c, e, _, hm, hs⟩ := open_tracks (cs := [c1]) h1 hw1
    obtain rfl := (List.cons.inj e).1
    obtain rfl := Option.some.inj e0
    exact ⟨⟨b0, a, c, ts⟩, rfl, hs, (by show ts.length ≤ _; have h9 : ts.length ≤ 1000000000 * 1000000 := hm; omega)⟩
theorem open_zones (h : DataW.trod enc Try.prog w base spare held fuel 31 cs = some x) (hw : Light Try.prog 31 x.1) : ∃ a ts c, cs = [.slice a (List.length ts) c] ∧ ts.length ≤ 1000000000000000 ∧ SlC w a (azs ts) ∧ ∀ i, i < ts.length → SlC w (AZ.a (ts.getD i az0)) (pcs (AZ.ps (ts.getD i az0))) ∧ (AZ.ps (ts.getD i az0)).length ≤ 1000000000000000 := by
  obtain ⟨a, len, cap, rfl, hc, hb, ha, hx⟩ := open_rowsN Try.underlying31 h hw
  have hbE : 1 ≤ Try.prog.bytesOf 40 := by decide +kernel
  obtain ⟨ts, hl, ht⟩ := choose_list (p := fun i t => CellsAt w ((aD a).add (i * 2)) (AZ.cells t) ∧ SlC w (AZ.a t) (pcs (AZ.ps t)) ∧ (AZ.ps t).length ≤ 1000000000000000) az0 (n := len) (fun i hi => by
    obtain ⟨cs', n, y, h1, h2, h3, h4⟩ := hx i hi
    obtain ⟨t, rfl, hp⟩ := open_zone h3 h4
    rw [cells40] at h2
    exact ⟨t, h2, hp⟩)
  subst hl
  refine ⟨a, ts, cap, rfl, ?_, ⟨fun h => ha (by rw [azs_len] at h; omega), fun j v hv => ?_⟩, fun i hi => (ht i hi).2⟩
  · have := Nat.mul_le_mul_left ts.length hbE
    omega
  · have hj := (List.getElem?_eq_some_iff.1 hv).1
    rw [azs_len] at hj
    have hi : j / 2 < ts.length := by omega
    have h1 := (ht (j / 2) hi).1
    have hq : (ts.getD (j / 2) az0).cells[j % 2]? = some v := by
      cases hh : (ts.getD (j / 2) az0).cells[j % 2]? with
      | none =>
        have := List.getElem?_eq_none_iff.1 hh
        have : (ts.getD (j / 2) az0).cells.length = 2 := rfl
        omega
      | some u =>
        have := azs_get hi hh
        rw [show j / 2 * 2 + j % 2 = j by omega, hv] at this
        exact this.symm
    have := h1 (j % 2) v hq
    rw [add_add, show j / 2 * 2 + j % 2 = j by omega] at this
    exact this
theorem open_looks (h : DataW.trod enc Try.prog w base spare held fuel 32 cs = some x) (hw : Light Try.prog 32 x.1) : ∃ a ts c, cs = [.slice a (List.length ts) c] ∧ ts.length ≤ 1000000000000000 ∧ SlC w a (lks ts) ∧ ∀ i, i < ts.length → SlC w (LK.a (ts.getD i lk0)) (tcs (LK.ts (ts.getD i lk0))) ∧ (LK.ts (ts.getD i lk0)).length ≤ 1000000000000000 := by
  obtain ⟨a, len, cap, rfl, hc, hb, ha, hx⟩ := open_rowsN Try.underlying32 h hw
  have hbE : 1 ≤ Try.prog.bytesOf 46 := by decide +kernel
  obtain ⟨ts, hl, ht⟩ := choose_list (p := fun i t => CellsAt w ((aD a).add (i * 2)) (LK.cells t) ∧ SlC w (LK.a t) (tcs (LK.ts t)) ∧ (LK.ts t).length ≤ 1000000000000000) lk0 (n := len) (fun i hi => by
    obtain ⟨cs', n, y, h1, h2, h3, h4⟩ := hx i hi
    obtain ⟨t, rfl, hp⟩ := open_look h3 h4
    rw [cells46] at h2
    exact ⟨t, h2, hp⟩)
  subst hl
  refine ⟨a, ts, cap, rfl, ?_, ⟨fun h => ha (by rw [lks_len] at h; omega), fun j v hv => ?_⟩, fun i hi => (ht i hi).2⟩
  · have := Nat.mul_le_mul_left ts.length hbE
    omega
  · have hj := (List.getElem?_eq_some_iff.1 hv).1
    rw [lks_len] at hj
    have hi : j / 2 < ts.length := by omega
    have h1 := (ht (j / 2) hi).1
    have hq : (ts.getD (j / 2) lk0).cells[j % 2]? = some v := by
      cases hh : (ts.getD (j / 2) lk0).cells[j % 2]? with
      | none =>
        have := List.getElem?_eq_none_iff.1 hh
        have : (ts.getD (j / 2) lk0).cells.length = 2 := rfl
        omega
      | some u =>
        have := lks_get hi hh
        rw [show j / 2 * 2 + j % 2 = j by omega, hv] at this
        exact this.symm
    have := h1 (j % 2) v hq
    rw [add_add, show j / 2 * 2 + j % 2 = j by omega] at this
    exact this
end
end Go.Proofs.Ytoiobncojfeoiaa
