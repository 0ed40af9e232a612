/-
  A part of the proof: laws for walks, and plain laws, over any program of the model. Each theorem holds under its own premises alone.
-/
import Derived.Test.YtffobakdngbadaaGreatKit
import Derived.Test.YtffobakdngbadaaGreatP1
import Derived.Test.YtffobakdngbadaaGreatKitQ
import Derived.Test.YtffobakdngbadaaGreatKitP
namespace Go.Proofs.YtffobakdngbadaaGreat
open Go Go.Lk
structure Stt where
 x : Nat
 v : Nat
 p : Nat
 q : Nat
 r : Nat
def Stt.cells (s : Stt) : List Value := [.float .f64 s.x, .float .f64 s.v, .float .f64 s.p, .float .f64 s.q, .float .f64 s.r]
def Stt.c (s : Stt) : Stt := ⟨cn s.x, cn s.v, cn s.p, cn s.q, cn s.r⟩
theorem Stt.one (s : Stt) : ∀ v ∈ s.cells, v.oneCell' = true := by simp [Stt.cells, Value.oneCell']
def gtZ (x : Nat) : Bool := FloatKind.f64.format.order x 0 == some .gt
theorem jgC {x y : Nat} (h : cn x = cn y) : gtZ x = gtZ y := by unfold gtZ; rw [jd5 h rfl]
def jcZ (x : Nat) : Nat := if gtZ x then x else 0
theorem je2 {x y : Nat} (h : cn x = cn y) : cn (jcZ x) = cn (jcZ y) := by
 unfold jcZ
 rw [jgC h]
 split
 ·
  exact h
 rfl
theorem jrG (x : Nat) (w : World) : Ret Tryz.prog 63 [.float .f64 x] w fun v w' => v = .float .f64 (jcZ x) /\ w' = w := by
 refine ja7 Tryz.func63 rfl rfl rfl ?_
 obtain ⟨b, hb⟩ : ∃ b, (FloatKind.f64.format.order x 0 == some .gt) = b := ⟨_, rfl⟩
 cases b
 ·
  refine Wq (La rfl (Rqq (Lm rfl ?_)))
  refine Cf rfl (fun _ => by rw [binOp_float_cmp_gtr, hb]; rfl) ?_
  refine jcP rfl (Rt (Wt rfl (Wq (La rfl (Rt (jaW (ja2 (ja9 rfl rfl ?_))))))))
  exact ⟨_, rfl, by unfold jcZ gtZ; rw [hb]; rfl, rfl⟩
 refine Wq (La rfl (Rqq (Lm rfl ?_)))
 refine Cf rfl (fun _ => by rw [binOp_float_cmp_gtr, hb]; rfl) ?_
 refine jcP rfl (Rt (Wf rfl (Ws (Wq (Lm rfl (La rfl (Rt (jaW (ja9 rfl rfl ?_)))))))))
 exact ⟨_, rfl, by unfold jcZ gtZ; rw [hb]; rfl, rfl⟩
theorem inf_ok (w : World) : Ret Tryz.prog 19 [.int .i64 1] w fun v w' => v = .float .f64 9218868437227405312 /\ w' = w := by
 refine ja7 Tryz.func19 rfl rfl rfl (Wq (La rfl (Rq (La rfl (Rqq (Lm rfl ?_))))))
 refine jgM rfl (jaF (by omega)) ?_
 refine Rt (Wt rfl (Wr (La rfl (Rq (Lm rfl (jaT rfl (jh9 Tryz.ext45 rfl) (La rfl (Rt (jaW (ja9 rfl rfl ?_))))))))))
 exact ⟨_, rfl, rfl, rfl⟩
theorem ninf_ok (w : World) : Ret Tryz.prog 19 [.int .i64 (-1)] w fun v w' => v = .float .f64 18442240474082181120 /\ w' = w := by
 refine ja7 Tryz.func19 rfl rfl rfl (Wq (La rfl (Rq (La rfl (Rqq (Lm rfl ?_))))))
 refine jgM rfl (jaA (by omega)) ?_
 refine Rt (Wf rfl (Wr (La rfl (Rq (Lm rfl (jaT rfl (jh9 Tryz.ext45 rfl) (La rfl (Rt (jaW (ja9 rfl rfl ?_))))))))))
 exact ⟨_, rfl, rfl, rfl⟩
def jdY (x n w : Nat) : Stt := ⟨x, 0, n, 0, w⟩
theorem start_ok (x n w : Nat) (w0 : World) : Ret Tryz.prog 39 [.float .f64 x, .float .f64 n, .float .f64 w] w0 fun v w' => v = .agg (jdY x n w).cells.toArray /\ HS w0 w' [] := by
 refine Ret.start fun w' hs => ?_
 refine ja7 Tryz.func39 rfl rfl rfl (Wq (jbL rfl hs jbP ?_))
 intro b6 w hb6 hnb6 hs
 dsimp only [sS, sZ, sA, sN] at hs
 refine Rq (Lmm rfl rfl (Lm rfl (jbE rfl rfl (Pl.built Tryz.pl48 rfl) (jaQ hs (i := 0) rfl jbP rfl rfl (by rfl) (by simp) (by simp [Value.oneCell']) ?_))))
 intro w hs
 dsimp only [sS, sZ, sA, sN] at hs
 refine Rt (jaW (jc7 rfl rfl jfY jbP (by exact jaE (hs.get (i := 0) rfl)) ?_))
 exact ⟨_, rfl, rfl, hs.forget (Own.cons hb6 Own.nil)⟩
def jmK (s : Stt) (n : Nat) : Nat := fop .add s.p n
def jpS (s : Stt) (x n : Nat) : Nat := if gtZ (jmK s n) then fop .quo (fop .mul (fop .sub x s.x) (fop .sub x s.x)) (jmK s n) else 9218868437227405312
theorem jq9 {s u : Stt} {x y n : Nat} (h : s.c = u.c) (hx : cn x = cn y) : jpS s x n = jpS u y n := by
 have h1 : cn s.x = cn u.x := congrArg Stt.x h
 have h2 : cn s.p = cn u.p := congrArg Stt.p h
 have e : jmK s n = jmK u n := ja5 h2 rfl
 have e2 : fop .sub x s.x = fop .sub y u.x := ja5 hx h1
 unfold jpS
 rw [e, e2]
theorem far_ok (s : Stt) (x n : Nat) (w0 : World) : Ret Tryz.prog 64 [.agg s.cells.toArray, .float .f64 x, .float .f64 n] w0 fun v w' => (∃ d, v = .float .f64 d /\ cn d = cn (jpS s x n)) /\ HS w0 w' [] := by
 refine Ret.start fun w hs => ?_
 refine ja7 Tryz.func64 rfl rfl rfl (Wq (jeH rfl hs rfl ?_))
 intro b3 w hb3 hnb3 hs
 dsimp only [sS, sZ, sA, sN] at hs
 refine La rfl (Rqq ?_)
 replace hs : HS w0 w [(b3, Row 48 s.cells)] := hs
 refine Lf 2 jdE rfl jaS (Ll jb5 rfl (by exact hs.cell (i := 0) rfl rfl) ?_)
 refine Lm rfl (jaC rfl (op := .add) rfl rfl rfl ?_)
 intro r12 k12 hr12
 replace hs := hs.drewN k12
 refine La rfl (Rq (Lm rfl ?_))
 have ew : cn r12 = cn (jmK s n) := (Fs.cn hr12).trans (jaL ..).symm
 have hg : (FloatKind.f64.format.order r12 0 == some .gt) = gtZ (jmK s n) := jgC ew
 cases hb : gtZ (jmK s n)
 ·
  rw [hb] at hg
  refine Cf rfl (fun _ => by rw [binOp_float_cmp_gtr, hg]; rfl) ?_
  refine Rt (Wf rfl (Ws (Wq (Lc f_19 rfl (inf_ok _) ?_))))
  rintro _ _ ⟨rfl, rfl⟩
  refine La rfl (Rt (jaW (ja9 rfl rfl ?_)))
  exact ⟨_, rfl, ⟨_, rfl, by unfold jpS; rw [hb]; rfl⟩, hs.forget (Own.cons hb3 Own.nil)⟩
 rw [hb] at hg
 refine Cf rfl (fun _ => by rw [binOp_float_cmp_gtr, hg]; rfl) ?_
 refine Rt (Wt rfl (Wq (Lm rfl (Lf 0 jdE rfl jaS (Ll jb5 rfl (by exact hs.cell (i := 0) rfl rfl) ?_)))))
 refine jaC rfl (op := .sub) rfl rfl rfl ?_
 intro r18 k18 hr18
 replace hs := hs.drewN k18
 refine La rfl (Rq (Lmm rfl rfl (jaC rfl (op := .mul) rfl rfl rfl ?_)))
 intro r21 k21 hr21
 replace hs := hs.drewN k21
 refine Lm rfl (jaC rfl (op := .quo) rfl rfl rfl ?_)
 intro r23 k23 hr23
 replace hs := hs.drewN k23
 refine La rfl (Rt (jaW (ja2 (ja9 rfl rfl ?_))))
 refine ⟨_, rfl, ⟨_, rfl, ?_⟩, hs.forget (Own.cons hb3 Own.nil)⟩
 unfold jpS
 rw [hb, if_pos rfl, jaL]
 have ey : cn r18 = cn (fop .sub x s.x) := (Fs.cn hr18).trans (jaL ..).symm
 exact (Fs.cn hr23).trans (ja5 ((Fs.cn hr21).trans ((ja5 ey ey).trans (jaL ..).symm)) ew)
def jdB (s : Stt) (t w : Nat) : Stt :=
 if gtZ t then ⟨fop .add s.x (fop .mul s.v t), s.v, jcZ (fop .add (fop .add (fop .add (fop .add s.p (fop .mul s.q t)) (fop .mul s.q t)) (fop .mul (fop .mul s.r t) t)) (fop .quo (fop .mul (fop .mul (fop .mul w t) t) t) 4613937818241073152)),
  fop .add (fop .add s.q (fop .mul s.r t)) (fop .quo (fop .mul (fop .mul w t) t) 4611686018427387904), fop .add s.r (fop .mul w t)⟩ else s
theorem jd3 {s u : Stt} {t t' w : Nat} (h : s.c = u.c) (ht : cn t = cn t') : (jdB s t w).c = (jdB u t' w).c := by
 have h1 : cn s.x = cn u.x := congrArg Stt.x h
 have h2 : cn s.v = cn u.v := congrArg Stt.v h
 have h3 : cn s.p = cn u.p := congrArg Stt.p h
 have h4 : cn s.q = cn u.q := congrArg Stt.q h
 have h5 : cn s.r = cn u.r := congrArg Stt.r h
 unfold jdB
 rw [jgC ht]
 split
 ·
  unfold Stt.c
  dsimp only
  have e1 : fop .mul s.v t = fop .mul u.v t' := ja5 h2 ht
  have e2 : fop .mul s.q t = fop .mul u.q t' := ja5 h4 ht
  have e3 : fop .mul s.r t = fop .mul u.r t' := ja5 h5 ht
  have e4 : fop .mul w t = fop .mul w t' := ja5 rfl ht
  rw [e1, e2, e3, e4, ja5 (op := .add) h1 rfl, h2, ja5 (op := .add) h3 rfl, ja5 (op := .add) h4 rfl, ja5 (op := .add) h5 rfl, ja5 (op := .mul) (x := fop .mul u.r t') rfl ht, ja5 (op := .mul) (x := fop .mul w t') rfl ht, ja5 (op := .mul) (x := fop .mul (fop .mul w t') t') rfl ht]
 exact h
def SPA (f : FuncId) (args : Array Value) (v : Value) : Prop := match f, args.toList with
 | 63, [.float .f64 x] => v = .float .f64 (jcZ x)
 | _, _ => False
theorem aboveH {w0 w : World} {L : Bks} (hs : HS w0 w L) (x : Nat) : Ret Tryz.prog 63 [.float .f64 x] w fun v w' => SPA 63 [.float .f64 x].toArray v /\ HS w0 w' L :=
 Calls.mono (jrG x w) fun e w' => by
  rintro ⟨v, rfl, rfl, rfl⟩
  exact ⟨_, rfl, rfl, hs⟩
theorem ahead_ok (s : Stt) (t q : Nat) (w0 : World) : Ret Tryz.prog 34 [.agg s.cells.toArray, .float .f64 t, .float .f64 q] w0 fun v w' => (∃ u : Stt, v = .agg u.cells.toArray /\ u.c = (jdB s t q).c) /\ HS w0 w' [] := by
 refine Ret.start fun w hs => ?_
 refine ja7 Tryz.func34 rfl rfl rfl (Wq (jeH rfl hs rfl ?_))
 intro b3 w hb3 hnb3 hs
 dsimp only [sS, sZ, sA, sN] at hs
 refine jbL rfl hs jbP ?_
 intro b6 w hb6 hnb6 hs
 dsimp only [sS, sZ, sA, sN] at hs
 refine Rqq ?_
 replace hs : HS w0 w [(b3, Row 48 s.cells), (b6, Row 48 [.float .f64 0, .float .f64 0, .float .f64 0, .float .f64 0, .float .f64 0])] := hs
 cases hb : gtZ t
 ·
  unfold gtZ at hb
  refine Lm rfl ?_
  refine Cf rfl (fun _ => by rw [binOp_float_cmp_gtr, hb]; rfl) ?_
  refine jcP rfl (Rt (Wt rfl (Wq (jb7 rfl jfY jbP rfl (by exact jaE (cs := s.cells) (hs.get (i := 0) rfl)) ?_))))
  refine jaQ hs (i := 1) rfl jbP rfl rfl (by rfl) (by simp [Stt.cells]) (by exact Stt.one s) ?_
  intro w hs
  dsimp only [sS, sZ, sA, sN] at hs
  refine Rt (jaW (ja2 (jc7 rfl rfl jfY jbP (by exact jaE (cs := s.cells) (hs.get (i := 1) rfl)) ?_)))
  exact ⟨_, rfl, ⟨s, rfl, by unfold jdB gtZ; rw [hb]; rfl⟩, hs.forget (Own.cons hb3 (Own.cons hb6 Own.nil))⟩
 have hb' := hb
 unfold gtZ at hb'
 refine Lm rfl ?_
 refine Cf rfl (fun _ => by rw [binOp_float_cmp_gtr, hb']; rfl) ?_
 refine jcP rfl (Rt (Wf rfl (Ws (Wq (Lm rfl (La rfl (Rt (Wsq (jqD Tryz.mixed ?_)))))))))
 replace hs := hs.drewN 1
 refine jbR [0, 2, 4, 6, 8, 9] [1, 3, 5, 7, 10, 11, 12, 13] [] (jmZ SPA) (g' := 0) (by kernel_rfl) (by kernel_rfl) (fun _ _ _ _ _ h => h) hs ?_
 refine Pfa 3 jdE rfl jaS (Pm rfl (Pfa 4 jdE rfl jaS (Pm rfl (Pm rfl (Pm rfl (jd0 (jaP rfl (fun w R hR hs => jaN jb5 rfl (by exact hs.cell (i := 0) rfl rfl)) ?_)))))))
 refine jbV rfl (op := .mul) rfl rfl rfl ?_
 intro r20 hr20
 refine jaP rfl (fun w R hR hs => jaN jb5 rfl (by exact hs.cell (i := 0) rfl rfl)) ?_
 refine jbV rfl (op := .mul) rfl rfl rfl ?_
 intro r24 hr24
 refine jbV rfl (op := .mul) rfl rfl rfl ?_
 intro r27 hr27
 refine jaP rfl (fun w R hR hs => jbS rfl) ?_
 refine jaP rfl (fun w R hR hs => jbS rfl) ?_
 refine jaP rfl (fun w R hR hs => jbS rfl) ?_
 refine jcU ?_
 intro w hs
 refine jg5 (jdW (by kernel_rfl) ?_)
 refine Nt (Wq (Lmm rfl rfl (jaC rfl (op := .mul) rfl rfl rfl ?_)))
 intro r30 k30 hr30
 replace hs := hs.drewN k30
 refine La rfl (Rt (Wsq (jqD Tryz.mixed ?_)))
 replace hs := hs.drewN 1
 refine jbR [0, 2, 4, 7, 9, 11, 13, 15, 16, 19, 20, 25, 27, 29, 32, 34] [1, 3, 5, 6, 8, 10, 12, 14, 17, 18, 21, 22, 23, 24, 26, 28, 30, 31, 33, 35, 36] [37] (jmZ SPA) (g' := 0) (by kernel_rfl) (by kernel_rfl) (fun _ _ _ _ _ h => h) hs ?_
 refine Pfa 0 jdE rfl jaS (Pfa 1 jdE rfl jaS (Pm rfl (Pfa 1 jdE rfl jaS (Pfa 2 jdE rfl jaS (Pm rfl (Pm rfl (Pm rfl (Pm rfl (Pm rfl (Pm rfl (Pfa 3 jdE rfl jaS (Pm rfl (Pm rfl (Pfa 4 jdE rfl jaS (Pm rfl (jd0 (jaP rfl (fun w R hR hs => jaN jb5 rfl (by exact hs.cell (i := 0) rfl rfl)) ?_)))))))))))))))))
 refine jaP rfl (fun w R hR hs => jaN jb5 rfl (by exact hs.cell (i := 0) rfl rfl)) ?_
 refine jbV rfl (op := .mul) rfl rfl rfl ?_
 intro r36 hr36
 refine jbV rfl (op := .add) rfl rfl rfl ?_
 intro r37 hr37
 refine jaP rfl (fun w R hR hs => jaN jb5 rfl (by exact hs.cell (i := 0) rfl rfl)) ?_
 refine jaP rfl (fun w R hR hs => jaN jb5 rfl (by exact hs.cell (i := 0) rfl rfl)) ?_
 refine jbV rfl (op := .add) rfl rfl rfl ?_
 intro r43 hr43
 refine jbV rfl (op := .add) rfl rfl rfl ?_
 intro r45 hr45
 refine jbV rfl (op := .mul) rfl rfl rfl ?_
 intro r48 hr48
 refine jbV rfl (op := .add) rfl rfl rfl ?_
 intro r49 hr49
 refine jbV rfl (op := .mul) rfl rfl rfl ?_
 intro r52 hr52
 refine jbV rfl (op := .quo) rfl rfl rfl ?_
 intro r53 hr53
 refine jbV rfl (op := .add) rfl rfl rfl ?_
 intro r54 hr54
 refine jc5 rfl f_63 rfl (fun w R hR hs => aboveH hs _) ?_
 rintro _ rfl
 refine jaP rfl (fun w R hR hs => jaN jb5 rfl (by exact hs.cell (i := 0) rfl rfl)) ?_
 refine jbV rfl (op := .add) rfl rfl rfl ?_
 intro r59 hr59
 refine jbV rfl (op := .quo) rfl rfl rfl ?_
 intro r61 hr61
 refine jbV rfl (op := .add) rfl rfl rfl ?_
 intro r62 hr62
 refine jaP rfl (fun w R hR hs => jaN jb5 rfl (by exact hs.cell (i := 0) rfl rfl)) ?_
 refine jbV rfl (op := .add) rfl rfl rfl ?_
 intro r66 hr66
 refine jaP rfl (fun w R hR hs => R_build rfl (Pl.built Tryz.pl48 rfl)) ?_
 refine jcU ?_
 intro w hs
 refine jaQ hs (i := 1) rfl jbP rfl rfl (by rfl) (by simp [Stt.cells]) (by simp [Value.oneCell']) ?_
 intro w hs
 dsimp only [sS, sZ, sA, sN] at hs
 refine jg5 (jdW (by kernel_rfl) ?_)
 refine Nt (jaW (jc7 rfl rfl jfY jbP (by exact jaE (hs.get (i := 1) rfl)) ?_))
 refine ⟨_, rfl, ⟨⟨r37, s.v, jcZ r54, r62, r66⟩, rfl, ?_⟩, hs.forget (Own.cons hb3 (Own.cons hb6 Own.nil))⟩
 unfold jdB
 rw [hb, if_pos rfl]
 have c20 := (Fs.cn hr20).trans (jaL ..).symm
 have c24 := (Fs.cn hr24).trans (jaL ..).symm
 have c27 := (Fs.cn hr27).trans (jaL ..).symm
 have c30 : cn r30 = cn (fop .mul (fop .mul q t) t) := (Fs.cn hr30).trans ((ja5 c27 rfl).trans (jaL ..).symm)
 have c43 : cn r43 = cn (fop .add s.p (fop .mul s.q t)) := (Fs.cn hr43).trans ((ja5 rfl c20).trans (jaL ..).symm)
 have c45 : cn r45 = cn (fop .add (fop .add s.p (fop .mul s.q t)) (fop .mul s.q t)) := (Fs.cn hr45).trans ((ja5 c43 c20).trans (jaL ..).symm)
 have c48 : cn r48 = cn (fop .mul (fop .mul s.r t) t) := (Fs.cn hr48).trans ((ja5 c24 rfl).trans (jaL ..).symm)
 have c49 := (Fs.cn hr49).trans ((ja5 c45 c48).trans (jaL ..).symm)
 have c52 : cn r52 = cn (fop .mul (fop .mul (fop .mul q t) t) t) := (Fs.cn hr52).trans ((ja5 c30 rfl).trans (jaL ..).symm)
 have c53 := (Fs.cn hr53).trans ((ja5 c52 rfl).trans (jaL ..).symm)
 have c54 := (Fs.cn hr54).trans ((ja5 c49 c53).trans (jaL ..).symm)
 have c36 := (Fs.cn hr36).trans (jaL ..).symm
 have c37 := (Fs.cn hr37).trans ((ja5 rfl c36).trans (jaL ..).symm)
 have c59 := (Fs.cn hr59).trans ((ja5 rfl c24).trans (jaL ..).symm)
 have c61 := (Fs.cn hr61).trans ((ja5 c30 rfl).trans (jaL ..).symm)
 have c62 := (Fs.cn hr62).trans ((ja5 c59 c61).trans (jaL ..).symm)
 have c66 := (Fs.cn hr66).trans ((ja5 rfl c27).trans (jaL ..).symm)
 show Stt.mk _ _ _ _ _ = Stt.mk _ _ _ _ _
 rw [c37, je2 c54, c62, c66]
def ltB (x y : Nat) : Bool := FloatKind.f64.format.order x y == some .lt
theorem jnX {x y x' y' : Nat} (h : cn x = cn x') (h' : cn y = cn y') : ltB x y = ltB x' y' := by unfold ltB; rw [jd5 h h']
def seenY (s : Stt) (x : Nat) : Nat := fop .sub x s.x
def jgZ (s : Stt) (n : Nat) : Nat := fop .quo s.p (jmK s n)
def jh3 (s : Stt) (n : Nat) : Nat := fop .quo s.q (jmK s n)
def jcY (s : Stt) (x n : Nat) : Stt :=
 if gtZ (jmK s n) then ⟨fop .add s.x (fop .mul (jgZ s n) (seenY s x)), fop .add s.v (fop .mul (jh3 s n) (seenY s x)), if ltB (fop .mul (jgZ s n) n) s.p then fop .mul (jgZ s n) n else s.p,
  fop .mul (jh3 s n) n, jcZ (fop .sub s.r (fop .mul (jh3 s n) s.q))⟩ else s
theorem jnD {s u : Stt} {x y n : Nat} (h : s.c = u.c) (hx : cn x = cn y) : (jcY s x n).c = (jcY u y n).c := by
 have h1 : cn s.x = cn u.x := congrArg Stt.x h
 have h2 : cn s.v = cn u.v := congrArg Stt.v h
 have h3 : cn s.p = cn u.p := congrArg Stt.p h
 have h4 : cn s.q = cn u.q := congrArg Stt.q h
 have h5 : cn s.r = cn u.r := congrArg Stt.r h
 have e : jmK s n = jmK u n := ja5 h3 rfl
 have ey : seenY s x = seenY u y := ja5 hx h1
 have ek : jgZ s n = jgZ u n := by unfold jgZ; rw [e]; exact ja5 h3 rfl
 have eh : jh3 s n = jh3 u n := by unfold jh3; rw [e]; exact ja5 h4 rfl
 unfold jcY
 rw [e, ey, ek, eh]
 split
 ·
  unfold Stt.c
  dsimp only
  rw [jnX (x := fop .mul (jgZ u n) n) rfl h3, ja5 (op := .add) h1 rfl, ja5 (op := .add) h2 rfl, ja5 (op := .mul) (x := jh3 u n) rfl h4, ja5 (op := .sub) h5 rfl]
  split
  ·
   rfl
  rw [h3]
 exact h
theorem seen_ok (s : Stt) (x n : Nat) (w0 : World) : Ret Tryz.prog 37 [.agg s.cells.toArray, .float .f64 x, .float .f64 n] w0 fun v w' => (∃ u : Stt, v = .agg u.cells.toArray /\ u.c = (jcY s x n).c) /\ HS w0 w' [] := by
 refine Ret.start fun w hs => ?_
 refine ja7 Tryz.func37 rfl rfl rfl (Wq (jeH rfl hs rfl ?_))
 intro b3 w hb3 hnb3 hs
 dsimp only [sS, sZ, sA, sN] at hs
 refine jbL rfl hs jbP ?_
 intro b6 w hb6 hnb6 hs
 dsimp only [sS, sZ, sA, sN] at hs
 refine Rq ?_
 replace hs : HS w0 w [(b3, Row 48 s.cells), (b6, Row 48 [.float .f64 0, .float .f64 0, .float .f64 0, .float .f64 0, .float .f64 0])] := hs
 refine Lf 2 jdE rfl jaS (Ll jb5 rfl (by exact hs.cell (i := 0) rfl rfl) ?_)
 refine Lm rfl (jaC rfl (op := .add) rfl rfl rfl ?_)
 intro r15 k15 hr15
 replace hs := hs.drewN k15
 refine La rfl (Rqq (Lm rfl ?_))
 have ew : cn r15 = cn (jmK s n) := (Fs.cn hr15).trans (jaL ..).symm
 have hg : (FloatKind.f64.format.order r15 0 == some .gt) = gtZ (jmK s n) := jgC ew
 cases hb : gtZ (jmK s n)
 ·
  rw [hb] at hg
  refine Cf rfl (fun _ => by rw [binOp_float_cmp_gtr, hg]; rfl) ?_
  refine jcP rfl (Rt (Wt rfl (Wq (jb7 rfl jfY jbP rfl (by exact jaE (cs := s.cells) (hs.get (i := 0) rfl)) ?_))))
  refine jaQ hs (i := 1) rfl jbP rfl rfl (by rfl) (by simp [Stt.cells]) (by exact Stt.one s) ?_
  intro w hs
  dsimp only [sS, sZ, sA, sN] at hs
  refine Rt (jaW (ja2 (jc7 rfl rfl jfY jbP (by exact jaE (cs := s.cells) (hs.get (i := 1) rfl)) ?_)))
  exact ⟨_, rfl, ⟨s, rfl, by unfold jcY; rw [hb]; rfl⟩, hs.forget (Own.cons hb3 (Own.cons hb6 Own.nil))⟩
 rw [hb] at hg
 refine Cf rfl (fun _ => by rw [binOp_float_cmp_gtr, hg]; rfl) ?_
 refine jcP rfl (Rt (Wf rfl (Ws (Wsq (jcH [0, 1, 4, 6, 8, 10] [2, 3, 5, 7, 9, 11, 12, 13, 14] [] (fun _ _ _ => False) Tryz.mixed (by kernel_rfl) (fun _ _ _ _ _ h => h) hs ?_)))))
 refine Pm rfl (Pfa 0 jdE rfl jaS (Pfa 2 jdE rfl jaS (Pm rfl (Pfa 3 jdE rfl jaS (Pm rfl (jbH (Hv rfl (fun w hs => jaN jb5 rfl (by exact hs.cell (i := 0) rfl rfl)) ?_)))))))
 refine jpL rfl (op := .sub) rfl rfl rfl ?_
 intro r23 hr23
 refine Hl jb5 rfl (fun w hs => (by exact hs.cell (i := 0) rfl rfl)) ?_
 refine jpL rfl (op := .quo) rfl rfl rfl ?_
 intro r27 hr27
 refine Hl jb5 rfl (fun w hs => (by exact hs.cell (i := 0) rfl rfl)) ?_
 refine jpL rfl (op := .quo) rfl rfl rfl ?_
 intro r31 hr31
 refine Hv rfl (fun w hs => jbS rfl) ?_
 refine Hv rfl (fun w hs => jbS rfl) ?_
 refine Hv rfl (fun w hs => jbS rfl) ?_
 refine jb2 ?_
 intro w hs
 refine Rq (Lf 0 jdE rfl jaS (Ll jb5 rfl (by exact hs.cell (i := 0) rfl rfl) ?_))
 refine Lmm rfl rfl (jaC rfl (op := .mul) rfl rfl rfl ?_)
 intro r36 k36 hr36
 replace hs := hs.drewN k36
 refine jaC rfl (op := .add) rfl rfl rfl ?_
 intro r37 k37 hr37
 replace hs := hs.drewN k37
 refine Lf 0 jdE rfl jaS (jaH hs (i := 0) rfl jaS rfl rfl (by rfl) (by simp [Stt.cells]) rfl ?_)
 intro w hs
 dsimp only [sS, sZ, sA, sN] at hs
 refine Rq (Lf 1 jdE rfl jaS (Ll jb5 rfl (by exact hs.cell (i := 0) rfl rfl) ?_))
 refine Lmm rfl rfl (jaC rfl (op := .mul) rfl rfl rfl ?_)
 intro r43 k43 hr43
 replace hs := hs.drewN k43
 refine jaC rfl (op := .add) rfl rfl rfl ?_
 intro r44 k44 hr44
 replace hs := hs.drewN k44
 refine Lf 1 jdE rfl jaS (jaH hs (i := 0) rfl jaS rfl rfl (by rfl) (by simp [Stt.cells]) rfl ?_)
 intro w hs
 dsimp only [sS, sZ, sA, sN] at hs
 refine Rqq (Lmm rfl rfl (jaC rfl (op := .mul) rfl rfl rfl ?_))
 intro r48 k48 hr48
 replace hs := hs.drewN k48
 refine La rfl (Rt (Wsq ?_))
 have c23 : cn r23 = cn (seenY s x) := (Fs.cn hr23).trans (jaL ..).symm
 have c27 : cn r27 = cn (jgZ s n) := (Fs.cn hr27).trans ((ja5 rfl ew).trans (jaL ..).symm)
 have c31 : cn r31 = cn (jh3 s n) := (Fs.cn hr31).trans ((ja5 rfl ew).trans (jaL ..).symm)
 have c36 := (Fs.cn hr36).trans ((ja5 c27 c23).trans (jaL ..).symm)
 have c37 := (Fs.cn hr37).trans ((ja5 rfl c36).trans (jaL ..).symm)
 have c43 := (Fs.cn hr43).trans ((ja5 c31 c23).trans (jaL ..).symm)
 have c44 := (Fs.cn hr44).trans ((ja5 rfl c43).trans (jaL ..).symm)
 have c48 : cn r48 = cn (fop .mul (jgZ s n) n) := (Fs.cn hr48).trans ((ja5 c27 rfl).trans (jaL ..).symm)
 replace hs : HS w0 _ [(b3, Row 48 [.float .f64 r37, .float .f64 r44, .float .f64 s.p, .float .f64 s.q, .float .f64 s.r]), (b6, Row 48 [.float .f64 0, .float .f64 0, .float .f64 0, .float .f64 0, .float .f64 0])] := hs
 have hl : (FloatKind.f64.format.order r48 s.p == some .lt) = ltB (fop .mul (jgZ s n) n) s.p := jnX c48 rfl
 cases hlb : ltB (fop .mul (jgZ s n) n) s.p
 ·
  rw [hlb] at hl
  refine Wr (Lm rfl (Lf 2 jdE rfl jaS (Ll jb5 rfl (by exact hs.cell (i := 0) rfl rfl) ?_)))
  refine Cf rfl (fun _ => by rw [binOp_float_cmp_lss, hl]; rfl) ?_
  refine Rt (Wf rfl (Ws (Wq (Lf 4 jdE rfl jaS (Ll jb5 rfl (by exact hs.cell (i := 0) rfl rfl) ?_)))))
  refine Lm rfl (Lf 3 jdE rfl jaS (Ll jb5 rfl (by exact hs.cell (i := 0) rfl rfl) ?_))
  refine jaC rfl (op := .mul) rfl rfl rfl ?_
  intro r60 k60 hr60
  replace hs := hs.drewN k60
  refine jaC rfl (op := .sub) rfl rfl rfl ?_
  intro r61 k61 hr61
  replace hs := hs.drewN k61
  refine Lc f_63 rfl (jrG r61 _) ?_
  rintro _ _ ⟨rfl, rfl⟩
  refine Lf 4 jdE rfl jaS (jaH hs (i := 0) rfl jaS rfl rfl (by rfl) (by simp [Stt.cells]) rfl ?_)
  intro w hs
  dsimp only [sS, sZ, sA, sN] at hs
  refine Rq (Lmm rfl rfl (jaC rfl (op := .mul) rfl rfl rfl ?_))
  intro r66 k66 hr66
  replace hs := hs.drewN k66
  refine Lf 3 jdE rfl jaS (jaH hs (i := 0) rfl jaS rfl rfl (by rfl) (by simp [Stt.cells]) rfl ?_)
  intro w hs
  dsimp only [sS, sZ, sA, sN] at hs
  refine Rq ?_
  replace hs : HS w0 _ [(b3, Row 48 [.float .f64 r37, .float .f64 r44, .float .f64 s.p, .float .f64 r66, .float .f64 (jcZ r61)]), (b6, Row 48 [.float .f64 0, .float .f64 0, .float .f64 0, .float .f64 0, .float .f64 0])] := hs
  refine jb7 rfl jfY jbP rfl (by exact jaE (cs := [.float .f64 r37, .float .f64 r44, .float .f64 s.p, .float .f64 r66, .float .f64 (jcZ r61)]) (hs.get (i := 0) rfl)) ?_
  refine jaQ hs (i := 1) rfl jbP rfl rfl (by rfl) (by simp [Stt.cells]) (by simp [Value.oneCell']) ?_
  intro w hs
  dsimp only [sS, sZ, sA, sN] at hs
  refine Rt (jaW (jc7 rfl rfl jfY jbP (by exact jaE (cs := [.float .f64 r37, .float .f64 r44, .float .f64 s.p, .float .f64 r66, .float .f64 (jcZ r61)]) (hs.get (i := 1) rfl)) ?_))
  refine ⟨_, rfl, ⟨⟨r37, r44, s.p, r66, jcZ r61⟩, rfl, ?_⟩, hs.forget (Own.cons hb3 (Own.cons hb6 Own.nil))⟩
  have c60 := (Fs.cn hr60).trans ((ja5 c31 rfl).trans (jaL ..).symm)
  have c61 := (Fs.cn hr61).trans ((ja5 rfl c60).trans (jaL ..).symm)
  have c66 := (Fs.cn hr66).trans ((ja5 c31 rfl).trans (jaL ..).symm)
  unfold jcY
  rw [hb, if_pos rfl, hlb, if_neg (by decide)]
  show Stt.mk _ _ _ _ _ = Stt.mk _ _ _ _ _
  rw [c37, c44, c66, je2 c61]
 rw [hlb] at hl
 refine Wr (Lm rfl (Lf 2 jdE rfl jaS (Ll jb5 rfl (by exact hs.cell (i := 0) rfl rfl) ?_)))
 refine Cf rfl (fun _ => by rw [binOp_float_cmp_lss, hl]; rfl) ?_
 refine Rt (Wt rfl (Wr (Lm rfl (Lf 2 jdE rfl jaS (jaH hs (i := 0) rfl jaS rfl rfl (by rfl) (by simp [Stt.cells]) rfl ?_)))))
 intro w hs
 dsimp only [sS, sZ, sA, sN] at hs
 refine Rq (Lf 4 jdE rfl jaS (Ll jb5 rfl (by exact hs.cell (i := 0) rfl rfl) ?_))
 refine Lm rfl (Lf 3 jdE rfl jaS (Ll jb5 rfl (by exact hs.cell (i := 0) rfl rfl) ?_))
 refine jaC rfl (op := .mul) rfl rfl rfl ?_
 intro r60 k60 hr60
 replace hs := hs.drewN k60
 refine jaC rfl (op := .sub) rfl rfl rfl ?_
 intro r61 k61 hr61
 replace hs := hs.drewN k61
 refine Lc f_63 rfl (jrG r61 _) ?_
 rintro _ _ ⟨rfl, rfl⟩
 refine Lf 4 jdE rfl jaS (jaH hs (i := 0) rfl jaS rfl rfl (by rfl) (by simp [Stt.cells]) rfl ?_)
 intro w hs
 dsimp only [sS, sZ, sA, sN] at hs
 refine Rq (Lmm rfl rfl (jaC rfl (op := .mul) rfl rfl rfl ?_))
 intro r66 k66 hr66
 replace hs := hs.drewN k66
 refine Lf 3 jdE rfl jaS (jaH hs (i := 0) rfl jaS rfl rfl (by rfl) (by simp [Stt.cells]) rfl ?_)
 intro w hs
 dsimp only [sS, sZ, sA, sN] at hs
 refine Rq ?_
 replace hs : HS w0 _ [(b3, Row 48 [.float .f64 r37, .float .f64 r44, .float .f64 r48, .float .f64 r66, .float .f64 (jcZ r61)]), (b6, Row 48 [.float .f64 0, .float .f64 0, .float .f64 0, .float .f64 0, .float .f64 0])] := hs
 refine jb7 rfl jfY jbP rfl (by exact jaE (cs := [.float .f64 r37, .float .f64 r44, .float .f64 r48, .float .f64 r66, .float .f64 (jcZ r61)]) (hs.get (i := 0) rfl)) ?_
 refine jaQ hs (i := 1) rfl jbP rfl rfl (by rfl) (by simp [Stt.cells]) (by simp [Value.oneCell']) ?_
 intro w hs
 dsimp only [sS, sZ, sA, sN] at hs
 refine Rt (jaW (jc7 rfl rfl jfY jbP (by exact jaE (cs := [.float .f64 r37, .float .f64 r44, .float .f64 r48, .float .f64 r66, .float .f64 (jcZ r61)]) (hs.get (i := 1) rfl)) ?_))
 refine ⟨_, rfl, ⟨⟨r37, r44, r48, r66, jcZ r61⟩, rfl, ?_⟩, hs.forget (Own.cons hb3 (Own.cons hb6 Own.nil))⟩
 have c60 := (Fs.cn hr60).trans ((ja5 c31 rfl).trans (jaL ..).symm)
 have c61 := (Fs.cn hr61).trans ((ja5 rfl c60).trans (jaL ..).symm)
 have c66 := (Fs.cn hr66).trans ((ja5 c31 rfl).trans (jaL ..).symm)
 unfold jcY
 rw [hb, if_pos rfl, hlb, if_pos rfl]
 show Stt.mk _ _ _ _ _ = Stt.mk _ _ _ _ _
 rw [c37, c44, c48, c66, je2 c61]
theorem in_ok (n a b : Int) (w : World) : Ret Tryz.prog 18 [.int .i64 n, .int .i64 a, .int .i64 b] w fun v w' => v = .bool (decide (a <= n) && decide (n <= b)) /\ w' = w := by
 refine ja7 Tryz.func18 rfl rfl rfl ?_
 by_cases h1 : a <= n
 ·
  by_cases h2 : n <= b
  ·
   refine Wq (La rfl (Rq (Lmm rfl rfl (jgM rfl (jaF (by omega)) ?_))))
   refine Lm rfl (Gm rfl rfl (Gm rfl rfl (Rw rfl (Cleq rfl (jaF (by omega)) ?_))))
   refine Lpt rfl (La rfl (Rt (jaW (ja9 rfl rfl ?_))))
   exact ⟨_, rfl, by rw [decide_eq_true h1, decide_eq_true h2]; rfl, rfl⟩
  refine Wq (La rfl (Rq (Lmm rfl rfl (jgM rfl (jaF (by omega)) ?_))))
  refine Lm rfl (Gm rfl rfl (Gm rfl rfl (Rw rfl (Cleq rfl (jaA (by omega)) ?_))))
  refine Lpt rfl (La rfl (Rt (jaW (ja9 rfl rfl ?_))))
  exact ⟨_, rfl, by rw [decide_eq_false h2, Bool.and_false], rfl⟩
 refine Wq (La rfl (Rq (Lmm rfl rfl (jgM rfl (jaA (by omega)) ?_))))
 refine Lm rfl (Rs rfl (Rs rfl (Rs rfl (Lpf rfl (La rfl (Rt (jaW (ja9 rfl rfl ?_))))))))
 exact ⟨_, rfl, by rw [decide_eq_false h1]; rfl, rfl⟩
structure Plt where
 r : Nat
 s : Nat
 p : Nat
 b : Nat
 t : Nat
def plt0 : Plt := ⟨0, 0, 0, 0, 0⟩
def Plt.cells (l : Plt) : List Value := [.float .f64 l.r, .float .f64 l.s, .float .f64 l.p, .float .f64 l.b, .float .f64 l.t]
def ptX (l : Plt) : Nat := fop .mul l.r (jh1 l.b).2
def ptY (l : Plt) : Nat := fop .mul l.r (jh1 l.b).1
theorem point_ok (l : Plt) (hb : l.b < 18446744073709551616) (w0 : World) : Ret Tryz.prog 33 [.agg l.cells.toArray] w0 fun v w' => (∃ x y, v = .agg #[.float .f64 x, .float .f64 y] /\ cn x = ptX l /\ cn y = ptY l) /\ HS w0 w' [] := by
 refine Ret.start fun w hs => ?_
 refine ja7 Tryz.func33 rfl rfl rfl (Wq (jeH rfl hs rfl ?_))
 intro b1 w hb1 hnb1 hs
 dsimp only [sS, sZ, sA, sN] at hs
 refine jbL rfl hs jmF ?_
 intro b2 w hb2 hnb2 hs
 dsimp only [sS, sZ, sA, sN] at hs
 refine Rq ?_
 replace hs : HS w0 w [(b1, Row 42 l.cells), (b2, Row 83 [.float .f64 0, .float .f64 0])] := hs
 refine Lf 3 jqM rfl jaS (Ll jb5 rfl (by exact hs.cell (i := 0) rfl rfl) ?_)
 refine Lc f_62 rfl (turn_ok l.b hb w) ?_
 rintro _ w ⟨re, im, rfl, hs', hre, him⟩
 have h1 := hs.nil hs'
 clear hs hs'
 have hs := h1
 clear h1
 refine La rfl (Rq (Lf 0 jqM rfl jaS (Ll jb5 rfl (by exact hs.cell (i := 0) rfl rfl) ?_)))
 refine Lm rfl (jeW rfl rfl (jaC rfl (op := .mul) rfl rfl rfl ?_))
 intro r11 k11 hr11
 replace hs := hs.drewN k11
 refine Lf 0 jqM rfl jaS (Ll jb5 rfl (by exact hs.cell (i := 0) rfl rfl) ?_)
 refine Lm rfl (jeV rfl rfl (jaC rfl (op := .mul) rfl rfl rfl ?_))
 intro r16 k16 hr16
 replace hs := hs.drewN k16
 refine jbE rfl rfl (Pl.built Tryz.pl83 rfl) (jaQ hs (i := 1) rfl jmF rfl rfl (by rfl) (by simp) (by simp [Value.oneCell']) ?_)
 intro w hs
 dsimp only [sS, sZ, sA, sN] at hs
 refine Rt (jaW (jc7 rfl rfl a_83 jmF (by exact jaE (hs.get (i := 1) rfl)) ?_))
 refine ⟨_, rfl, ⟨_, _, rfl, ?_, ?_⟩, hs.forget (Own.cons hb1 (Own.cons hb2 Own.nil))⟩
 ·
  exact (Fs.cn hr11).trans (ja5 rfl him)
 exact (Fs.cn hr16).trans (ja5 rfl hre)
theorem jn3 (x r : Nat) (hx : jb1 x = false) (hr : FloatKind.f64.encode ((FloatKind.f64.decode x).integral .down) = r) (w : World) : Ret Tryz.prog 65 [.float .f64 x] w fun v w' => v = .float .f64 r /\ w' = w := by
 refine ja7 Tryz.func65 rfl rfl rfl (Wq (La rfl (Rt (Wsq (Wt rfl (Wq (Lm rfl (jaT rfl (jrL Tryz.ext89 rfl (fun w => run_trunc hx w)) ?_))))))))
 refine La rfl (Rt (jaW (ja2 (ja9 rfl rfl ?_))))
 exact ⟨_, rfl, by rw [hr], rfl⟩
def leB (x y : Nat) : Bool := FloatKind.f64.format.order x y == some .lt || FloatKind.f64.format.order x y == some .eq
theorem gtZ_pos {x : Nat} (hx : x < 18446744073709551616) (h : gtZ x = true) : x <= 9218868437227405312 := by
 unfold gtZ at h
 rcases jhL hx with ⟨v, hv⟩ | ⟨s, hs⟩ | hn
 ·
  rw [hv.order (by have := jm9 false; rwa [je9] at this)] at h
  obtain ⟨s, r, h1, h2, h3⟩ := hv
  cases s
  ·
   rw [h1, je9]; omega
  exfalso
  simp at h3
  have : compare v 0 ≠ .gt := by
   intro hc
   have := Int.compare_eq_gt.1 hc
   omega
  exact this (by simpa using h)
 ·
  rcases jfK hx hs with rfl | rfl
  ·
   exact Nat.le_refl _
  exact absurd h (by decide +kernel)
 rw [jcM hn] at h; exact absurd h (by decide)
theorem farF_pos (s : Stt) (x n : Nat) : jb1 (jpS s x n) = true ∨ jpS s x n <= 9218868437227405312 := by
 unfold jpS
 cases hb : gtZ (jmK s n)
 ·
  exact .inr (Nat.le_refl _)
 have hw := gtZ_pos (fop_lt ..) hb
 rcases mul_self (fop .sub x s.x) with h | h
 ·
  left
  rw [if_pos rfl, fop, jeN h]; exact jfB
 exact quo_pos h hw
def jrD (n : Nat) (x y : Stt) (px py : Nat) : Nat := fop .add (jpS x px n) (jpS y py n)
theorem jrC {n : Nat} {x y : Stt} {px py : Nat} (h : jb1 (jrD n x y px py) = false) : jrD n x y px py <= 9218868437227405312 := by
 unfold jrD at h ⊢
 rcases farF_pos x px n with hx | hx
 ·
  rw [fop, jeN hx] at h; exact absurd h (by decide)
 rcases farF_pos y py n with hy | hy
 ·
  rw [fop, jg3 hy] at h; exact absurd h (by decide)
 exact add_pos hx hy
def cV (Q : Nat) : Option Int := floatToIntVal .f64 (FloatKind.f64.encode ((FloatKind.f64.decode Q).integral .down)) .i64
def costD (g d : Nat) : Int := if leB d g then (cV (fop .mul d 4697254411347427328)).getD 0 else -1
def jdV (n g : Nat) (x y : Stt) (px py : Nat) : Int := costD g (jrD n x y px py)
theorem dstF_congr {n : Nat} {x y x' y' : Stt} {px py px' py' : Nat} (hx : x.c = x'.c) (hy : y.c = y'.c) (h1 : cn px = cn px') (h2 : cn py = cn py') : jrD n x y px py = jrD n x' y' px' py' := by
 unfold jrD; rw [jq9 hx h1, jq9 hy h2]
structure GateOk (g : Nat) : Prop where
 lt : g < 18446744073709551616
 fin : je6 g = true
 le : (FloatKind.f64.format.order g 4697254411347427328 == some .gt) = false
theorem GateOk.fv {g : Nat} (h : GateOk g) : ∃ v, FV g v /\ v <= (rv 4697254411347427328 : Int) := by
 rcases jhL h.lt with ⟨v, hv⟩ | ⟨s, hs⟩ | hn
 ·
  refine ⟨v, hv, ?_⟩
  have h1 := h.le
  rw [hv.order (FV.nat (by decide))] at h1
  exact Int.not_lt.1 fun hh => by rw [Int.compare_eq_gt.2 hh] at h1; exact absurd h1 (by decide)
 ·
  have := h.fin
  rcases jfK h.lt hs with e | e <;> rw [e] at this <;> exact absurd this (by decide +kernel)
 have h1 := h.fin
 unfold je6 nanB at h1
 rw [jcM hn] at h1
 exact absurd h1 (by simp)
theorem jpC {g d : Nat} (hg : GateOk g) (hd : jb1 d = false -> d <= 9218868437227405312) (hle : leB d g = true) : jb1 d = false /\ jb1 (fop .mul d 4697254411347427328) = false /\ ∃ m : Nat, m <= 1099511627776 /\ cV (fop .mul d 4697254411347427328) = some (m : Int) := by
 obtain ⟨c, hc⟩ : ∃ c, c = 1074 := ⟨_, rfl⟩
 obtain ⟨u, hu, hu2⟩ := hg.fv
 have hn : jb1 d = false := by
  unfold leB at hle
  cases ho : FloatKind.f64.format.order d g with
  | none => rw [ho] at hle; exact absurd hle (by decide)
  | some o => exact jnR ho
 obtain ⟨hv, hle2⟩ := fin_of_le (hd hn) hu hle
 rw [rv_fine c hc] at hu2
 obtain ⟨q, y, k1, k2, k3, k4⟩ := jq5 c hc hv (Int.natCast_nonneg _) (Int.le_trans hle2 hu2)
 have hq : fop .mul d 4697254411347427328 = q := fop_some k1
 rw [hq]
 exact ⟨hn, k2.num, jkN c hc k2 k3 k4⟩
theorem costT_rng {n g : Nat} {x y : Stt} {px py : Nat} (hg : GateOk g) : jdV n g x y px py = -1 ∨ (0 <= jdV n g x y px py /\ jdV n g x y px py <= 1099511627776) := by
 unfold jdV costD
 split
 ·
  next h =>
  obtain ⟨_, _, m, h1, h2⟩ := jpC hg jrC h
  rw [h2]
  right
  show 0 <= (m : Int) /\ (m : Int) <= 1099511627776
  omega
 exact .inl rfl
abbrev SlN (g n : Nat) : Value := .slice (some ⟨g, 0, none⟩) n n
abbrev jgL (n c u v o h : Nat) : List Value := [.int .i64 n, SlN c (n * n), SlN u n, SlN v n, SlN o n, SlN h n]
abbrev jd9 (B c u v o h n : Nat) (C U V of has : List Int) : List (Nat × Obj) := [(c, Row 2 (il C)), (u, Row 2 (il U)), (v, Row 2 (il V)), (o, Row 3 (il of)), (h, Row 3 (il has)), (B, Row 123 (jgL n c u v o h))]
def playedPhi (n : Nat) (i : Nat) (v : Value) (m : List (Nat × Obj)) : Prop :=
 match i with
 | 0 | 1 | 2 | 5 | 7 | 9 | 11 => v = .int .i64 n /\ m = []
 | 3 => v = .int .i64 ((n * n : Nat) : Int) /\ m = []
 | 4 => ∃ g, v = SlN g (n * n) /\ m = [(g, Row 2 (il (List.replicate (n * n) 0)))]
 | 6 | 8 => ∃ g, v = SlN g n /\ m = [(g, Row 2 (il (List.replicate n 0)))]
 | 10 | 12 => ∃ g, v = SlN g n /\ m = [(g, Row 3 (il (List.replicate n 0)))]
 | 13 => ∃ c u vv o h, v = .agg (jgL n c u vv o h).toArray /\ m = [(c, Row 2 (il (List.replicate (n * n) 0))), (u, Row 2 (il (List.replicate n 0))), (vv, Row 2 (il (List.replicate n 0))), (o, Row 3 (il (List.replicate n 0))), (h, Row 3 (il (List.replicate n 0)))]
 | _ => ∃ B c u vv o h, v = .pointer (some ⟨B, 0, none⟩) /\ m = jd9 B c u vv o h n (List.replicate (n * n) 0) (List.replicate n 0) (List.replicate n 0) (List.replicate n 0) (List.replicate n 0)
theorem played_ok (n : Nat) (w0 : World) (h1 : 1 <= n) (h2 : n <= 512) : Ret Tryz.prog 67 [.int .i64 n] w0 fun v w' => ∃ B c u vv o h, v = .pointer (some ⟨B, 0, none⟩) /\ HS w0 w' (jd9 B c u vv o h n (List.replicate (n * n) 0) (List.replicate n 0) (List.replicate n 0) (List.replicate n (-1)) (List.replicate n 0)) /\ ∀ {C U V of has : List Int}, Own w0 (jd9 B c u vv o h n C U V of has) := by
 refine Ret.start fun w hs => ?_
 have hnn : n * n <= 262144 := Nat.le_trans (Nat.mul_le_mul h2 h2) (by omega)
 have hnni : (n : Int) * (n : Int) = ((n * n : Nat) : Int) := (Int.natCast_mul ..).symm
 obtain ⟨nn, hnne⟩ : ∃ nn, nn = n * n := ⟨_, rfl⟩
 refine ja7 Tryz.func67 rfl rfl rfl (Wq (La rfl (Rt (Wsq ?_))))
 refine W_any (playedPhi n) (fun i => ([[], [], [], [1, 2], [3], [], [5], [], [7], [], [9], [], [11], [0, 4, 6, 8, 10, 12], [13], [14]] : List (List Nat)).getD i []) (fun i => ([[], [], [], [], [], [], [], [], [], [], [], [], [], [4, 6, 8, 10, 12], [13], [14]] : List (List Nat)).getD i []) Tryz.mixed (by kernel_rfl) hs ?_ ?_
 ·
  intro i oo d ho hd V M E R w Q' hdep hlook hold hR hs hc
  match i, ho with
  | 0, ho | 1, ho | 2, ho | 5, ho | 7, ho | 9, ho | 11, ho =>
   cases ho; cases hd
   refine jgK rfl (hold 0 _ rfl (nd (by kernel_rfl))) ?_
   exact hc _ [] w ⟨rfl, rfl⟩ Own.nil hs
  | 3, ho =>
   cases ho; cases hd
   have e1 : Lk.look E 6 = some (.int .i64 n) := by rw [hlook 1 (by decide) _ _ rfl rfl, (hdep 1 (by decide)).1.1]
   have e2 : Lk.look E 7 = some (.int .i64 n) := by rw [hlook 2 (by decide) _ _ rfl rfl, (hdep 2 (by decide)).1.1]
   refine L_mul rfl e1 e2 (ja3 (by omega)) ?_
   exact hc _ [] w ⟨by rw [hnni], rfl⟩ Own.nil hs
  | 4, ho =>
   cases ho; cases hd
   replace hs : HS w0 w (_ ++ []) := hs
   rw [List.append_nil] at hs
   have e1 : Lk.look E 8 = some (.int .i64 ((n * n : Nat) : Int)) := by rw [hlook 3 (by decide) _ _ rfl rfl, (hdep 3 (by decide)).1.1]
   refine jdM rfl hs jbK i_2 e1 e1 rfl rfl (Nat.le_refl _) (by omega) (by omega) rfl ?_
   intro g w hg _ hs
   rw [jgV] at hs
   exact hc _ _ _ ⟨g, rfl, rfl⟩ (Own.cons hg Own.nil) hs
  | 6, ho =>
   cases ho; cases hd
   replace hs : HS w0 w (_ ++ []) := hs
   rw [List.append_nil] at hs
   have e1 : Lk.look E 10 = some (.int .i64 n) := by rw [hlook 5 (by decide) _ _ rfl rfl, (hdep 5 (by decide)).1.1]
   refine jdM rfl hs jbK i_2 e1 e1 rfl rfl (Nat.le_refl _) (by omega) (by omega) rfl ?_
   intro g w hg _ hs
   rw [jgV] at hs
   exact hc _ _ _ ⟨g, rfl, rfl⟩ (Own.cons hg Own.nil) hs
  | 8, ho =>
   cases ho; cases hd
   replace hs : HS w0 w (_ ++ []) := hs
   rw [List.append_nil] at hs
   have e1 : Lk.look E 12 = some (.int .i64 n) := by rw [hlook 7 (by decide) _ _ rfl rfl, (hdep 7 (by decide)).1.1]
   refine jdM rfl hs jbK i_2 e1 e1 rfl rfl (Nat.le_refl _) (by omega) (by omega) rfl ?_
   intro g w hg _ hs
   rw [jgV] at hs
   exact hc _ _ _ ⟨g, rfl, rfl⟩ (Own.cons hg Own.nil) hs
  | 10, ho =>
   cases ho; cases hd
   replace hs : HS w0 w (_ ++ []) := hs
   rw [List.append_nil] at hs
   have e1 : Lk.look E 14 = some (.int .i64 n) := by rw [hlook 9 (by decide) _ _ rfl rfl, (hdep 9 (by decide)).1.1]
   refine jdM rfl hs jbW i_3 e1 e1 rfl rfl (Nat.le_refl _) (by omega) (by omega) rfl ?_
   intro g w hg _ hs
   rw [jgV] at hs
   exact hc _ _ _ ⟨g, rfl, rfl⟩ (Own.cons hg Own.nil) hs
  | 12, ho =>
   cases ho; cases hd
   replace hs : HS w0 w (_ ++ []) := hs
   rw [List.append_nil] at hs
   have e1 : Lk.look E 16 = some (.int .i64 n) := by rw [hlook 11 (by decide) _ _ rfl rfl, (hdep 11 (by decide)).1.1]
   refine jdM rfl hs jbW i_3 e1 e1 rfl rfl (Nat.le_refl _) (by omega) (by omega) rfl ?_
   intro g w hg _ hs
   rw [jgV] at hs
   exact hc _ _ _ ⟨g, rfl, rfl⟩ (Own.cons hg Own.nil) hs
  | 13, ho =>
   cases ho; cases hd
   have e0 : Lk.look E 5 = some (.int .i64 n) := by rw [hlook 0 (by decide) _ _ rfl rfl, (hdep 0 (by decide)).1.1]
   obtain ⟨c, hv4, hm4⟩ : ∃ g, V 4 = SlN g (n * n) /\ M 4 = [(g, Row 2 (il (List.replicate (n * n) 0)))] := (hdep 4 (by decide)).1
   obtain ⟨u, hv6, hm6⟩ : ∃ g, V 6 = SlN g n /\ M 6 = [(g, Row 2 (il (List.replicate n 0)))] := (hdep 6 (by decide)).1
   obtain ⟨vv, hv8, hm8⟩ : ∃ g, V 8 = SlN g n /\ M 8 = [(g, Row 2 (il (List.replicate n 0)))] := (hdep 8 (by decide)).1
   obtain ⟨oo, hv10, hm10⟩ : ∃ g, V 10 = SlN g n /\ M 10 = [(g, Row 3 (il (List.replicate n 0)))] := (hdep 10 (by decide)).1
   obtain ⟨hh, hv12, hm12⟩ : ∃ g, V 12 = SlN g n /\ M 12 = [(g, Row 3 (il (List.replicate n 0)))] := (hdep 12 (by decide)).1
   have o4 := (hdep 4 (by decide)).2
   have o6 := (hdep 6 (by decide)).2
   have o8 := (hdep 8 (by decide)).2
   have o10 := (hdep 10 (by decide)).2
   have o12 := (hdep 12 (by decide)).2
   have e4 : Lk.look E 9 = some (SlN c (n * n)) := by rw [hlook 4 (by decide) _ _ rfl rfl, hv4]
   have e6 : Lk.look E 11 = some (SlN u n) := by rw [hlook 6 (by decide) _ _ rfl rfl, hv6]
   have e8 : Lk.look E 13 = some (SlN vv n) := by rw [hlook 8 (by decide) _ _ rfl rfl, hv8]
   have e10 : Lk.look E 15 = some (SlN oo n) := by rw [hlook 10 (by decide) _ _ rfl rfl, hv10]
   have e12 : Lk.look E 17 = some (SlN hh n) := by rw [hlook 12 (by decide) _ _ rfl rfl, hv12]
   rw [hm4] at o4
   rw [hm6] at o6
   rw [hm8] at o8
   rw [hm10] at o10
   rw [hm12] at o12
   replace hs : HS w0 w (_ ++ (M 4 ++ (M 6 ++ (M 8 ++ (M 10 ++ (M 12 ++ [])))))) := hs
   rw [hm4, hm6, hm8, hm10, hm12] at hs
   simp only [List.append_nil, List.cons_append, List.nil_append] at hs
   have hev : jf6 E [(0, .tmp 5), (1, .tmp 9), (2, .tmp 11), (3, .tmp 13), (4, .tmp 15), (5, .tmp 17)] = some [(0, .int .i64 n), (1, SlN c (n * n)), (2, SlN u n), (3, SlN vv n), (4, SlN oo n), (5, SlN hh n)] := by
    simp [jf6, jaD, e0, e4, e6, e8, e10, e12]
   refine jbE rfl hev (Pl.built Tryz.pl123 rfl) ?_
   exact hc _ _ _ ⟨c, u, vv, oo, hh, rfl, rfl⟩ (Own.cons o4.head (Own.cons o6.head (Own.cons o8.head (Own.cons o10.head o12)))) hs
  | 14, ho =>
   cases ho; cases hd
   obtain ⟨c, u, vv, oo, hh, hv13, hm13⟩ : ∃ c u vv o h, V 13 = .agg (jgL n c u vv o h).toArray /\ M 13 = [(c, Row 2 (il (List.replicate (n * n) 0))), (u, Row 2 (il (List.replicate n 0))), (vv, Row 2 (il (List.replicate n 0))), (o, Row 3 (il (List.replicate n 0))), (h, Row 3 (il (List.replicate n 0)))] := (hdep 13 (by decide)).1
   have o13 := (hdep 13 (by decide)).2
   have e13 : Lk.look E 18 = some (.agg (jgL n c u vv oo hh).toArray) := by rw [hlook 13 (by decide) _ _ rfl rfl, hv13]
   rw [hm13] at o13
   replace hs : HS w0 w (_ ++ (M 13 ++ [])) := hs
   rw [hm13, List.append_nil] at hs
   refine jeH rfl hs e13 ?_
   intro B w hB _ hs
   rw [List.append_assoc] at hs
   exact hc _ _ _ ⟨B, c, u, vv, oo, hh, rfl, rfl⟩ (o13.app (Own.cons hB Own.nil)) hs
  | 15, ho =>
   cases ho; cases hd
   have o14 := (hdep 14 (by decide)).2
   have e14 : Lk.look E 19 = some (V 14) := hlook 14 (by decide) _ _ rfl rfl
   replace hs : HS w0 w (_ ++ (M 14 ++ [])) := hs
   rw [List.append_nil] at hs
   refine jg1 rfl e14 ?_
   exact hc _ (M 14) w (hdep 14 (by decide)).1 o14 hs
 intro V M own w hΦ hs hown hnd E hold hlook
 replace hs := hs.pickOwn (k := 15) ((hown 15).2 ⟨by decide, by decide⟩) (fun j hj => (hΦ j ((hown j).1 hj).1).2)
 have hoM := (hΦ 15 (by decide)).2
 obtain ⟨B, c, u, vv, oo, hh, hv, hm⟩ : ∃ B c u vv o h, V 15 = .pointer (some ⟨B, 0, none⟩) /\ M 15 = jd9 B c u vv o h n (List.replicate (n * n) 0) (List.replicate n 0) (List.replicate n 0) (List.replicate n 0) (List.replicate n 0) := (hΦ 15 (by decide)).1
 rw [hm] at hs hoM
 have hO : ∀ {C U V of has : List Int}, Own w0 (jd9 B c u vv oo hh n C U V of has) :=
  Own.cons (hoM (c, Row 2 (il (List.replicate (n * n) 0))) (by simp)) (Own.cons (hoM (u, Row 2 (il (List.replicate n 0))) (by simp)) (Own.cons (hoM (vv, Row 2 (il (List.replicate n 0))) (by simp)) (Own.cons (hoM (oo, Row 3 (il (List.replicate n 0))) (by simp)) (Own.cons (hoM (hh, Row 3 (il (List.replicate n 0))) (by simp)) (Own.cons (hoM (B, Row 123 (jgL n c u vv oo hh)) (by simp)) Own.nil)))))
 have e3 : Lk.look E 3 = some (.pointer (some ⟨B, 0, none⟩)) := by rw [hlook 15 _ _ rfl rfl, hv]
 refine Nx_env (e := [(3, .pointer (some ⟨B, 0, none⟩))]) ?_ (jdN e3 jkL)
 clear hΦ hown hold hlook hnd hm hv e3 hoM
 replace hs : HS w0 w (jd9 B c u vv oo hh n (List.replicate (n * n) 0) (List.replicate n 0) (List.replicate n 0) (List.replicate n 0) (List.replicate n 0)) := hs
 refine Nt (Wqq (Lm rfl (Ln rfl (Lf 4 jcW rfl jg2 (Ll jgQ rfl (by exact hs.cellA (i := 5) rfl rfl) ?_)))))
 refine Le jbW rfl (Lm rfl (Rt (ja4 (jcT (fun (j : Nat) (of : List Int) (w : World) => [(3, .pointer (some ⟨B, 0, none⟩)), (24, .int .i64 n), (25, .int .i64 j)]) (fun j of w => w) (fun j of w => (j <= n) /\ (of.length = n) /\ (∀ k, k < j -> of.getD k 0 = -1) /\ (HS w0 w (jd9 B c u vv oo hh n (List.replicate (n * n) 0) (List.replicate n 0) (List.replicate n 0) of (List.replicate n 0)))) (fun j of w => n - j) (0) (List.replicate n 0) (w) (is := [3, 24, 25]) rfl rfl ?_ ?_))))
 ·
  exact ⟨Nat.zero_le _, by simp, fun _ h => absurd h (Nat.not_lt_zero _), hs⟩
 clear hs
 intro j of w hI
 show W _ _ _ _ [(3, .pointer (some ⟨B, 0, none⟩)), (24, .int .i64 n), (25, .int .i64 j)] w
 obtain ⟨hj, hol, hof, hs⟩ := hI
 by_cases hlt : j < n
 ·
  refine Wq (jaZ rfl (jaF (by omega)) ?_)
  refine Rt (Wsq (Wt rfl (Ws (Wsq (ja4 (Wq (Lm rfl (La rfl (Rr (Lm rfl (Ln rfl (Lf 4 jcW rfl jg2 (Ll jgQ rfl (by exact hs.cellA (i := 5) rfl rfl) ?_)))))))))))))
  refine Lm rfl (Li jbW i_3 rfl (ja6 _) (by omega) rfl ?_)
  refine jaH hs (i := 3) rfl i_3 rfl rfl (by exact jaM _ _) (by simp; omega) rfl ?_
  intro w hs
  dsimp only [sS, sZ, sA, sN] at hs
  refine Rnl (jaB (Nt (Wr (jbG rfl (ja3 (by omega)) ?_))))
  refine Lm rfl (Rnl ?_)
  rw [jc3] at hs
  refine Nq (j + 1, of.set j (-1), w) [3, 24, 25] rfl ?_ ?_
  ·
   dsimp only
   refine ⟨by omega, by simp [hol], fun k hk => ?_, hs⟩
   rw [jfW (by omega)]
   split
   ·
    rfl
   exact hof k (by omega)
  omega
 refine Wq (jaZ rfl (jaA (by omega)) ?_)
 refine Rt (Wsq (Wf rfl (jaK (ja0 (ja8 (ja1 (Nt (Wq (Lm rfl (La rfl (Rt (jaW (ja9 rfl rfl ?_)))))))))))))
 have hofe : of = List.replicate n (-1) := by
  apply List.ext_getElem
  ·
   simp [hol]
  intro k hk1 hk2
  have := hof k (by omega)
  simpa [List.getD, hk1] using this
 rw [hofe] at hs
 exact ⟨_, rfl, B, c, u, vv, oo, hh, rfl, hs, hO⟩
theorem row_ok (B c u v o h n i : Nat) (w0 : World) (hB : w0.heap[B]? = some (Row 123 (jgL n c u v o h))) (h1 : 1 <= n) (h2 : n <= 512) (hi : i < n) :
  Ret Tryz.prog 68 [.pointer (some ⟨B, 0, none⟩), .int .i64 i] w0 fun r w' => r = .slice (some ⟨c, i * n, none⟩) n n /\ HS w0 w' [] := by
 refine Ret.start fun w hs => ?_
 have hin : i * n <= 262144 := Nat.le_trans (Nat.mul_le_mul (show i <= 512 by omega) h2) (by omega)
 have hin1 : (i + 1) * n = i * n + n := Nat.succ_mul _ _
 have hle : (i + 1) * n <= n * n := Nat.mul_le_mul_right n (by omega)
 have e1 : (i : Int) * (n : Int) = ((i * n : Nat) : Int) := (Int.natCast_mul ..).symm
 have e2 : ((i : Int) + 1) * (n : Int) = (((i + 1) * n : Nat) : Int) := by rw [Int.natCast_mul]; rfl
 refine ja7 Tryz.func68 rfl rfl rfl (Wq (La rfl (Rt (Wsq (jcH [0, 1, 2, 4, 5, 6, 7, 10, 11, 12, 13, 14, 17, 18, 19, 20, 21] [3, 8, 9, 15, 16, 22, 23, 24, 25] [] (fun _ _ _ => False) Tryz.mixed (by kernel_rfl) (fun _ _ _ _ _ h => h) hs ?_)))))
 refine Pm rfl (Pn rfl (Pfa 1 jcW rfl jd1 (Pm rfl (Pm rfl (Pn rfl (Pfa 0 jcW rfl i_3 (Pm rfl (Pv rfl (fun w => jk6 rfl rfl (ja3 (by omega))) ?_))))))))
 refine Pm rfl (Pn rfl (Pfa 0 jcW rfl i_3 (Pm rfl (Pv rfl (fun w => jk6 rfl rfl (ja3 (by omega))) ?_))))
 refine Pm rfl (Pn rfl (Pfa 0 jcW rfl i_3 (jbH ?_)))
 refine Hl jdR rfl (fun w hs => (by (rw [jaM]; exact hs.oldcell (Lk.cell_of_row hB rfl) (by simp)))) ?_
 refine Hl o_3 rfl (fun w hs => (by (rw [jaM]; exact hs.oldcell (Lk.cell_of_row hB rfl) (by simp)))) ?_
 refine Hv rfl (fun w hs => R_mul rfl rfl (ja3 (by omega))) ?_
 refine Hl o_3 rfl (fun w hs => (by (rw [jaM]; exact hs.oldcell (Lk.cell_of_row hB rfl) (by simp)))) ?_
 refine Hv rfl (fun w hs => R_mul rfl rfl (ja3 (by omega))) ?_
 refine Hl o_3 rfl (fun w hs => (by (rw [jaM]; exact hs.oldcell (Lk.cell_of_row hB rfl) (by simp)))) ?_
 refine Hv rfl (fun w hs => R_mul rfl rfl (ja3 (by omega))) ?_
 refine Hv rfl (fun w hs => R_slice111 jbK i_2 rfl rfl rfl rfl (natc_mul _ _) (by exact natc (by omega)) (by exact natc (by omega)) (by omega)) ?_
 refine Hv rfl (fun w hs => jbS rfl) ?_
 refine jb2 ?_
 intro w hs
 refine Rt (jaW (ja9 rfl rfl ?_))
 refine ⟨_, rfl, ?_, hs⟩
 rw [e2, Int.toNat_natCast]
 have e3 : slA (some ⟨c, 0, none⟩) (i * n) ((i + 1) * n) 1 = some ⟨c, i * n, none⟩ := by
  unfold slA
  rw [if_neg (by omega), Nat.mul_one]
  show some ((Addr.mk c 0 none).add (i * n)) = _
  rw [jaM]
 rw [e3, show (i + 1) * n - i * n = n by omega]
end Go.Proofs.YtffobakdngbadaaGreat