/-
  A kit for walks: a law for each operation, for each statement of the code, for a call and for a law's row, over any program of the model. Each theorem holds under its own premises alone.
-/
import Derived.WalkKit
import Derived.WalkLawsBesides
import Derived.Deep.Quiet
import Derived.StillTail
import Derived.ProofKit
import Derived.Deep.Slices
import Derived.OpenShut
import Derived.Lib.SliceRun
import Derived.ArgAppend
namespace Go.Lk
open Go

abbrev Env := List (Nat × Value)
def look : Env -> Nat -> Option Value
 | [], _ => none
 | (j, v) :: r, i => match Nat.beq j i with | true => some v | false => look r i
def Kn (n : Nat) (a : Act) (e : Env) : Prop := a.tmps.size = n /\ a.defers = [] /\ ∀ i v, look e i = some v -> a.tmps[i]? = some v
def jaD (e : Env) : Operand -> Option Value
 | .tmp t => look e t
 | .const v => some v
 | .global g => some (.pointer (some ⟨g, 0, none⟩))
 | .func f => some (.func (.func f) #[] #[])

theorem jdU (j : Nat) (v : Value) (r : Env) (i : Nat) : look ((j, v) :: r) i = if j = i then some v else look r i := by
 simp only [look]
 by_cases h : j = i
 ·
  subst h; simp [Nat.beq_refl]
 have : Nat.beq j i = false := by
  cases hb : Nat.beq j i with
  | false => rfl
  | true => exact absurd (Nat.eq_of_beq_eq_true hb) h
 simp [this, h]

theorem Kn.eval {n : Nat} {a : Act} {e : Env} (h : Kn n a e) {x : Operand} {v : Value} (hx : jaD e x = some v) : a.eval x = v := by
 cases x with
 | tmp t =>
  have := h.2.2 t v hx
  simp [Act.eval, this]
 | const u => simpa [jaD, Act.eval] using hx
 | global g => simpa [jaD, Act.eval] using hx
 | func f => simpa [jaD, Act.eval] using hx

theorem Kn.put {n : Nat} {a : Act} {e : Env} (h : Kn n a e) {d : Nat} (hd : Nat.blt d n = true) (v : Value) : Kn n (a.put (some d) v) ((d, v) :: e) := by
 have hd' : d < n := by rw [Nat.blt_eq] at hd; exact hd
 obtain ⟨h1, h2, h3⟩ := h
 refine ⟨by simp [Act.put, h1], by simp [Act.put, h2], fun i u hu => ?_⟩
 rw [jdU] at hu
 simp only [Act.put]
 by_cases hdi : d = i
 ·
  subst hdi
  simp at hu
  subst hu
  simp [h1, hd']
 simp [hdi] at hu
 simp [hdi]
 exact h3 i u hu
theorem Kn.drop {n : Nat} {a : Act} {e : Env} (h : Kn n a e) {d : Nat} {v : Value} (hl : look e d = some v) : Kn n a ((d, v) :: e) := by
 refine ⟨h.1, h.2.1, fun i u hu => ?_⟩
 rw [jdU] at hu
 by_cases hdi : d = i
 ·
  subst hdi; simp at hu; subst hu; exact h.2.2 _ _ hl
 simp [hdi] at hu; exact h.2.2 i u hu
def pick (e : Env) : List Nat -> Option Env
 | [] => some []
 | i :: r => match look e i with
  | none => none
  | some v => match pick e r with
   | none => none
   | some l => some ((i, v) :: l)
theorem pick_look {e : Env} : ∀ {is : List Nat} {e' : Env}, pick e is = some e' -> ∀ i v, look e' i = some v -> look e i = some v
 | [], e', h, i, v, hv => by simp [pick] at h; subst h; simp [look] at hv
 | j :: r, e', h, i, v, hv => by
  simp only [pick] at h
  cases hj : look e j with
  | none => simp [hj] at h
  | some u =>
   cases hr : pick e r with
   | none => simp [hj, hr] at h
   | some l =>
    simp [hj, hr] at h
    subst h
    rw [jdU] at hv
    by_cases hji : j = i
    ·
     subst hji; simp at hv; subst hv; exact hj
    simp [hji] at hv; exact pick_look hr i v hv
theorem Kn.pick {n : Nat} {a : Act} {e e' : Env} {is : List Nat} (h : Kn n a e) (hp : Lk.pick e is = some e') : Kn n a e' :=
 ⟨h.1, h.2.1, fun i v hv => h.2.2 i v (pick_look hp i v hv)⟩

abbrev jeG := Exit -> Act -> World -> Prop
def W (P : Program) (n : Nat) (c : Code) (Q : jeG) (e : Env) (w : World) : Prop := ∀ a, Kn n a e -> c.wp P Q a w
def RL (P : Program) (n : Nat) (ops : Array Oper) (rest : List Oper) (Q : jeG) (e : Env) (w : World) : Prop := ∀ a, Kn n a e -> wpList P ops Q rest a w

section
variable {P : Program} {n : Nat} {Q : jeG} {e : Env} {w : World} {ops : Array Oper} {rest : List Oper}

theorem Wsq {x y : Code} (h : W P n x (Exit.then (y.wp P Q) Q) e w) : W P n (.seq x y) Q e w := fun a ha => wp_seq (h a ha)
theorem W_skip (h : ∀ a, Kn n a e -> Q .normal a w) : W P n .skip Q e w := fun a ha => wp_skip (h a ha)
theorem W_label {l : Nat} (h : ∀ a, Kn n a e -> Q .normal a w) : W P n (.label l) Q e w := fun a ha => wp_label (h a ha)
theorem W_exit {id : Nat} (h : ∀ a, Kn n a e -> Q (.exit id) a w) : W P n (.exit id) Q e w := fun a ha => wp_exit (h a ha)
theorem W_ret (h : ∀ a, Kn n a e -> Q .ret a w) : W P n .ret Q e w := fun a ha => wp_ret (h a ha)
theorem ja4 {id : Nat} {c : Code} (h : W P n c (Exit.inBlock id Q) e w) : W P n (.block id c) Q e w := fun a ha => wp_block (h a ha)
theorem Wt {c : Operand} {x y : Code} (hc : jaD e c = some (.bool true)) (h : W P n x Q e w) : W P n (.cond c x y) Q e w :=
 fun a ha => wp_cond_true (ha.eval hc) (h a ha)
theorem Wf {c : Operand} {x y : Code} (hc : jaD e c = some (.bool false)) (h : W P n y Q e w) : W P n (.cond c x y) Q e w :=
 fun a ha => wp_cond_false (ha.eval hc) (h a ha)
theorem Wr {id : Nat} {l : List Oper} (h : RL P n l.toArray l Q e w) : W P n (.region id l.toArray false) Q e w := fun a ha => wp_region_lit (h a ha)
theorem Rt {y : Code} {K : jeG} (h : W P n y Q e w) : RL P n ops [] (Exit.then (y.wp P Q) K) e w := fun a ha => h a ha
def Nx (n : Nat) (Q : jeG) (e : Env) (w : World) : Prop := ∀ a, Kn n a e -> Q .normal a w
theorem Nt {y : Code} {K : jeG} (h : W P n y Q e w) : Nx n (Exit.then (y.wp P Q) K) e w := fun a ha => h a ha
theorem jaB {id : Nat} (h : Nx n Q e w) : Nx n (Exit.inBlock id Q) e w := fun a ha => h a ha
theorem jaY (h : Nx n Q e w) : W P n .skip Q e w := W_skip h
theorem Rnl (h : Nx n Q e w) : RL P n ops [] Q e w := h
def Ex (n : Nat) (Q : jeG) (x : Exit) (e : Env) (w : World) : Prop := ∀ a, Kn n a e -> Q x a w
theorem jaK {id : Nat} (h : Ex n Q (.exit id) e w) : W P n (.exit id) Q e w := W_exit h
theorem jaW (h : Ex n Q .ret e w) : W P n .ret Q e w := W_ret h
theorem ja0 {id : Nat} {K : Act -> World -> Prop} (h : Ex n Q (.exit id) e w) : Ex n (Exit.then K Q) (.exit id) e w := fun a ha => h a ha
theorem ja2 {K : Act -> World -> Prop} (h : Ex n Q .ret e w) : Ex n (Exit.then K Q) .ret e w := fun a ha => h a ha
theorem ja1 {id : Nat} (h : Nx n Q e w) : Ex n (Exit.inBlock id Q) (.exit id) e w := fun a ha => by simp only [Exit.inBlock, if_true]; exact h a ha
theorem je5 {id j : Nat} (hj : Nat.beq j id = false) (h : Ex n Q (.exit j) e w) : Ex n (Exit.inBlock id Q) (.exit j) e w := fun a ha => by
 have : ¬ j = id := fun hh => by subst hh; rw [Nat.beq_refl] at hj; cases hj
 simp only [Exit.inBlock, this, if_false]; exact h a ha
theorem jaG {id : Nat} (h : Ex n Q .ret e w) : Ex n (Exit.inBlock id Q) .ret e w := fun a ha => h a ha

def jkT (n : Nat) {α : Type} (Q : jeG) (env : α -> Env) (wd : α -> World) (I : α -> Prop) (μ : α -> Nat) (x : α) : jeG
 | .normal, a, w => ∃ y, I y /\ μ y < μ x /\ Kn n a (env y) /\ w = wd y
 | ex, a, w => Q ex a w
theorem jmL {α : Type} (env : α -> Env) (wd : α -> World) (I : α -> Prop) (μ : α -> Nat) (x0 : α) {is : List Nat} {c : Code} (hp : pick e is = some (env x0)) (hw : w = wd x0) (h0 : I x0)
  (hr : ∀ x, I x -> W P n c (jkT n Q env wd I μ x) (env x) (wd x)) : W P n (.loop c) Q e w := by
 intro a ha b k cs
 have key : ∀ m x, μ x = m -> I x -> ∀ a, Kn n a (env x) ->
   ∃ e a' w', Q e a' w' /\ Arrives P (lone (b.at a (.code c :: .inLoop c :: k)) cs (wd x)) b k cs e a' w' := by
  intro m
  induction m using Nat.strongRecOn with
  | _ m ih =>
   intro x hm hI a ha
   obtain ⟨ex, a₁, w₁, hq, harr⟩ := hr x hI a ha b (.inLoop c :: k) cs
   cases ex with
   | normal =>
    obtain ⟨y, hI₁, hlt, hk, rfl⟩ := hq
    obtain ⟨e₂, a₂, w₂, hq₂, harr₂⟩ := ih (μ y) (hm ▸ hlt) y rfl hI₁ a₁ hk
    exact ⟨e₂, a₂, w₂, hq₂, .of_steps (Steps.trans harr (.one step_inLoop)) harr₂⟩
   | exit id => exact ⟨_, a₁, w₁, hq, .pass (x := .inLoop c) rfl (fun _ _ => .inl (by simp)) harr⟩
   | goto l => exact ⟨_, a₁, w₁, hq, .pass (x := .inLoop c) rfl (fun _ _ => .inl (by simp)) harr⟩
   | ret => exact ⟨_, a₁, w₁, hq, .pass (x := .inLoop c) rfl (fun _ _ => .inl (by simp)) harr⟩
   | panic ch => exact ⟨_, a₁, w₁, hq, .pass (x := .inLoop c) rfl (fun _ _ => .inl (by simp)) harr⟩
   | outgrown => exact ⟨_, a₁, w₁, hq, .pass (x := .inLoop c) rfl (fun _ _ => .inl (by simp)) harr⟩
 subst hw
 obtain ⟨ex, a', w', hq, harr⟩ := key _ x0 rfl h0 a (ha.pick hp)
 exact ⟨ex, a', w', hq, .of_steps (.one step_loop) harr⟩
theorem Nx_loop {α : Type} {env : α -> Env} {wd : α -> World} {I : α -> Prop} {μ : α -> Nat} {x : α} (y : α) {is : List Nat} (hp : pick e is = some (env y)) (hw : w = wd y) (hI : I y) (hm : μ y < μ x) :
  Nx n (jkT n Q env wd I μ x) e w := fun _ ha => ⟨y, hI, hm, ha.pick hp, hw⟩
theorem Nx_loopP {α : Type} {env : α -> Env} {wd : α -> World} {I : α -> Prop} {μ : α -> Nat} {x : α} (y : α) {I' : Prop} {is : List Nat} (hp : pick e is = some (env y)) (hw : w = wd y) (hI' : I y = I') (hI : I') (hm : μ y < μ x) :
  Nx n (jkT n Q env wd I μ x) e w := Nx_loop y hp hw (hI' ▸ hI) hm
theorem ja8 {α : Type} {env : α -> Env} {wd : α -> World} {I : α -> Prop} {μ : α -> Nat} {x : α} {id : Nat} (h : Ex n Q (.exit id) e w) : Ex n (jkT n Q env wd I μ x) (.exit id) e w := fun a ha => h a ha
theorem jc0 {α : Type} {env : α -> Env} {wd : α -> World} {I : α -> Prop} {μ : α -> Nat} {x : α} (h : Ex n Q .ret e w) : Ex n (jkT n Q env wd I μ x) .ret e w := fun a ha => h a ha


def CutQ (n : Nat) {α : Type} (Q : jeG) (env : α -> Env) (wd : α -> World) (I : α -> Prop) : jeG
 | .normal, a, w => ∃ y, I y /\ Kn n a (env y) /\ w = wd y
 | ex, a, w => Q ex a w
theorem W_cut {α : Type} (env : α -> Env) (wd : α -> World) (I : α -> Prop) {x y : Code} (hx : W P n x (CutQ n Q env wd I) e w) (hy : ∀ s, I s -> W P n y Q (env s) (wd s)) : W P n x (Exit.then (y.wp P Q) Q) e w := by
 intro a ha
 refine wp_mono (hx a ha) fun ex a' w' hq => ?_
 cases ex with
 | normal =>
  obtain ⟨s, hI, hk, rfl⟩ := hq
  exact hy s hI a' hk
 | exit id => exact hq
 | goto l => exact hq
 | ret => exact hq
 | panic ch => exact hq
 | outgrown => exact hq
theorem Nx_cut {α : Type} {env : α -> Env} {wd : α -> World} {I : α -> Prop} (y : α) {is : List Nat} (hp : pick e is = some (env y)) (hw : w = wd y) (hI : I y) :
  Nx n (CutQ n Q env wd I) e w := fun _ ha => ⟨y, hI, ha.pick hp, hw⟩
theorem jbD {α : Type} {env : α -> Env} {wd : α -> World} {I : α -> Prop} (y : α) {I' : Prop} {is : List Nat} (hp : pick e is = some (env y)) (hw : w = wd y) (hI' : I y = I') (hI : I') :
  Nx n (CutQ n Q env wd I) e w := Nx_cut y hp hw (hI' ▸ hI)
theorem W_loop1 {α : Type} (env : α -> Env) (wd : α -> World) (I : α -> Prop) (μ : α -> Nat) (y0 : α) {is : List Nat} {c : Code} (hp : pick e is = some (env y0)) (hw : w = wd y0) (h0 : I y0)
  (hr : ∀ x0, I x0 -> W P n c (jkT n Q (fun s : α => env s) (fun s : α => wd s) (fun s : α => I s) (fun s : α => μ s) x0) (env x0) (wd x0)) : W P n (.loop c) Q e w :=
 jmL (fun s : α => env s) (fun s : α => wd s) (fun s : α => I s) (fun s : α => μ s) y0 hp hw h0 (fun (s : α) hs => hr s hs)
theorem W_cut1 {α : Type} (env : α -> Env) (wd : α -> World) (I : α -> Prop) {x y : Code} (hx : W P n x (CutQ n Q (fun s : α => env s) (fun s : α => wd s) (fun s : α => I s)) e w) (hy : ∀ x0, I x0 -> W P n y Q (env x0) (wd x0)) : W P n x (Exit.then (y.wp P Q) Q) e w :=
 W_cut (fun s : α => env s) (fun s : α => wd s) (fun s : α => I s) hx (fun (s : α) hs => hy s hs)
theorem jd8 {α β : Type} (env : α -> β -> Env) (wd : α -> β -> World) (I : α -> β -> Prop) (μ : α -> β -> Nat) (y0 : α) (y1 : β) {is : List Nat} {c : Code} (hp : pick e is = some (env y0 y1)) (hw : w = wd y0 y1) (h0 : I y0 y1)
  (hr : ∀ x0 x1, I x0 x1 -> W P n c (jkT n Q (fun s : α × β => env s.1 s.2) (fun s : α × β => wd s.1 s.2) (fun s : α × β => I s.1 s.2) (fun s : α × β => μ s.1 s.2) (x0, x1)) (env x0 x1) (wd x0 x1)) : W P n (.loop c) Q e w :=
 jmL (fun s : α × β => env s.1 s.2) (fun s : α × β => wd s.1 s.2) (fun s : α × β => I s.1 s.2) (fun s : α × β => μ s.1 s.2) (y0, y1) hp hw h0 (fun (s : α × β) hs => hr s.1 s.2 hs)
theorem jmM {α β : Type} (env : α -> β -> Env) (wd : α -> β -> World) (I : α -> β -> Prop) {x y : Code} (hx : W P n x (CutQ n Q (fun s : α × β => env s.1 s.2) (fun s : α × β => wd s.1 s.2) (fun s : α × β => I s.1 s.2)) e w) (hy : ∀ x0 x1, I x0 x1 -> W P n y Q (env x0 x1) (wd x0 x1)) : W P n x (Exit.then (y.wp P Q) Q) e w :=
 W_cut (fun s : α × β => env s.1 s.2) (fun s : α × β => wd s.1 s.2) (fun s : α × β => I s.1 s.2) hx (fun (s : α × β) hs => hy s.1 s.2 hs)
theorem jcT {α β γ : Type} (env : α -> β -> γ -> Env) (wd : α -> β -> γ -> World) (I : α -> β -> γ -> Prop) (μ : α -> β -> γ -> Nat) (y0 : α) (y1 : β) (y2 : γ) {is : List Nat} {c : Code} (hp : pick e is = some (env y0 y1 y2)) (hw : w = wd y0 y1 y2) (h0 : I y0 y1 y2)
  (hr : ∀ x0 x1 x2, I x0 x1 x2 -> W P n c (jkT n Q (fun s : α × β × γ => env s.1 s.2.1 s.2.2) (fun s : α × β × γ => wd s.1 s.2.1 s.2.2) (fun s : α × β × γ => I s.1 s.2.1 s.2.2) (fun s : α × β × γ => μ s.1 s.2.1 s.2.2) (x0, x1, x2)) (env x0 x1 x2) (wd x0 x1 x2)) : W P n (.loop c) Q e w :=
 jmL (fun s : α × β × γ => env s.1 s.2.1 s.2.2) (fun s : α × β × γ => wd s.1 s.2.1 s.2.2) (fun s : α × β × γ => I s.1 s.2.1 s.2.2) (fun s : α × β × γ => μ s.1 s.2.1 s.2.2) (y0, y1, y2) hp hw h0 (fun (s : α × β × γ) hs => hr s.1 s.2.1 s.2.2 hs)
theorem jpF {α β γ : Type} (env : α -> β -> γ -> Env) (wd : α -> β -> γ -> World) (I : α -> β -> γ -> Prop) {x y : Code} (hx : W P n x (CutQ n Q (fun s : α × β × γ => env s.1 s.2.1 s.2.2) (fun s : α × β × γ => wd s.1 s.2.1 s.2.2) (fun s : α × β × γ => I s.1 s.2.1 s.2.2)) e w) (hy : ∀ x0 x1 x2, I x0 x1 x2 -> W P n y Q (env x0 x1 x2) (wd x0 x1 x2)) : W P n x (Exit.then (y.wp P Q) Q) e w :=
 W_cut (fun s : α × β × γ => env s.1 s.2.1 s.2.2) (fun s : α × β × γ => wd s.1 s.2.1 s.2.2) (fun s : α × β × γ => I s.1 s.2.1 s.2.2) hx (fun (s : α × β × γ) hs => hy s.1 s.2.1 s.2.2 hs)
theorem jcK {α β γ δ : Type} (env : α -> β -> γ -> δ -> Env) (wd : α -> β -> γ -> δ -> World) (I : α -> β -> γ -> δ -> Prop) (μ : α -> β -> γ -> δ -> Nat) (y0 : α) (y1 : β) (y2 : γ) (y3 : δ) {is : List Nat} {c : Code} (hp : pick e is = some (env y0 y1 y2 y3)) (hw : w = wd y0 y1 y2 y3) (h0 : I y0 y1 y2 y3)
  (hr : ∀ x0 x1 x2 x3, I x0 x1 x2 x3 -> W P n c (jkT n Q (fun s : α × β × γ × δ => env s.1 s.2.1 s.2.2.1 s.2.2.2) (fun s : α × β × γ × δ => wd s.1 s.2.1 s.2.2.1 s.2.2.2) (fun s : α × β × γ × δ => I s.1 s.2.1 s.2.2.1 s.2.2.2) (fun s : α × β × γ × δ => μ s.1 s.2.1 s.2.2.1 s.2.2.2) (x0, x1, x2, x3)) (env x0 x1 x2 x3) (wd x0 x1 x2 x3)) : W P n (.loop c) Q e w :=
 jmL (fun s : α × β × γ × δ => env s.1 s.2.1 s.2.2.1 s.2.2.2) (fun s : α × β × γ × δ => wd s.1 s.2.1 s.2.2.1 s.2.2.2) (fun s : α × β × γ × δ => I s.1 s.2.1 s.2.2.1 s.2.2.2) (fun s : α × β × γ × δ => μ s.1 s.2.1 s.2.2.1 s.2.2.2) (y0, y1, y2, y3) hp hw h0 (fun (s : α × β × γ × δ) hs => hr s.1 s.2.1 s.2.2.1 s.2.2.2 hs)
theorem jrK {α β γ δ ε : Type} (env : α -> β -> γ -> δ -> ε -> Env) (wd : α -> β -> γ -> δ -> ε -> World) (I : α -> β -> γ -> δ -> ε -> Prop) (μ : α -> β -> γ -> δ -> ε -> Nat) (y0 : α) (y1 : β) (y2 : γ) (y3 : δ) (y4 : ε) {is : List Nat} {c : Code} (hp : pick e is = some (env y0 y1 y2 y3 y4)) (hw : w = wd y0 y1 y2 y3 y4) (h0 : I y0 y1 y2 y3 y4)
  (hr : ∀ x0 x1 x2 x3 x4, I x0 x1 x2 x3 x4 -> W P n c (jkT n Q (fun s : α × β × γ × δ × ε => env s.1 s.2.1 s.2.2.1 s.2.2.2.1 s.2.2.2.2) (fun s : α × β × γ × δ × ε => wd s.1 s.2.1 s.2.2.1 s.2.2.2.1 s.2.2.2.2) (fun s : α × β × γ × δ × ε => I s.1 s.2.1 s.2.2.1 s.2.2.2.1 s.2.2.2.2) (fun s : α × β × γ × δ × ε => μ s.1 s.2.1 s.2.2.1 s.2.2.2.1 s.2.2.2.2) (x0, x1, x2, x3, x4)) (env x0 x1 x2 x3 x4) (wd x0 x1 x2 x3 x4)) : W P n (.loop c) Q e w :=
 jmL (fun s : α × β × γ × δ × ε => env s.1 s.2.1 s.2.2.1 s.2.2.2.1 s.2.2.2.2) (fun s : α × β × γ × δ × ε => wd s.1 s.2.1 s.2.2.1 s.2.2.2.1 s.2.2.2.2) (fun s : α × β × γ × δ × ε => I s.1 s.2.1 s.2.2.1 s.2.2.2.1 s.2.2.2.2) (fun s : α × β × γ × δ × ε => μ s.1 s.2.1 s.2.2.1 s.2.2.2.1 s.2.2.2.2) (y0, y1, y2, y3, y4) hp hw h0 (fun (s : α × β × γ × δ × ε) hs => hr s.1 s.2.1 s.2.2.1 s.2.2.2.1 s.2.2.2.2 hs)
theorem W_loop6 {α β γ δ ε ζ : Type} (env : α -> β -> γ -> δ -> ε -> ζ -> Env) (wd : α -> β -> γ -> δ -> ε -> ζ -> World) (I : α -> β -> γ -> δ -> ε -> ζ -> Prop) (μ : α -> β -> γ -> δ -> ε -> ζ -> Nat) (y0 : α) (y1 : β) (y2 : γ) (y3 : δ) (y4 : ε) (y5 : ζ) {is : List Nat} {c : Code} (hp : pick e is = some (env y0 y1 y2 y3 y4 y5)) (hw : w = wd y0 y1 y2 y3 y4 y5) (h0 : I y0 y1 y2 y3 y4 y5)
  (hr : ∀ x0 x1 x2 x3 x4 x5, I x0 x1 x2 x3 x4 x5 -> W P n c (jkT n Q (fun s : α × β × γ × δ × ε × ζ => env s.1 s.2.1 s.2.2.1 s.2.2.2.1 s.2.2.2.2.1 s.2.2.2.2.2) (fun s : α × β × γ × δ × ε × ζ => wd s.1 s.2.1 s.2.2.1 s.2.2.2.1 s.2.2.2.2.1 s.2.2.2.2.2) (fun s : α × β × γ × δ × ε × ζ => I s.1 s.2.1 s.2.2.1 s.2.2.2.1 s.2.2.2.2.1 s.2.2.2.2.2) (fun s : α × β × γ × δ × ε × ζ => μ s.1 s.2.1 s.2.2.1 s.2.2.2.1 s.2.2.2.2.1 s.2.2.2.2.2) (x0, x1, x2, x3, x4, x5)) (env x0 x1 x2 x3 x4 x5) (wd x0 x1 x2 x3 x4 x5)) : W P n (.loop c) Q e w :=
 jmL (fun s : α × β × γ × δ × ε × ζ => env s.1 s.2.1 s.2.2.1 s.2.2.2.1 s.2.2.2.2.1 s.2.2.2.2.2) (fun s : α × β × γ × δ × ε × ζ => wd s.1 s.2.1 s.2.2.1 s.2.2.2.1 s.2.2.2.2.1 s.2.2.2.2.2) (fun s : α × β × γ × δ × ε × ζ => I s.1 s.2.1 s.2.2.1 s.2.2.2.1 s.2.2.2.2.1 s.2.2.2.2.2) (fun s : α × β × γ × δ × ε × ζ => μ s.1 s.2.1 s.2.2.1 s.2.2.2.1 s.2.2.2.2.1 s.2.2.2.2.2) (y0, y1, y2, y3, y4, y5) hp hw h0 (fun (s : α × β × γ × δ × ε × ζ) hs => hr s.1 s.2.1 s.2.2.1 s.2.2.2.1 s.2.2.2.2.1 s.2.2.2.2.2 hs)
theorem W_cut6 {α β γ δ ε ζ : Type} (env : α -> β -> γ -> δ -> ε -> ζ -> Env) (wd : α -> β -> γ -> δ -> ε -> ζ -> World) (I : α -> β -> γ -> δ -> ε -> ζ -> Prop) {x y : Code} (hx : W P n x (CutQ n Q (fun s : α × β × γ × δ × ε × ζ => env s.1 s.2.1 s.2.2.1 s.2.2.2.1 s.2.2.2.2.1 s.2.2.2.2.2) (fun s : α × β × γ × δ × ε × ζ => wd s.1 s.2.1 s.2.2.1 s.2.2.2.1 s.2.2.2.2.1 s.2.2.2.2.2) (fun s : α × β × γ × δ × ε × ζ => I s.1 s.2.1 s.2.2.1 s.2.2.2.1 s.2.2.2.2.1 s.2.2.2.2.2)) e w) (hy : ∀ x0 x1 x2 x3 x4 x5, I x0 x1 x2 x3 x4 x5 -> W P n y Q (env x0 x1 x2 x3 x4 x5) (wd x0 x1 x2 x3 x4 x5)) : W P n x (Exit.then (y.wp P Q) Q) e w :=
 W_cut (fun s : α × β × γ × δ × ε × ζ => env s.1 s.2.1 s.2.2.1 s.2.2.2.1 s.2.2.2.2.1 s.2.2.2.2.2) (fun s : α × β × γ × δ × ε × ζ => wd s.1 s.2.1 s.2.2.1 s.2.2.2.1 s.2.2.2.2.1 s.2.2.2.2.2) (fun s : α × β × γ × δ × ε × ζ => I s.1 s.2.1 s.2.2.1 s.2.2.2.1 s.2.2.2.2.1 s.2.2.2.2.2) hx (fun (s : α × β × γ × δ × ε × ζ) hs => hy s.1 s.2.1 s.2.2.1 s.2.2.2.1 s.2.2.2.2.1 s.2.2.2.2.2 hs)
theorem jpE {α β γ δ ε ζ η : Type} (env : α -> β -> γ -> δ -> ε -> ζ -> η -> Env) (wd : α -> β -> γ -> δ -> ε -> ζ -> η -> World) (I : α -> β -> γ -> δ -> ε -> ζ -> η -> Prop) (μ : α -> β -> γ -> δ -> ε -> ζ -> η -> Nat) (y0 : α) (y1 : β) (y2 : γ) (y3 : δ) (y4 : ε) (y5 : ζ) (y6 : η) {is : List Nat} {c : Code} (hp : pick e is = some (env y0 y1 y2 y3 y4 y5 y6)) (hw : w = wd y0 y1 y2 y3 y4 y5 y6) (h0 : I y0 y1 y2 y3 y4 y5 y6)
  (hr : ∀ x0 x1 x2 x3 x4 x5 x6, I x0 x1 x2 x3 x4 x5 x6 -> W P n c (jkT n Q (fun s : α × β × γ × δ × ε × ζ × η => env s.1 s.2.1 s.2.2.1 s.2.2.2.1 s.2.2.2.2.1 s.2.2.2.2.2.1 s.2.2.2.2.2.2) (fun s : α × β × γ × δ × ε × ζ × η => wd s.1 s.2.1 s.2.2.1 s.2.2.2.1 s.2.2.2.2.1 s.2.2.2.2.2.1 s.2.2.2.2.2.2) (fun s : α × β × γ × δ × ε × ζ × η => I s.1 s.2.1 s.2.2.1 s.2.2.2.1 s.2.2.2.2.1 s.2.2.2.2.2.1 s.2.2.2.2.2.2) (fun s : α × β × γ × δ × ε × ζ × η => μ s.1 s.2.1 s.2.2.1 s.2.2.2.1 s.2.2.2.2.1 s.2.2.2.2.2.1 s.2.2.2.2.2.2) (x0, x1, x2, x3, x4, x5, x6)) (env x0 x1 x2 x3 x4 x5 x6) (wd x0 x1 x2 x3 x4 x5 x6)) : W P n (.loop c) Q e w :=
 jmL (fun s : α × β × γ × δ × ε × ζ × η => env s.1 s.2.1 s.2.2.1 s.2.2.2.1 s.2.2.2.2.1 s.2.2.2.2.2.1 s.2.2.2.2.2.2) (fun s : α × β × γ × δ × ε × ζ × η => wd s.1 s.2.1 s.2.2.1 s.2.2.2.1 s.2.2.2.2.1 s.2.2.2.2.2.1 s.2.2.2.2.2.2) (fun s : α × β × γ × δ × ε × ζ × η => I s.1 s.2.1 s.2.2.1 s.2.2.2.1 s.2.2.2.2.1 s.2.2.2.2.2.1 s.2.2.2.2.2.2) (fun s : α × β × γ × δ × ε × ζ × η => μ s.1 s.2.1 s.2.2.1 s.2.2.2.1 s.2.2.2.2.1 s.2.2.2.2.2.1 s.2.2.2.2.2.2) (y0, y1, y2, y3, y4, y5, y6) hp hw h0 (fun (s : α × β × γ × δ × ε × ζ × η) hs => hr s.1 s.2.1 s.2.2.1 s.2.2.2.1 s.2.2.2.2.1 s.2.2.2.2.2.1 s.2.2.2.2.2.2 hs)
theorem W_loop8 {α β γ δ ε ζ η θ : Type} (env : α -> β -> γ -> δ -> ε -> ζ -> η -> θ -> Env) (wd : α -> β -> γ -> δ -> ε -> ζ -> η -> θ -> World) (I : α -> β -> γ -> δ -> ε -> ζ -> η -> θ -> Prop) (μ : α -> β -> γ -> δ -> ε -> ζ -> η -> θ -> Nat) (y0 : α) (y1 : β) (y2 : γ) (y3 : δ) (y4 : ε) (y5 : ζ) (y6 : η) (y7 : θ) {is : List Nat} {c : Code} (hp : pick e is = some (env y0 y1 y2 y3 y4 y5 y6 y7)) (hw : w = wd y0 y1 y2 y3 y4 y5 y6 y7) (h0 : I y0 y1 y2 y3 y4 y5 y6 y7)
  (hr : ∀ x0 x1 x2 x3 x4 x5 x6 x7, I x0 x1 x2 x3 x4 x5 x6 x7 -> W P n c (jkT n Q (fun s : α × β × γ × δ × ε × ζ × η × θ => env s.1 s.2.1 s.2.2.1 s.2.2.2.1 s.2.2.2.2.1 s.2.2.2.2.2.1 s.2.2.2.2.2.2.1 s.2.2.2.2.2.2.2) (fun s : α × β × γ × δ × ε × ζ × η × θ => wd s.1 s.2.1 s.2.2.1 s.2.2.2.1 s.2.2.2.2.1 s.2.2.2.2.2.1 s.2.2.2.2.2.2.1 s.2.2.2.2.2.2.2) (fun s : α × β × γ × δ × ε × ζ × η × θ => I s.1 s.2.1 s.2.2.1 s.2.2.2.1 s.2.2.2.2.1 s.2.2.2.2.2.1 s.2.2.2.2.2.2.1 s.2.2.2.2.2.2.2) (fun s : α × β × γ × δ × ε × ζ × η × θ => μ s.1 s.2.1 s.2.2.1 s.2.2.2.1 s.2.2.2.2.1 s.2.2.2.2.2.1 s.2.2.2.2.2.2.1 s.2.2.2.2.2.2.2) (x0, x1, x2, x3, x4, x5, x6, x7)) (env x0 x1 x2 x3 x4 x5 x6 x7) (wd x0 x1 x2 x3 x4 x5 x6 x7)) : W P n (.loop c) Q e w :=
 jmL (fun s : α × β × γ × δ × ε × ζ × η × θ => env s.1 s.2.1 s.2.2.1 s.2.2.2.1 s.2.2.2.2.1 s.2.2.2.2.2.1 s.2.2.2.2.2.2.1 s.2.2.2.2.2.2.2) (fun s : α × β × γ × δ × ε × ζ × η × θ => wd s.1 s.2.1 s.2.2.1 s.2.2.2.1 s.2.2.2.2.1 s.2.2.2.2.2.1 s.2.2.2.2.2.2.1 s.2.2.2.2.2.2.2) (fun s : α × β × γ × δ × ε × ζ × η × θ => I s.1 s.2.1 s.2.2.1 s.2.2.2.1 s.2.2.2.2.1 s.2.2.2.2.2.1 s.2.2.2.2.2.2.1 s.2.2.2.2.2.2.2) (fun s : α × β × γ × δ × ε × ζ × η × θ => μ s.1 s.2.1 s.2.2.1 s.2.2.2.1 s.2.2.2.2.1 s.2.2.2.2.2.1 s.2.2.2.2.2.2.1 s.2.2.2.2.2.2.2) (y0, y1, y2, y3, y4, y5, y6, y7) hp hw h0 (fun (s : α × β × γ × δ × ε × ζ × η × θ) hs => hr s.1 s.2.1 s.2.2.1 s.2.2.2.1 s.2.2.2.2.1 s.2.2.2.2.2.1 s.2.2.2.2.2.2.1 s.2.2.2.2.2.2.2 hs)
def argEnv : Nat -> List Value -> Env
 | _, [] => []
 | i, v :: r => (i, v) :: argEnv (i + 1) r
theorem jpD : ∀ (l : List Value) (i j : Nat) (v : Value), look (argEnv i l) j = some v -> i <= j /\ l[j - i]? = some v
 | [], i, j, v, h => by simp [argEnv, look] at h
 | x :: r, i, j, v, h => by
  rw [argEnv, jdU] at h
  by_cases hij : i = j
  ·
   subst hij; simp at h; subst h; simp
  simp [hij] at h
  obtain ⟨h1, h2⟩ := jpD r (i + 1) j v h
  exact ⟨by omega, by rw [show j - i = (j - (i + 1)) + 1 by omega]; simpa using h2⟩
theorem ja7 {f : FuncId} {fn : Func} {c : Code} {l : List Value} {R : Ending -> World -> Prop} (hf : P.funcs[f]? = some fn) (hb : fn.body = some c) (hn : fn.ntmps = n) (hl : Nat.ble l.length n = true)
  (h : W P n c (bodyPost P fn R) (argEnv 0 l) w) : Calls P f l.toArray w R := by
 have hl' : l.length <= n := Nat.le_of_ble_eq_true hl
 refine calls_of_wp hf hb (h _ ⟨by simp [hn]; omega, rfl, fun i v hv => ?_⟩)
 obtain ⟨_, h2⟩ := jpD l 0 i v hv
 have hi : i < l.length := (List.getElem?_eq_some_iff.1 (by simpa using h2)).1
 simp at h2
 simp [Array.getElem?_append, hi]
 simpa [hi] using h2
theorem jeP {a : Act} {t : Tmp} {v : Value} (ha : Kn n a e) (h : look e t = some v) : a.tmps.getD t undef = v := by simp [ha.2.2 t v h]
theorem Ex_done0 {fn : Func} {R : Ending -> World -> Prop} {x : Exit} (hx : x = .ret ∨ x = .normal) (hr : fn.results = #[]) (h : R (.returned (.tuple #[])) w) : Ex n (bodyPost P fn R) x e w := by
 intro a ha
 have : bodyPost P fn R .ret a w := ⟨ha.2.1, _, results_none hr _ _ _, h⟩
 rcases hx with rfl | rfl <;> exact this
theorem ja9 {fn : Func} {R : Ending -> World -> Prop} {t : Tmp} {v : Value} (hr : fn.results = #[.tmp t]) (ht : look e t = some v) (h : R (.returned v) w) : Ex n (bodyPost P fn R) .ret e w :=
 fun a ha => ⟨ha.2.1, v, by rw [results_tmp hr, jeP ha ht], h⟩
theorem jb9 {fn : Func} {R : Ending -> World -> Prop} {t u : Tmp} {v v' : Value} (hr : fn.results = #[.tmp t, .tmp u]) (ht : look e t = some v) (hu : look e u = some v') (h : R (.returned (.tuple #[v, v'])) w) : Ex n (bodyPost P fn R) .ret e w :=
 fun a ha => ⟨ha.2.1, _, by rw [results_tmp2 hr, jeP ha ht, jeP ha hu], h⟩
theorem jg0 {fn : Func} {R : Ending -> World -> Prop} (hr : fn.results = #[]) (h : R (.returned (.tuple #[])) w) : Nx n (bodyPost P fn R) e w := Ex_done0 (n := n) (e := e) (.inr rfl) hr h
end

def qnan : Nat := 0x7FF8000000000001
def jb1 (b : Nat) : Bool := (FloatKind.f64.decode b).isNaN
def cn (b : Nat) : Nat := if jb1 b then qnan else b
def fop (op : BinOp) (x y : Nat) : Nat := (floatBits op .f64 x y).getD qnan
def jh7 : BinOp -> Bool
 | .add | .sub | .mul | .quo => true
 | _ => false
theorem jkM {r : Nat} (h : 9218868437227405312 < r % 9223372036854775808) : jb1 r = true := by
 have h1 : ¬ r % 9223372036854775808 < 4503599627370496 := by omega
 have h2 : ¬ r % 9223372036854775808 < 9218868437227405312 := by omega
 have h3 : ¬ r % 9223372036854775808 = 9218868437227405312 := by omega
 simp only [jb1, FloatKind.decode, FloatKind.format, Ieee.Format.read, Ieee.double, Ieee.Format.signWeight, Ieee.Format.binade, Ieee.Format.infRung, Nat.reduceAdd, Nat.reducePow, Nat.reduceSub, Nat.reduceMul, h1, h2, h3, if_false, Ieee.Datum.isNaN]
theorem nan_cut (q : Nat) : 9218868437227405312 < (q % 2 * 9223372036854775808 + 9218868437227405312 + 1 + q / 2 % 4503599627370495) % 9223372036854775808 := by
 have h1 : q / 2 % 4503599627370495 < 4503599627370495 := Nat.mod_lt _ (by decide)
 generalize q / 2 % 4503599627370495 = u at h1
 rcases Nat.mod_two_eq_zero_or_one q with h | h <;> rw [h] <;> omega
theorem jm1 (P : Program) (w : World) (op : BinOp) (x y : Nat) (h : jh7 op = true) :
  ∃ r k, (Op.floatArith op .f64 x y).run P w = .ok (.float .f64 r) (w.drewN k) /\ (floatBits op .f64 x y = some r ∨ (floatBits op .f64 x y = none /\ jb1 r = true)) := by
 cases hb : floatBits op .f64 x y with
 | some r => exact ⟨r, 0, run_floatArith w hb, .inl rfl⟩
 | none =>
  refine ⟨Question.cut (.nanBits .f64 x y) (w.tape w.drawn (.nanBits .f64 x y)), 1, ?_, .inr ⟨rfl, jkM (nan_cut _)⟩⟩
  cases op <;> simp [jh7] at h <;> simp only [floatBits] at hb <;> simp only [Op.floatArith, hb]
  all_goals
   simp [Question.forced]
   rfl

section
variable {P : Program} {n : Nat} {Q : jeG} {e : Env} {w : World} {ops : Array Oper} {rest : List Oper} {t : TypeId} {p : String} {af : Array Edge}

theorem jaT {d : Nat} {op : Op} {v : Value} {w' : World} (hd : Nat.blt d n = true) (hr : ∀ a, Kn n a e -> (execOp a.eval (Oper.mk (some d) op t p af none)).run P w = .ok (.value v) w')
  (h : RL P n ops rest Q ((d, v) :: e) w') : RL P n ops (Oper.mk (some d) op t p af none :: rest) Q e w := by
 intro a ha
 refine wpList_plain rfl fun K hK => ?_
 simp only [Oper.wp, hr a ha, Oper.upon]
 exact hK _ _ (h _ (ha.put hd v))
theorem RL_val0 {op : Op} {v : Value} {w' : World} (hr : ∀ a, Kn n a e -> (execOp a.eval (Oper.mk none op t p af none)).run P w = .ok (.value v) w')
  (h : RL P n ops rest Q e w') : RL P n ops (Oper.mk none op t p af none :: rest) Q e w := by
 intro a ha
 refine wpList_plain rfl fun K hK => ?_
 simp only [Oper.wp, hr a ha, Oper.upon]
 exact hK _ _ (h _ ha)
theorem RL_unit {op : Op} {w' : World} (hr : ∀ a, Kn n a e -> (execOp a.eval (Oper.mk none op t p af none)).run P w = .ok .skip w')
  (h : RL P n ops rest Q e w') : RL P n ops (Oper.mk none op t p af none :: rest) Q e w := by
 intro a ha
 refine wpList_plain rfl fun K hK => ?_
 simp only [Oper.wp, hr a ha, Oper.upon]
 exact hK _ _ (h _ ha)
theorem RL_want {dst : Option Tmp} {op : Op} {j d : Nat} {b : Bool} (hj : (ops[j]?).bind (·.dst) = some d) (hl : look e d = some (.bool b))
  (h : RL P n ops (Oper.mk dst op t p af none :: rest) Q e w) : RL P n ops (Oper.mk dst op t p af (some (j, b)) :: rest) Q e w := by
 intro a ha
 have h1 := h a ha
 simp only [wpList, Region.wanted, if_true] at h1
 have hy : yielded ops a.tmps j = some b := by simp [yielded, hj, ha.2.2 d _ hl]
 have hw : Region.wanted (Oper.mk dst op t p af (some (j, b))) (yielded ops a.tmps) = true := by simp [Region.wanted, hy]
 simp only [wpList, hw, if_true]
 exact h1
theorem RL_skip {d : Nat} {op : Op} {j d' : Nat} {b c : Bool} (hd : Nat.blt d n = true) (hj : (ops[j]?).bind (·.dst) = some d') (hl : look e d' = some (.bool b)) (hne : (b == c) = false)
  (h : RL P n ops rest Q ((d, undef) :: e) w) : RL P n ops (Oper.mk (some d) op t p af (some (j, c)) :: rest) Q e w := by
 intro a ha
 have hy : yielded ops a.tmps j = some b := by simp [yielded, hj, ha.2.2 d' _ hl]
 have hw : Region.wanted (Oper.mk (some d) op t p af (some (j, c))) (yielded ops a.tmps) = false := by simp [Region.wanted, hy]; simpa using hne
 simp only [wpList, hw]
 exact h _ (ha.put hd undef)
theorem je7 (d : Nat) {v v' : Value} (hl : look e d = some v) (hv : v = v') (h : RL P n ops rest Q ((d, v') :: e) w) : RL P n ops rest Q e w := by
 subst hv; exact fun a ha => h a (ha.drop hl)
theorem jcG (d : Nat) {v v' : Value} {c : Code} (hl : look e d = some v) (hv : v = v') (h : W P n c Q ((d, v') :: e) w) : W P n c Q e w := by
 subst hv; exact fun a ha => h a (ha.drop hl)

section
variable {d : Nat} (hd : Nat.blt d n = true)
include hd
theorem jgK {x : Operand} {v : Value} (hx : jaD e x = some v) (h : RL P n ops rest Q ((d, v) :: e) w) : RL P n ops (Oper.mk (some d) (.move x) t p af none :: rest) Q e w :=
 jaT hd (fun a ha => by simp [execOp, ha.eval hx]) h
theorem jg1 {x : Operand} {v : Value} (hx : jaD e x = some v) (h : RL P n ops rest Q ((d, v) :: e) w) : RL P n ops (Oper.mk (some d) (.assign x) t p af none :: rest) Q e w :=
 jaT hd (fun a ha => by simp [execOp, ha.eval hx]) h
theorem L_pick_t {c x y : Operand} {v : Value} (hc : jaD e c = some (.bool true)) (hx : jaD e x = some v) (h : RL P n ops rest Q ((d, v) :: e) w) : RL P n ops (Oper.mk (some d) (.pick c x y) t p af none :: rest) Q e w :=
 jaT hd (fun a ha => by simp [execOp, ha.eval hx, ha.eval hc, asBool]) h
theorem L_pick_f {c x y : Operand} {v : Value} (hc : jaD e c = some (.bool false)) (hy : jaD e y = some v) (h : RL P n ops rest Q ((d, v) :: e) w) : RL P n ops (Oper.mk (some d) (.pick c x y) t p af none :: rest) Q e w :=
 jaT hd (fun a ha => by simp [execOp, ha.eval hy, ha.eval hc, asBool]) h
theorem L_not {T : TypeId} {x : Operand} {b : Bool} (hx : jaD e x = some (.bool b)) (h : RL P n ops rest Q ((d, .bool !b) :: e) w) : RL P n ops (Oper.mk (some d) (.unOp .not T x) t p af none :: rest) Q e w :=
 jaT hd (fun a ha => by simp [execOp, ha.eval hx, Op.unary]) h
theorem jhC {T : TypeId} {x : Operand} {k : FloatKind} {i : Nat} (hx : jaD e x = some (.float k i)) (h : RL P n ops rest Q ((d, .float k (Op.negFloat k i)) :: e) w) : RL P n ops (Oper.mk (some d) (.unOp .neg T x) t p af none :: rest) Q e w :=
 jaT hd (fun a ha => by simp [execOp, ha.eval hx, Op.unary]) h
theorem jkU {op : BinOp} {T T' : TypeId} {x y : Operand} {vx vy v : Value} (hx : jaD e x = some vx) (hy : jaD e y = some vy) (hg : ∀ x y, eqGuard op T x y vx vy = pure ()) (hr : (binOp op T vx vy).run P w = .ok v w)
  (h : RL P n ops rest Q ((d, v) :: e) w) : RL P n ops (Oper.mk (some d) (.binOp op T x y T') t p af none :: rest) Q e w :=
 jaT hd (fun a ha => by simp [execOp, ha.eval hx, ha.eval hy, hg, hr]) h
theorem L_add {T T' : TypeId} {x y : Operand} {k : IntKind} {i j c : Int} (hx : jaD e x = some (.int k i)) (hy : jaD e y = some (.int k j)) (hc : k.wrap (i + j) = c)
  (h : RL P n ops rest Q ((d, .int k c) :: e) w) : RL P n ops (Oper.mk (some d) (.binOp .add T x y T') t p af none :: rest) Q e w :=
 jkU hd hx hy (fun _ _ => eqGuard_add ..) (by simp [binOp_add, Op.intArith, hc]) h
theorem L_sub {T T' : TypeId} {x y : Operand} {k : IntKind} {i j c : Int} (hx : jaD e x = some (.int k i)) (hy : jaD e y = some (.int k j)) (hc : k.wrap (i - j) = c)
  (h : RL P n ops rest Q ((d, .int k c) :: e) w) : RL P n ops (Oper.mk (some d) (.binOp .sub T x y T') t p af none :: rest) Q e w :=
 jkU hd hx hy (fun _ _ => eqGuard_sub ..) (by simp [binOp_sub, Op.intArith, hc]) h
theorem L_mul {T T' : TypeId} {x y : Operand} {k : IntKind} {i j c : Int} (hx : jaD e x = some (.int k i)) (hy : jaD e y = some (.int k j)) (hc : k.wrap (i * j) = c)
  (h : RL P n ops rest Q ((d, .int k c) :: e) w) : RL P n ops (Oper.mk (some d) (.binOp .mul T x y T') t p af none :: rest) Q e w :=
 jkU hd hx hy (fun _ _ => eqGuard_mul ..) (by simp [binOp_mul, Op.intArith, hc]) h
theorem L_rem {T T' : TypeId} {x y : Operand} {k : IntKind} {i j : Int} (hx : jaD e x = some (.int k i)) (hy : jaD e y = some (.int k j)) (hj : j ≠ 0)
  (h : RL P n ops rest Q ((d, .int k (i.tmod j)) :: e) w) : RL P n ops (Oper.mk (some d) (.binOp .rem T x y T') t p af none :: rest) Q e w :=
 jkU hd hx hy (fun _ _ => eqGuard_rem ..) (by simp [binOp_rem, Op.intDiv, hj]) h
theorem L_quo {T T' : TypeId} {x y : Operand} {k : IntKind} {i j c : Int} (hx : jaD e x = some (.int k i)) (hy : jaD e y = some (.int k j)) (hj : j ≠ 0) (hc : k.wrap (i.tdiv j) = c)
  (h : RL P n ops rest Q ((d, .int k c) :: e) w) : RL P n ops (Oper.mk (some d) (.binOp .quo T x y T') t p af none :: rest) Q e w :=
 jkU hd hx hy (fun _ _ => eqGuard_quo ..) (by simp [binOp_quo, Op.intDiv, hj, hc]) h
theorem L_lss {T T' : TypeId} {x y : Operand} {k : IntKind} {i j : Int} {b : Bool} (hx : jaD e x = some (.int k i)) (hy : jaD e y = some (.int k j)) (hb : decide (i < j) = b)
  (h : RL P n ops rest Q ((d, .bool b) :: e) w) : RL P n ops (Oper.mk (some d) (.binOp .lss T x y T') t p af none :: rest) Q e w :=
 jkU hd hx hy (fun _ _ => eqGuard_lss ..) (by subst hb; simp [binOp_lss]) h
theorem L_leq {T T' : TypeId} {x y : Operand} {k : IntKind} {i j : Int} {b : Bool} (hx : jaD e x = some (.int k i)) (hy : jaD e y = some (.int k j)) (hb : decide (i <= j) = b)
  (h : RL P n ops rest Q ((d, .bool b) :: e) w) : RL P n ops (Oper.mk (some d) (.binOp .leq T x y T') t p af none :: rest) Q e w :=
 jkU hd hx hy (fun _ _ => eqGuard_leq ..) (by subst hb; simp [binOp_leq]) h
theorem L_gtr {T T' : TypeId} {x y : Operand} {k : IntKind} {i j : Int} {b : Bool} (hx : jaD e x = some (.int k i)) (hy : jaD e y = some (.int k j)) (hb : decide (j < i) = b)
  (h : RL P n ops rest Q ((d, .bool b) :: e) w) : RL P n ops (Oper.mk (some d) (.binOp .gtr T x y T') t p af none :: rest) Q e w :=
 jkU hd hx hy (fun _ _ => eqGuard_gtr ..) (by subst hb; simp [binOp_gtr]) h
theorem L_geq {T T' : TypeId} {x y : Operand} {k : IntKind} {i j : Int} {b : Bool} (hx : jaD e x = some (.int k i)) (hy : jaD e y = some (.int k j)) (hb : decide (j <= i) = b)
  (h : RL P n ops rest Q ((d, .bool b) :: e) w) : RL P n ops (Oper.mk (some d) (.binOp .geq T x y T') t p af none :: rest) Q e w :=
 jkU hd hx hy (fun _ _ => eqGuard_geq ..) (by subst hb; simp [binOp_geq]) h
theorem L_eql {T T' : TypeId} {x y : Operand} {k : IntKind} {i j : Int} {b : Bool} (hx : jaD e x = some (.int k i)) (hy : jaD e y = some (.int k j)) (hb : decide (i = j) = b)
  (h : RL P n ops rest Q ((d, .bool b) :: e) w) : RL P n ops (Oper.mk (some d) (.binOp .eql T x y T') t p af none :: rest) Q e w :=
 jkU hd hx hy (fun _ _ => eqGuard_at_int ..) (by subst hb; simp [binOp_eql]; rfl) h
theorem L_neq {T T' : TypeId} {x y : Operand} {k : IntKind} {i j : Int} {b : Bool} (hx : jaD e x = some (.int k i)) (hy : jaD e y = some (.int k j)) (hb : decide (i ≠ j) = b)
  (h : RL P n ops rest Q ((d, .bool b) :: e) w) : RL P n ops (Oper.mk (some d) (.binOp .neq T x y T') t p af none :: rest) Q e w :=
 jkU hd hx hy (fun _ _ => eqGuard_at_int ..) (by
  subst hb
  rw [binOp_neq]
  simp only [Sem.run_pure]
  congr 2
  rw [Bool.eq_iff_iff]; simp) h
theorem L_fcmp {op : BinOp} {T T' : TypeId} {x y : Operand} {k : FloatKind} {i j : Nat} {v : Value} (hx : jaD e x = some (.float k i)) (hy : jaD e y = some (.float k j)) (hv : ∀ w, (binOp op T (.float k i) (.float k j)).run P w = .ok v w)
  (h : RL P n ops rest Q ((d, v) :: e) w) : RL P n ops (Oper.mk (some d) (.binOp op T x y T') t p af none :: rest) Q e w :=
 jkU hd hx hy (fun _ _ => eqGuard_at_float ..) (hv w) h
theorem jaC {op : BinOp} {T T' : TypeId} {x y : Operand} {i j : Nat} (hop : jh7 op = true) (hx : jaD e x = some (.float .f64 i)) (hy : jaD e y = some (.float .f64 j))
  (h : ∀ r k, (floatBits op .f64 i j = some r ∨ (floatBits op .f64 i j = none /\ jb1 r = true)) -> RL P n ops rest Q ((d, .float .f64 r) :: e) (w.drewN k)) :
  RL P n ops (Oper.mk (some d) (.binOp op T x y T') t p af none :: rest) Q e w := by
 obtain ⟨r, k, hr, hs⟩ := jm1 P w op i j hop
 refine jaT hd (w' := w.drewN k) (v := .float .f64 r) (fun a ha => ?_) (h r k hs)
 have hb : binOp op T (.float .f64 i) (.float .f64 j) = Op.floatArith op .f64 i j := by cases op <;> simp [jh7] at hop <;> simp [binOp]
 simp [execOp, ha.eval hx, ha.eval hy, eqGuard_at_float, hb, hr]
end
end

abbrev Row (T : TypeId) (cs : List Value) : Obj := .cells cs.toArray T (0, 0)
def SameEnv (w0 w : World) : Prop := w.os = w0.os /\ w.tape = w0.tape /\ w.output = w0.output
structure HS (w0 w : World) (L : List (Nat × Obj)) : Prop where
 size : w0.heap.size <= w.heap.size
 has : ∀ p ∈ L, w.heap[p.1]? = some p.2
 nodup : (L.map (·.1)).Nodup
 kept : ∀ b, b < w0.heap.size -> b ∉ L.map (·.1) -> w.heap[b]? = w0.heap[b]?
 env : SameEnv w0 w
theorem HS.refl (w : World) : HS w w [] := ⟨Nat.le_refl _, by simp, by simp, fun _ _ _ => rfl, rfl, rfl, rfl⟩
theorem HS.drewN {w0 w : World} {L : List (Nat × Obj)} (h : HS w0 w L) (k : Nat) : HS w0 (w.drewN k) L := ⟨h.size, h.has, h.nodup, h.kept, h.env⟩
theorem HS.get {w0 w : World} {L : List (Nat × Obj)} (h : HS w0 w L) {i b : Nat} {o : Obj} (hL : L[i]? = some (b, o)) : w.heap[b]? = some o := h.has (b, o) (List.mem_of_getElem? hL)
theorem HS.lt {w0 w : World} {L : List (Nat × Obj)} (h : HS w0 w L) {i b : Nat} {o : Obj} (hL : L[i]? = some (b, o)) : b < w.heap.size := (Array.getElem?_eq_some_iff.1 (h.get hL)).1
theorem HS.lt' {w0 w : World} {L : List (Nat × Obj)} (h : HS w0 w L) {p : Nat × Obj} (hp : p ∈ L) : p.1 < w.heap.size := (Array.getElem?_eq_some_iff.1 (h.has p hp)).1
theorem cell_of_row {w : World} {b : Nat} {T : TypeId} {cs : List Value} (h : w.heap[b]? = some (Row T cs)) {i : Nat} {v : Value} (hv : cs[i]? = some v) : w.cell? ⟨b, i, none⟩ = some v := by
 simp [World.cell?, h, hv]
theorem jgT {w : World} {b : Nat} {T : TypeId} {cs : List Value} (h : w.heap[b]? = some (Row T cs)) (a : Addr) (ha : a.block = b) : w.frozen? a = false := by
 simp [World.frozen?, ha, h]
theorem jaM (b i : Nat) : (Addr.mk b 0 none).add i = ⟨b, i, none⟩ := by rw [Addr.add_lit, Nat.zero_add]
theorem HS.cell {w0 w : World} {L : List (Nat × Obj)} (h : HS w0 w L) {i b j : Nat} {T : TypeId} {cs : List Value} {v : Value} (hL : L[i]? = some (b, Row T cs)) (hv : cs[j]? = some v) : w.cell? ⟨b, j, none⟩ = some v :=
 cell_of_row (h.get hL) hv
theorem HS.cellA {w0 w : World} {L : List (Nat × Obj)} (h : HS w0 w L) {i b j : Nat} {T : TypeId} {cs : List Value} {v : Value} (hL : L[i]? = some (b, Row T cs)) (hv : cs[j]? = some v) : w.cell? ((Addr.mk b 0 none).add j) = some v := by
 rw [jaM]; exact h.cell hL hv
theorem HS.old {w0 w : World} {L : List (Nat × Obj)} (h : HS w0 w L) {b : Nat} (hb : b < w0.heap.size) (hn : b ∉ L.map (·.1)) : w.heap[b]? = w0.heap[b]? := h.kept b hb hn
theorem HS.oldcell {w0 w : World} {L : List (Nat × Obj)} (h : HS w0 w L) {a : Addr} {v : Value} (hc : w0.cell? a = some v) (hn : a.block ∉ L.map (·.1)) : w.cell? a = some v := by
 have := h.kept a.block (World.block_lt_of_cell? w0 a hc) hn
 rw [World.cell?_of_block this]; exact hc
def Own (w0 : World) (L : List (Nat × Obj)) : Prop := ∀ p ∈ L, w0.heap.size <= p.1
theorem Own.notin {w0 : World} {L : List (Nat × Obj)} (h : Own w0 L) {b : Nat} (hb : b < w0.heap.size) : b ∉ L.map (·.1) := by
 intro hm
 obtain ⟨p, hp, rfl⟩ := List.mem_map.1 hm
 have := h p hp
 omega
theorem nodup_idx {l : List Nat} (h : l.Nodup) {i j x : Nat} (hi : l[i]? = some x) (hj : l[j]? = some x) : i = j := by
 obtain ⟨hi1, hi2⟩ := List.getElem?_eq_some_iff.1 hi
 obtain ⟨hj1, hj2⟩ := List.getElem?_eq_some_iff.1 hj
 have hp := List.pairwise_iff_getElem.1 h
 rcases Nat.lt_trichotomy i j with h3 | h3 | h3
 ·
  exact absurd (hi2.trans hj2.symm) (hp i j hi1 hj1 h3)
 ·
  exact h3
 exact absurd (hj2.trans hi2.symm) (hp j i hj1 hi1 h3)
theorem keys_set {L : List (Nat × Obj)} {i b : Nat} {o o' : Obj} (hL : L[i]? = some (b, o)) : (L.set i (b, o')).map (·.1) = L.map (·.1) := by
 obtain ⟨hi, hLi⟩ := List.getElem?_eq_some_iff.1 hL
 apply List.ext_getElem?
 intro j
 simp only [List.getElem?_map, List.getElem?_set]
 by_cases hij : i = j
 ·
  subst hij; simp [hi, hLi]
 simp [hij]
theorem HS.setRow {w0 w : World} {L : List (Nat × Obj)} (h : HS w0 w L) {i b : Nat} {T : TypeId} {cs cs' : List Value} (hL : L[i]? = some (b, Row T cs)) : HS w0 (w.setRow b cs'.toArray) (L.set i (b, Row T cs')) := by
 have hi : i < L.length := (List.getElem?_eq_some_iff.1 hL).1
 have hkeys := keys_set (o' := Row T cs') hL
 refine ⟨by simpa [World.setRow] using h.size, fun p hp => ?_, by rw [hkeys]; exact h.nodup, fun c hc hn => ?_, h.env⟩
 ·
  obtain ⟨j, hj⟩ := List.getElem?_of_mem hp
  rw [List.getElem?_set] at hj
  by_cases hij : i = j
  ·
   simp only [hij, if_true] at hj
   split at hj
   ·
    cases hj
    have := setRow_heap w b cs.toArray cs'.toArray T (0, 0) (h.get hL)
    exact this
   cases hj
  simp only [hij, if_false] at hj
  have hne : p.1 ≠ b := by
   intro he
   have h1 : (L.map (·.1))[i]? = some b := by simp [hL]
   have h2 : (L.map (·.1))[j]? = some b := by simp [hj, he]
   exact hij (nodup_idx h.nodup h1 h2)
  rw [setRow_other w b p.1 _ hne]
  exact h.has p (List.mem_of_getElem? hj)
 rw [hkeys] at hn
 have hne : c ≠ b := fun he => hn (by subst he; exact List.mem_map.2 ⟨_, List.mem_of_getElem? hL, rfl⟩)
 rw [setRow_other w b c _ hne]
 exact h.kept c hc hn
theorem jm0 {w : World} {b j : Nat} {T : TypeId} {cs : List Value} {v : Value} (h : w.heap[b]? = some (Row T cs)) : w.setCell ⟨b, j, none⟩ v = w.setRow b (cs.set j v).toArray := by
 unfold World.setCell World.setRow
 congr 1
 apply Array.ext_getElem?
 intro k
 simp only [Array.getElem?_modify]
 by_cases hk : b = k
 ·
  subst hk
  simp [h]
 simp [hk]
theorem HS.store {w0 w : World} {L : List (Nat × Obj)} (h : HS w0 w L) {i b j : Nat} {T : TypeId} {cs : List Value} {v : Value} (hL : L[i]? = some (b, Row T cs)) : HS w0 (w.setCell ⟨b, j, none⟩ v) (L.set i (b, Row T (cs.set j v))) := by
 rw [jm0 (h.get hL)]; exact h.setRow hL
theorem HS.alloc {w0 w : World} {L : List (Nat × Obj)} (h : HS w0 w L) (o : Obj) : HS w0 (w.alloc o) (L ++ [(w.heap.size, o)]) := by
 refine ⟨by have := h.size; simp; omega, fun p hp => ?_, ?_, fun b hb hn => ?_, h.env⟩
 ·
  rcases List.mem_append.1 hp with hp | hp
  ·
   rw [Go.heap_alloc_old w o (h.lt' hp)]; exact h.has p hp
  simp at hp; subst hp; exact heap_alloc_new w o
 ·
  rw [List.map_append, List.nodup_append]
  refine ⟨h.nodup, by simp, fun a ha b hb hab => ?_⟩
  obtain ⟨p, hp, rfl⟩ := List.mem_map.1 ha
  have := h.lt' hp
  simp at hb
  omega
 have := h.size
 rw [Go.heap_alloc_old w o (r := b) (by omega)]
 exact h.kept b hb (fun hm => hn (by simp only [List.map_append, List.mem_append]; exact .inl hm))
theorem HS.trans {w0 w w' : World} {L L' L'' : List (Nat × Obj)} (h : HS w0 w L) (h' : HS w w' L')
  (hsub : ∀ p ∈ L'', p ∈ L' ∨ (p ∈ L /\ p.1 ∉ L'.map (·.1))) (hnd : (L''.map (·.1)).Nodup)
  (hcov : ∀ b, b < w0.heap.size -> b ∉ L''.map (·.1) -> b ∉ L.map (·.1) /\ b ∉ L'.map (·.1)) : HS w0 w' L'' := by
 refine ⟨Nat.le_trans h.size h'.size, fun p hp => ?_, hnd, fun b hb hn => ?_, h'.env.1.trans h.env.1, h'.env.2.1.trans h.env.2.1, h'.env.2.2.trans h.env.2.2⟩
 ·
  rcases hsub p hp with h1 | ⟨h1, h2⟩
  ·
   exact h'.has p h1
  rw [h'.kept p.1 (h.lt' h1) h2]; exact h.has p h1
 obtain ⟨h1, h2⟩ := hcov b hb hn
 rw [h'.kept b (Nat.lt_of_lt_of_le hb h.size) h2, h.kept b hb h1]
theorem HS.call {w0 w w' : World} {L L' : List (Nat × Obj)} (h : HS w0 w L) (h' : HS w w' L') (hn : Own w L') : HS w0 w' (L ++ L') := by
 have hd : ∀ p ∈ L, p.1 ∉ L'.map (·.1) := fun p hp => hn.notin (h.lt' hp)
 refine h.trans h' (fun p hp => ?_) ?_ (fun b hb hb' => ?_)
 ·
  rcases List.mem_append.1 hp with h1 | h1
  ·
   exact .inr ⟨h1, hd p h1⟩
  exact .inl h1
 ·
  rw [List.map_append, List.nodup_append]
  refine ⟨h.nodup, h'.nodup, fun a ha b hb hab => ?_⟩
  obtain ⟨p, hp, rfl⟩ := List.mem_map.1 ha
  exact hd p hp (hab ▸ hb)
 simp only [List.map_append, List.mem_append, not_or] at hb'
 exact hb'
theorem HS.nil {w0 w w' : World} {L : List (Nat × Obj)} (h : HS w0 w L) (h' : HS w w' []) : HS w0 w' L := by simpa using h.call h' (by intro p hp; cases hp)
theorem HS.sub {w0 w : World} {L L' : List (Nat × Obj)} (h : HS w0 w L) (hs : ∀ p ∈ L', p ∈ L) (hnd : (L'.map (·.1)).Nodup) (ho : ∀ p ∈ L, p ∈ L' ∨ w0.heap.size <= p.1) : HS w0 w L' := by
 refine ⟨h.size, fun p hp => h.has p (hs p hp), hnd, fun b hb hn => h.kept b hb fun hm => ?_, h.env⟩
 obtain ⟨p, hp, rfl⟩ := List.mem_map.1 hm
 rcases ho p hp with h1 | h1
 ·
  exact hn (List.mem_map.2 ⟨p, h1, rfl⟩)
 omega
theorem HS.forget {w0 w : World} {L : List (Nat × Obj)} (h : HS w0 w L) (ho : Own w0 L) : HS w0 w [] := h.sub (by simp) (by simp) (fun p hp => .inr (ho p hp))

structure TI (P : Program) (e : TypeId) (z : Value) (size bytes : Nat) : Prop where
 ex : ∃ i, P.info? e = some i /\ i.zero = some z /\ i.size = size /\ i.bytes = bytes
theorem TI.of {P : Program} {e : TypeId} {z : Value} {size bytes : Nat} (h : (P.info? e).map (fun i => (i.zero, i.size, i.bytes)) = some (some z, size, bytes)) : TI P e z size bytes := ⟨info_parts h⟩
theorem TI.sizeOf {P : Program} {e : TypeId} {z : Value} {size bytes : Nat} (h : TI P e z size bytes) (w : World) : (sizeOf e).run P w = .ok size w := by
 obtain ⟨i, hi, _, hs, _⟩ := h.ex
 simp [Go.sizeOf, typeInfo, hi, hs]
theorem TI.zero {P : Program} {e : TypeId} {z : Value} {size bytes : Nat} (h : TI P e z size bytes) (w : World) : (zeroValue e).run P w = .ok z w := by
 obtain ⟨i, hi, hz, _, _⟩ := h.ex
 simp [zeroValue, typeInfo, hi, hz]
def isAggD : TypeDesc -> Bool
 | .struct _ | .array _ _ => true
 | _ => false
def One (P : Program) (T : TypeId) : Prop := ∃ D, P.underlying T = some D /\ isAggD D = false
def Agg (P : Program) (T : TypeId) : Prop := ∃ D, P.underlying T = some D /\ isAggD D = true
theorem One.run {P : Program} {T : TypeId} (h : One P T) (w : World) : (isAgg T).run P w = .ok false w := by
 obtain ⟨D, hD, hd⟩ := h
 unfold isAgg
 rw [Sem.run_bind, run_underlying hD w]
 cases D <;> simp_all [isAggD]
theorem Agg.run {P : Program} {T : TypeId} (h : Agg P T) (w : World) : (isAgg T).run P w = .ok true w := by
 obtain ⟨D, hD, hd⟩ := h
 unfold isAgg
 rw [Sem.run_bind, run_underlying hD w]
 cases D <;> simp_all [isAggD]

def jbF (w : World) (a : Addr) (cs : List Value) : Prop := ∀ j v, cs[j]? = some v -> w.cell? (a.add j) = some v
theorem jaR (a : Addr) (i j : Nat) : (a.add i).add j = a.add (i + j) := by
 unfold Addr.add
 by_cases hi : i = 0 <;> by_cases hj : j = 0 <;> simp [hi, hj, Nat.add_assoc]
 all_goals (intro; omega)

section
variable {P : Program} {n : Nat} {Q : jeG} {e : Env} {w w0 : World} {L : List (Nat × Obj)} {ops : Array Oper} {rest : List Oper} {t : TypeId} {p : String} {af : Array Edge}
section
variable {d : Nat} (hd : Nat.blt d n = true)
include hd
theorem jgX {T : TypeId} {x : Operand} {ad : Addr} {v : Value} (hT : One P T) (hx : jaD e x = some (.pointer (some ad))) (hc : w.cell? ad = some v)
  (h : RL P n ops rest Q ((d, v) :: e) w) : RL P n ops (Oper.mk (some d) (.load T x) t p af none :: rest) Q e w :=
 jaT hd (fun a ha => by simp [execOp, ha.eval hx, Instr.loadAt, Instr.sureAddr, loadVar, hT.run, hc]) h
theorem jb7 {T : TypeId} {x : Operand} {ad : Addr} {cs : List Value} {z : Value} {b : Nat} (hT : Agg P T) (hi : TI P T z cs.length b) (hx : jaD e x = some (.pointer (some ad))) (hc : jbF w ad cs)
  (h : RL P n ops rest Q ((d, .agg cs.toArray) :: e) w) : RL P n ops (Oper.mk (some d) (.load T x) t p af none :: rest) Q e w :=
 jaT hd (fun a ha => by
  have hl := run_loadCells_list (P := P) w ad cs hc
  simp [execOp, ha.eval hx, Instr.loadAt, Instr.sureAddr, loadVar, hT.run, hi.sizeOf, hl]) h
theorem jc4 {x : Operand} {ad : Addr} (hx : jaD e x = some (.pointer (some ad)))
  (h : RL P n ops rest Q ((d, .pointer (some ad)) :: e) w) : RL P n ops (Oper.mk (some d) (.nilCheck x) t p af none :: rest) Q e w :=
 jaT hd (fun a ha => by simp [execOp, ha.eval hx]) h
theorem jbT {T : TypeId} {x : Operand} {ad : Addr} {k off : Nat} {fs : Array Field} {f : Field} {z : Value} {sz b : Nat} (hT : P.underlying T = some (.struct fs)) (hf : fs[k]? = some f) (ho : f.offset = off) (hi : TI P f.type z (sz + 1) b)
  (hx : jaD e x = some (.pointer (some ad))) (h : RL P n ops rest Q ((d, .pointer (some (ad.add off))) :: e) w) : RL P n ops (Oper.mk (some d) (.fieldAddr T x k) t p af none :: rest) Q e w :=
 jaT hd (fun a ha => by subst ho; simp [execOp, ha.eval hx, Instr.fieldAt, run_underlying hT, hf, Instr.sureAddr, fieldPlace, hi.sizeOf]) h
theorem L_idx {T E : TypeId} {x y : Operand} {ad : Addr} {len cap : Nat} {k : IntKind} {i : Int} {z : Value} {sz b : Nat} (hT : P.underlying T = some (.slice E)) (hi : TI P E z sz b)
  (hx : jaD e x = some (.slice (some ad) len cap)) (hy : jaD e y = some (.int k i)) (hb : 0 <= i /\ i < len)
  (h : RL P n ops rest Q ((d, .pointer (some (ad.add (i.toNat * sz)))) :: e) w) : RL P n ops (Oper.mk (some d) (.indexAddr T x y) t p af none :: rest) Q e w :=
 jaT hd (fun a ha => by
  have hE : P.elem T = E := by simp [Program.elem, hT]
  have := run_indexAt_slice (P := P) w T ad len cap k i (by rw [hE]; exact hT)
  simp [execOp, ha.eval hx, ha.eval hy, this, hE, hi.sizeOf, hb]) h
theorem L_idx1 {T E : TypeId} {x y : Operand} {ao : Option Addr} {ad : Addr} {len cap j : Nat} {k : IntKind} {i : Int} {z : Value} {b : Nat} (hT : P.underlying T = some (.slice E)) (hi : TI P E z 1 b)
  (hx : jaD e x = some (.slice ao len cap)) (hy : jaD e y = some (.int k i)) (hj : i = (j : Int)) (hb : j < len) (hao : ao = some ad)
  (h : RL P n ops rest Q ((d, .pointer (some (ad.add j))) :: e) w) : RL P n ops (Oper.mk (some d) (.indexAddr T x y) t p af none :: rest) Q e w := by
 subst hao hj
 refine L_idx hd hT hi hx hy (by omega) ?_
 simpa using h
theorem L_len {T E ty : TypeId} {x : Operand} {ao : Option Addr} {len cap : Nat} (hT : P.underlying T = some (.slice E)) (hx : jaD e x = some (.slice ao len cap))
  (h : RL P n ops rest Q ((d, .int .i64 len) :: e) w) : RL P n ops (Oper.mk (some d) (.call { callee := .builtin .len, args := #[x], argTypes := #[T] }) ty p af none :: rest) Q e w :=
 jaT hd (fun a ha => by
  have hE : P.elem T = E := by simp [Program.elem, hT]
  have := run_len_slice (P := P) w T ty ao len cap (by rw [hE]; exact hT)
  simp [execOp, ha.eval hx, resolve, invoke, builtin, this, goInt]) h
theorem L_extract {x : Operand} {vs : Array Value} {i : Nat} {v : Value} (hx : jaD e x = some (.tuple vs)) (hv : vs[i]? = some v)
  (h : RL P n ops rest Q ((d, v) :: e) w) : RL P n ops (Oper.mk (some d) (.extract x i) t p af none :: rest) Q e w :=
 jaT hd (fun a ha => by simp [execOp, ha.eval hx, Instr.extract, hv]) h
theorem jqE {S D : TypeId} {x : Operand} {k : IntKind} {q : FloatKind} {i : Int} {s : TypeDesc} (hS : P.underlying S = some s) (hD : P.underlying D = some (.float q)) (hx : jaD e x = some (.int k i))
  (h : RL P n ops rest Q ((d, .float q (q.nearest i)) :: e) w) : RL P n ops (Oper.mk (some d) (.convert S D x) t p af none :: rest) Q e w :=
 jaT hd (fun a ha => by
  have := run_convert_int_float (P := P) w S D k q i (by simp [hS]) hD
  simp [execOp, ha.eval hx, this, floatOfInt]) h
theorem jeH {T : TypeId} {x : Operand} {v : Value} (hs : HS w0 w L) (hx : jaD e x = some v)
  (h : ∀ b w', w0.heap.size <= b -> b ∉ L.map (·.1) -> HS w0 w' (L ++ [(b, .cells v.cells T)]) -> RL P n ops rest Q ((d, .pointer (some ⟨b, 0, none⟩)) :: e) w') :
  RL P n ops (Oper.mk (some d) (.box T x) t p af none :: rest) Q e w :=
 jaT hd (fun a ha => by simp [execOp, ha.eval hx, Instr.box, newVar, newRow]) (h w.heap.size _ hs.size (fun hm => by
  obtain ⟨q, hq, he⟩ := List.mem_map.1 hm
  have := hs.lt' hq
  omega) (hs.alloc _))
theorem jbL {T : TypeId} {z : Value} {sz b : Nat} (hs : HS w0 w L) (hi : TI P T z sz b)
  (h : ∀ b w', w0.heap.size <= b -> b ∉ L.map (·.1) -> HS w0 w' (L ++ [(b, .cells z.cells T)]) -> RL P n ops rest Q ((d, .pointer (some ⟨b, 0, none⟩)) :: e) w') :
  RL P n ops (Oper.mk (some d) (.alloc T) t p af none :: rest) Q e w :=
 jaT hd (fun a ha => by simp [execOp, Instr.alloc, hi.zero, newVar, newRow]) (h w.heap.size _ hs.size (fun hm => by
  obtain ⟨q, hq, he⟩ := List.mem_map.1 hm
  have := hs.lt' hq
  omega) (hs.alloc _))
theorem L_make {T E : TypeId} {x y : Operand} {z : Value} {sz b l c : Nat} {kl kc : IntKind} {l' c' : Int} (hs : HS w0 w L) (hT : P.underlying T = some (.slice E)) (hi : TI P E z sz b)
  (hx : jaD e x = some (.int kl l')) (hy : jaD e y = some (.int kc c')) (hl : l' = (l : Int)) (hc : c' = (c : Int)) (hlc : l <= c) (hb : b * c <= 281474976710656) (h63 : c <= 9223372036854775807)
  (h : ∀ g w', w0.heap.size <= g -> g ∉ L.map (·.1) -> HS w0 w' (L ++ [(g, .cells (madeCells z.cells (c * sz)) E)]) -> RL P n ops rest Q ((d, .slice (some ⟨g, 0, none⟩) l c) :: e) w') :
  RL P n ops (Oper.mk (some d) (.makeSlice T x y) t p af none :: rest) Q e w := by
 subst hl hc
 obtain ⟨i, hi1, hi2, hi3, hi4⟩ := hi.ex
 have hb' : (i.bytes : Int) * (c : Int) <= 281474976710656 := by
  have h : ((i.bytes * c : Nat) : Int) <= 281474976710656 := by rw [hi4]; omega
  rwa [Int.natCast_mul] at h
 have hr := run_make (P := P) w T E i z hT hi1 hi2 kl kc l c (by omega) (by omega) hb' (by omega)
 simp only [Int.toNat_natCast, hi3] at hr
 exact jaT hd (fun a ha => by simp [execOp, ha.eval hx, ha.eval hy, hr]) (h w.heap.size _ hs.size (fun hm => by
  obtain ⟨q, hq, he⟩ := List.mem_map.1 hm
  have := hs.lt' hq
  omega) (hs.alloc _))
end
theorem jaH {T : TypeId} {x y : Operand} {ad : Addr} {b j i : Nat} {T' : TypeId} {cs : List Value} {v : Value} {z : Value} {by' : Nat} (hs : HS w0 w L) (hL : L[i]? = some (b, Row T' cs)) (hi : TI P T z 1 by')
  (hx : jaD e x = some (.pointer (some ad))) (hy : jaD e y = some v) (had : ad = ⟨b, j, none⟩) (hj : j < cs.length) (h1 : v.oneCell' = true)
  (h : ∀ w', HS w0 w' (L.set i (b, Row T' (cs.set j v))) -> RL P n ops rest Q e w') : RL P n ops (Oper.mk none (.store T x y) t p af none :: rest) Q e w := by
 subst had
 have hc : w.cell? ⟨b, j, none⟩ = some cs[j] := hs.cell hL (by simp [hj])
 have hf : w.frozen? ⟨b, j, none⟩ = false := jgT (hs.get hL) _ rfl
 have hcells : v.cells = #[v] := by cases v <;> simp [Value.oneCell'] at h1 <;> rfl
 refine RL_unit (w' := w.setCell ⟨b, j, none⟩ v) (fun a ha => ?_) (h _ (hs.store hL))
 simp [execOp, ha.eval hx, ha.eval hy, Instr.storeAt, Instr.sureAddr, storeVar, hcells, hi.sizeOf, storeCells, Addr.add_zero', run_store P w _ v .plain h1, hc, hf]
theorem jaQ {T : TypeId} {x y : Operand} {ad : Addr} {b j i : Nat} {T' : TypeId} {cs vs : List Value} {z : Value} {by' : Nat} (hs : HS w0 w L) (hL : L[i]? = some (b, Row T' cs)) (hi : TI P T z vs.length by')
  (hx : jaD e x = some (.pointer (some ad))) (hy : jaD e y = some (.agg vs.toArray)) (had : ad = ⟨b, j, none⟩) (hj : j + vs.length <= cs.length) (h1 : ∀ v ∈ vs, v.oneCell' = true)
  (h : ∀ w', HS w0 w' (L.set i (b, Row T' (cs.take j ++ vs ++ cs.drop (j + vs.length)))) -> RL P n ops rest Q e w') : RL P n ops (Oper.mk none (.store T x y) t p af none :: rest) Q e w := by
 subst had
 have hst := run_storeCells_at P b j T' vs 0 cs.toArray w (hs.get hL) (by simpa using hj) h1
 refine RL_unit (w' := w.setRow b (cs.take j ++ vs ++ cs.drop (j + vs.length)).toArray) (fun a ha => ?_) (h _ (hs.setRow hL))
 simp only [Nat.add_zero] at hst
 simp [execOp, ha.eval hx, ha.eval hy, Instr.storeAt, Instr.sureAddr, storeVar, Value.cells, hi.sizeOf, hst]

def Ret (P : Program) (f : FuncId) (l : List Value) (w : World) (R : Value -> World -> Prop) : Prop := Calls P f l.toArray w fun e w' => ∃ v, e = .returned v /\ R v w'
structure Fun (P : Program) (f : FuncId) : Prop where
 ex : ∃ fn c, P.funcs[f]? = some fn /\ fn.body = some c /\ (fn.name == "runtime.NumGoroutine") = false
theorem Fun.run {f : FuncId} (h : Fun P f) (args : Array Value) (w : World) : (callFunc f args).run P w = .ok (.enter f args) w := by
 obtain ⟨fn, c, h1, h2, h3⟩ := h.ex
 have h3' : ¬ fn.name = "runtime.NumGoroutine" := by simpa using h3
 simp [callFunc, h1, h2, h3']
def jdF (e : Env) : List Operand -> Option (List Value)
 | [] => some []
 | x :: r => match jaD e x with
  | none => none
  | some v => match jdF e r with
   | none => none
   | some l => some (v :: l)
theorem jdX {a : Act} (ha : Kn n a e) : ∀ {xs : List Operand} {l : List Value}, jdF e xs = some l -> xs.map a.eval = l
 | [], l, h => by simp [jdF] at h; subst h; rfl
 | x :: r, l, h => by
  simp only [jdF] at h
  cases hx : jaD e x with
  | none => simp [hx] at h
  | some v =>
   cases hr : jdF e r with
   | none => simp [hx, hr] at h
   | some l' =>
    simp [hx, hr] at h
    subst h
    simp [ha.eval hx, jdX ha hr]
theorem L_call {d : Nat} (hd : Nat.blt d n = true) {f : FuncId} {xs : List Operand} {l : List Value} {ats : Array TypeId} {R : Value -> World -> Prop} (hf : Fun P f) (hx : jdF e xs = some l) (hc : Ret P f l w R)
  (h : ∀ v w', R v w' -> RL P n ops rest Q ((d, v) :: e) w') :
  RL P n ops (Oper.mk (some d) (.call { callee := .value (.func f), args := xs.toArray, argTypes := ats }) t p af none :: rest) Q e w := by
 intro a ha
 refine wpList_plain rfl fun K hK => ?_
 have he : (execOp a.eval (Oper.mk (some d) (.call { callee := .value (.func f), args := xs.toArray, argTypes := ats }) t p af none)).run P w = .ok (.enter f l.toArray) w := by
  simp [execOp, resolve, Act.eval, Deferred.ofValue, invoke, hf.run]
  rw [<- jdX ha hx]
 simp only [Oper.wp, he, Oper.upon]
 refine Calls.mono hc fun ex w' hR => ?_
 obtain ⟨v, rfl, hv⟩ := hR
 exact hK _ _ (h v w' hv _ (ha.put hd v))
end

inductive Bl (w0 : World) (E : TypeId) (sz : Nat) : Value -> Nat -> List Value -> List (Nat × Obj) -> Prop
 | nil : Bl w0 E sz (.slice none 0 0) 0 [] []
 | row {g n cap : Nat} {xs sp : List Value} (hg : w0.heap.size <= g) (hx : xs.length = n * sz) (hc : (xs ++ sp).length = cap * sz) (hn : n <= cap) : Bl w0 E sz (.slice (some ⟨g, 0, none⟩) n cap) n xs [(g, Row E (xs ++ sp))]
theorem Bl.len {w0 : World} {E : TypeId} {sz : Nat} {v : Value} {n : Nat} {xs : List Value} {M : List (Nat × Obj)} (h : Bl w0 E sz v n xs M) : xs.length = n * sz := by cases h <;> simp [*]
theorem Bl.own {w0 : World} {E : TypeId} {sz : Nat} {v : Value} {n : Nat} {xs : List Value} {M : List (Nat × Obj)} (h : Bl w0 E sz v n xs M) : Own w0 M := by
 cases h with
 | nil => intro p hp; cases hp
 | row hg => intro p hp; simp at hp; subst hp; exact hg
theorem Bl.mono {w0 w : World} {E : TypeId} {sz : Nat} {v : Value} {n : Nat} {xs : List Value} {M : List (Nat × Obj)} (h : Bl w E sz v n xs M) (hle : w0.heap.size <= w.heap.size) : Bl w0 E sz v n xs M := by
 cases h with
 | nil => exact .nil
 | row hg hx hc hn => exact .row (Nat.le_trans hle hg) hx hc hn
theorem Bl.slice {w0 : World} {E : TypeId} {sz : Nat} {v : Value} {n : Nat} {xs : List Value} {M : List (Nat × Obj)} (h : Bl w0 E sz v n xs M) : ∃ ao c, v = .slice ao n c /\ n <= c := by
 cases h with
 | nil => exact ⟨_, _, rfl, Nat.le_refl _⟩
 | row _ _ _ hn => exact ⟨_, _, rfl, hn⟩
theorem Bl.own_row {w0 : World} {E : TypeId} {sz : Nat} {v : Value} {n : Nat} {xs : List Value} {M : List (Nat × Obj)} (h : Bl w0 E sz v n xs M) (hn : 0 < n) :
  ∃ g cap sp, v = .slice (some ⟨g, 0, none⟩) n cap /\ M = [(g, Row E (xs ++ sp))] /\ w0.heap.size <= g /\ (xs ++ sp).length = cap * sz /\ n <= cap := by
 cases h with
 | nil => omega
 | @row g n cap xs sp hg hx hc hn => exact ⟨g, cap, sp, rfl, rfl, hg, hc, hn⟩
theorem HS.mem_perm {w0 w : World} {L L' : List (Nat × Obj)} (h : HS w0 w L) (hp : List.Perm L L') : HS w0 w L' :=
 h.sub (fun _ hp' => hp.mem_iff.2 hp') ((hp.map _).nodup_iff.1 h.nodup) (fun _ hp' => .inl (hp.mem_iff.1 hp'))
theorem jhP (w : World) (xs : List Value) (ys : Array Value) (E : TypeId) : w.alloc (.cells (xs.toArray ++ ys) E) = w.alloc (Row E (xs ++ ys.toList)) := by
 congr 2
 apply Array.ext'
 simp
theorem jkD {P : Program} {w0 w : World} {L : List (Nat × Obj)} {T E ty : TypeId} {z : Value} {sz b : Nat} {v : Value} {n : Nat} {xs : List Value} {M : List (Nat × Obj)}
  (hT : P.underlying T = some (.slice E)) (hi : TI P E z sz b) (hz : z.cells.size = sz) (hs : HS w0 w (L ++ M)) (hb : Bl w0 E sz v n xs M)
  {ad : Addr} {m c : Nat} {news : List Value} (hl : news.length = m * sz) (hnews : jbF w ad news) (h1 : ∀ u ∈ news, u.oneCell' = true)
  (h63 : n + m <= 9223372036854775807) (hbytes : (n + m) * b <= 140737488355328) :
  ∃ v' w' M', (Builtin.append_ #[T, T] ty #[v, .slice (some ad) m c]).run P w = .ok v' w' /\ HS w0 w' (L ++ M') /\ Bl w0 E sz v' (n + m) (xs ++ news) M' := by
 obtain ⟨i, hi1, hi2, hi3, hi4⟩ := hi.ex
 subst hi3 hi4
 cases hb with
 | nil =>
  by_cases hm : m = 0
  ·
   subst hm
   have hn : news = [] := List.eq_nil_of_length_eq_zero (by simpa using hl)
   subst hn
   refine ⟨.slice none 0 0, w, [], ?_, hs, .nil⟩
   simp [Builtin.append_, run_underlying hT, sizeOf, typeInfo, hi1, Builtin.lenOf, Builtin.firstCells, loadCells, loadCellsFrom]
  have hr := run_append_nil (P := P) w T ty E i z hT hi1 hi2 ad m c news hl hnews (by omega) (by omega) (by simp only [Nat.zero_add] at hbytes; omega)
  rw [jhP] at hr
  have hge := grownCap_ge w m 0 E
  refine ⟨_, _, [(w.heap.size, Row E (news ++ (Builtin.zeroCells z.cells (grownCap w m 0 E - m)).toList))], hr, ?_, ?_⟩
  ·
   have := (hs.drewN 1).alloc (Row E (news ++ (Builtin.zeroCells z.cells (grownCap w m 0 E - m)).toList))
   rw [List.append_nil] at this
   exact this
  simp only [Nat.zero_add, List.nil_append]
  refine .row (by have := hs.size; exact this) hl ?_ hge
  simp only [List.length_append, Array.length_toList, size_zeroCells, hz, hl, <- Nat.add_mul]
  congr 1; omega
 | @row g n cap xs sp hg hx hc hn =>
  have hL : (L ++ [(g, Row E (xs ++ sp))])[L.length]? = some (g, Row E (xs ++ sp)) := by simp
  by_cases hroom : n + m <= cap
  ·
   have hfit : n * i.size + news.length <= (xs ++ sp).toArray.size := by rw [hl, List.size_toArray, hc, <- Nat.add_mul]; exact Nat.mul_le_mul_right _ hroom
   have hr := run_append_room (P := P) w T ty E i hT hi1 g n cap (xs ++ sp).toArray (hs.get hL) ad m c news hl hnews h1 hroom hfit
   have e1 : (xs ++ sp).take (n * i.size) = xs := by rw [<- hx]; simp
   have hset := hs.setRow (cs' := xs ++ news ++ (xs ++ sp).drop (n * i.size + news.length)) hL
   simp only [e1] at hr
   refine ⟨_, _, [(g, Row E (xs ++ news ++ (xs ++ sp).drop (n * i.size + news.length)))], hr, ?_, ?_⟩
   ·
    simpa using hset
   refine .row hg (by rw [List.length_append, hx, hl, Nat.add_mul]) ?_ hroom
   rw [List.length_append, List.length_append, List.length_drop, hc, hx]
   rw [List.size_toArray, hc] at hfit
   omega
  have holds : jbF w ⟨g, 0, none⟩ xs := fun j u hu => by
   have hj : j < xs.length := (List.getElem?_eq_some_iff.1 hu).1
   refine hs.cellA hL (by simp [List.getElem?_append, hj]; simpa [hj] using hu)
  have hr := run_append_grow (P := P) w T ty E i z hT hi1 hi2 ⟨g, 0, none⟩ n cap xs hx holds ad m c news hl hnews (by omega) (by omega) (growslice_fits (by omega) hbytes)
  have hge := grownCap_ge w (n + m) cap E
  have e2 : xs.toArray ++ news.toArray = (xs ++ news).toArray := by simp
  rw [e2, jhP] at hr
  refine ⟨_, _, [(w.heap.size, Row E (xs ++ news ++ (Builtin.zeroCells z.cells (grownCap w (n + m) cap E - (n + m))).toList))], hr, ?_, ?_⟩
  ·
   have h2 := (hs.drewN 1).alloc (Row E (xs ++ news ++ (Builtin.zeroCells z.cells (grownCap w (n + m) cap E - (n + m))).toList))
   refine h2.sub (fun p hp => ?_) ?_ (fun p hp => ?_)
   ·
    rcases List.mem_append.1 hp with h3 | h3
    ·
     simp [h3]
    simp at h3; subst h3; simp
   ·
    have := h2.nodup
    rw [List.map_append, List.map_append, List.append_assoc] at this
    rw [List.map_append]
    exact this.sublist (by simp)
   simp only [List.mem_append, List.mem_singleton] at hp ⊢
   rcases hp with (h3 | h3) | h3
   ·
    exact .inl (.inl h3)
   ·
    right; subst h3; exact hg
   exact .inl (.inr h3)
  refine .row (by have := hs.size; exact this) (by rw [List.length_append, hx, hl, Nat.add_mul]) ?_ hge
  have e3 : (xs ++ news).length = (n + m) * i.size := by rw [List.length_append, hx, hl, Nat.add_mul]
  have e4 : (Builtin.zeroCells z.cells (grownCap w (n + m) cap E - (n + m))).toList.length = (grownCap w (n + m) cap E - (n + m)) * i.size := by rw [Array.length_toList, size_zeroCells, hz]
  rw [List.length_append, e3, e4, <- Nat.add_mul]
  congr 1; omega
theorem Own.nil {w0 : World} : Own w0 [] := fun _ h => by cases h
theorem Own.cons {w0 : World} {b : Nat} {o : Obj} {L : List (Nat × Obj)} (hb : w0.heap.size <= b) (h : Own w0 L) : Own w0 ((b, o) :: L) := fun p hp => by
 rcases List.mem_cons.1 hp with rfl | hp
 ·
  exact hb
 exact h p hp
theorem Own.app {w0 : World} {L M : List (Nat × Obj)} (h : Own w0 L) (h' : Own w0 M) : Own w0 (L ++ M) := fun p hp => (List.mem_append.1 hp).elim (h p) (h' p)
theorem HS.dropL {w0 w : World} {L M : List (Nat × Obj)} (h : HS w0 w (L ++ M)) (ho : Own w0 L) : HS w0 w M :=
 h.sub (fun _ hp => List.mem_append_right _ hp) (by have := h.nodup; rw [List.map_append, List.nodup_append] at this; exact this.2.1) (fun p hp => (List.mem_append.1 hp).elim (fun h1 => .inr (ho p h1)) .inl)
theorem HS.dropR {w0 w : World} {L M : List (Nat × Obj)} (h : HS w0 w (L ++ M)) (ho : Own w0 M) : HS w0 w L :=
 h.sub (fun _ hp => List.mem_append_left _ hp) (by have := h.nodup; rw [List.map_append, List.nodup_append] at this; exact this.1) (fun p hp => (List.mem_append.1 hp).elim .inl (fun h1 => .inr (ho p h1)))
theorem Own.le {w0 w : World} {L : List (Nat × Obj)} (h : Own w L) (hle : w0.heap.size <= w.heap.size) : Own w0 L := fun p hp => Nat.le_trans hle (h p hp)
theorem Own.head {w0 : World} {b : Nat} {o : Obj} {L : List (Nat × Obj)} (h : Own w0 ((b, o) :: L)) : w0.heap.size <= b := h (b, o) (by simp)
theorem HS.swap {w0 w : World} {L M N : List (Nat × Obj)} (h : HS w0 w ((L ++ M) ++ N)) : HS w0 w ((L ++ N) ++ M) :=
 h.mem_perm (by rw [List.append_assoc, List.append_assoc]; exact List.Perm.append_left L List.perm_append_comm)
section
variable {P : Program} {n : Nat} {Q : jeG} {e : Env} {w w0 : World} {L : List (Nat × Obj)} {ops : Array Oper} {rest : List Oper} {t : TypeId} {p : String} {af : Array Edge}
theorem jn7 {d : Nat} (hd : Nat.blt d n = true) {T E : TypeId} {x y : Operand} {z : Value} {sz b : Nat} {v : Value} {k : Nat} {xs : List Value} {M : List (Nat × Obj)}
  (hT : P.underlying T = some (.slice E)) (hi : TI P E z sz b) (hz : z.cells.size = sz) (hs : HS w0 w (L ++ M)) (hb : Bl w0 E sz v k xs M) (hx : jaD e x = some v)
  {ad : Addr} {m c : Nat} {news : List Value} (hy : jaD e y = some (.slice (some ad) m c)) (hl : news.length = m * sz) (hnews : jbF w ad news) (h1 : ∀ u ∈ news, u.oneCell' = true)
  (h63 : k + m <= 9223372036854775807) (hbytes : (k + m) * b <= 140737488355328)
  (h : ∀ v' w' M', HS w0 w' (L ++ M') -> Bl w0 E sz v' (k + m) (xs ++ news) M' -> RL P n ops rest Q ((d, v') :: e) w') :
  RL P n ops (Oper.mk (some d) (.call { callee := .builtin .append, args := #[x, y], argTypes := #[T, T] }) t p af none :: rest) Q e w := by
 obtain ⟨v', w', M', hr, h2, h3⟩ := jkD (P := P) (ty := t) hT hi hz hs hb hl hnews h1 h63 hbytes (c := c)
 exact jaT hd (fun a ha => by simp [execOp, ha.eval hx, ha.eval hy, resolve, invoke, builtin, hr]) (h v' w' M' h2 h3)
theorem jb8 {d : Nat} (hd : Nat.blt d n = true) {T E : TypeId} {x y : Operand} {z : Value} {sz b : Nat} {v : Value} {k : Nat} {xs : List Value} {M : List (Nat × Obj)} {bt m c : Nat} {news : List Value}
  (hT : P.underlying T = some (.slice E)) (hi : TI P E z sz b) (hz : z.cells.size = sz) (hs : HS w0 w ((L ++ M) ++ [(bt, Row E news)])) (hbt : w0.heap.size <= bt) (hb : Bl w0 E sz v k xs M) (hx : jaD e x = some v)
  (hy : jaD e y = some (.slice (some ⟨bt, 0, none⟩) m c)) (hl : news.length = m * sz) (h1 : ∀ u ∈ news, u.oneCell' = true)
  (h63 : k + m <= 9223372036854775807) (hbytes : (k + m) * b <= 140737488355328)
  (h : ∀ v' w' M', HS w0 w' (L ++ M') -> Bl w0 E sz v' (k + m) (xs ++ news) M' -> RL P n ops rest Q ((d, v') :: e) w') :
  RL P n ops (Oper.mk (some d) (.call { callee := .builtin .append, args := #[x, y], argTypes := #[T, T] }) t p af none :: rest) Q e w :=
 jn7 hd hT hi hz hs.swap hb hx hy hl (fun j u hu => hs.cellA (i := (L ++ M).length) (T := E) (cs := news) (by simp) hu) h1 h63 hbytes
  (fun v' w' M' h2 h3 => h v' w' M' (h2.swap.dropR (Own.cons hbt Own.nil)) h3)
end
theorem ja3 {x : Int} (h : -9223372036854775808 <= x /\ x <= 9223372036854775807) : IntKind.i64.wrap x = x := by rw [IntKind.wrap_i64]; omega
theorem wrp_u16 {x : Int} (h : 0 <= x /\ x <= 65535) : IntKind.u16.wrap x = x := by simp [IntKind.wrap, IntKind.bits, IntKind.signed]; omega
theorem wrp_u8 {x : Int} (h : 0 <= x /\ x <= 255) : IntKind.u8.wrap x = x := by simp [IntKind.wrap, IntKind.bits, IntKind.signed]; omega
theorem jeT (k : IntKind) (n : Int) : (Value.int k n).cells.toList = [.int k n] := rfl
theorem jdL (k : FloatKind) (n : Nat) : (Value.float k n).cells.toList = [.float k n] := rfl
theorem jcS (k : FloatKind) (a b : Nat) : (Value.complex k a b).cells.toList = [.complex k a b] := rfl
theorem je1 (b : Bool) : (Value.bool b).cells.toList = [.bool b] := rfl
theorem jd2 (s : ByteArray) : (Value.string s).cells.toList = [.string s] := rfl
theorem jcR (a : Option Addr) : (Value.pointer a).cells.toList = [.pointer a] := rfl
theorem jdK (a : Option Addr) (n c : Nat) : (Value.slice a n c).cells.toList = [.slice a n c] := rfl
theorem jeS (a : Option Nat) : (Value.map a).cells.toList = [.map a] := rfl
theorem jeU (cs : Array Value) : (Value.agg cs).cells.toList = cs.toList := rfl
theorem jaF {p : Prop} [Decidable p] (h : p) : decide p = true := decide_eq_true h
theorem jaA {p : Prop} [Decidable p] (h : ¬ p) : decide p = false := decide_eq_false h
theorem ja6 (k : Nat) : (k : Int) = (k : Int) := rfl
theorem jfV : (0 : Int) = ((0 : Nat) : Int) := rfl
theorem natc_1 : (1 : Int) = ((1 : Nat) : Int) := rfl
theorem natc_mul (k c : Nat) : (k : Int) * (c : Int) = ((k * c : Nat) : Int) := by simp
theorem natc {i : Int} (h : 0 <= i) : i = (i.toNat : Int) := by omega
section
variable {P : Program} {n : Nat} {Q : jeG} {e : Env} {w w0 : World} {L : List (Nat × Obj)} {ops : Array Oper} {rest : List Oper} {t : TypeId} {p : String} {af : Array Edge}
theorem W_label' {l : Nat} (h : Nx n Q e w) : W P n (.label l) Q e w := W_label h
section
variable {d : Nat} (hd : Nat.blt d n = true)
include hd
theorem jcV {T E T' : TypeId} {x y : Operand} {ao : Option Addr} (hT : P.underlying T = some (.pointer E)) (hx : jaD e x = some (.pointer ao)) (hy : jaD e y = some (.pointer none))
  (h : RL P n ops rest Q ((d, .bool ao.isNone) :: e) w) : RL P n ops (Oper.mk (some d) (.binOp .eql T x y T') t p af none :: rest) Q e w :=
 jkU hd hx hy (fun _ _ => eqGuard_at_pointer ..) (run_eql_pointer_nil w T ao (by simp [Program.pointee, hT])) h
theorem L_idxN {T E : TypeId} {x y : Operand} {ao : Option Addr} {ad : Addr} {len cap j : Nat} {k : IntKind} {i : Int} {z : Value} {sz b : Nat} (hT : P.underlying T = some (.slice E)) (hi : TI P E z sz b)
  (hx : jaD e x = some (.slice ao len cap)) (hy : jaD e y = some (.int k i)) (hj : i = (j : Int)) (hb : j < len) (hao : ao = some ad)
  (h : RL P n ops rest Q ((d, .pointer (some (ad.add (j * sz)))) :: e) w) : RL P n ops (Oper.mk (some d) (.indexAddr T x y) t p af none :: rest) Q e w := by
 subst hao hj
 refine L_idx hd hT hi hx hy (by omega) ?_
 simpa using h
theorem jeV {T ty : TypeId} {x : Operand} {k : FloatKind} {a b : Nat} (hx : jaD e x = some (.complex k a b))
  (h : RL P n ops rest Q ((d, .float k a) :: e) w) : RL P n ops (Oper.mk (some d) (.call { callee := .builtin .real, args := #[x], argTypes := #[T] }) ty p af none :: rest) Q e w :=
 jaT hd (fun ac ha => by simp [execOp, ha.eval hx, resolve, invoke, builtin, run_real]) h
theorem jeW {T ty : TypeId} {x : Operand} {k : FloatKind} {a b : Nat} (hx : jaD e x = some (.complex k a b))
  (h : RL P n ops rest Q ((d, .float k b) :: e) w) : RL P n ops (Oper.mk (some d) (.call { callee := .builtin .imag, args := #[x], argTypes := #[T] }) ty p af none :: rest) Q e w :=
 jaT hd (fun ac ha => by simp [execOp, ha.eval hx, resolve, invoke, builtin, run_imag]) h
theorem jbU {T T' ty : TypeId} {x y : Operand} {k : FloatKind} {a b : Nat} (hx : jaD e x = some (.float k a)) (hy : jaD e y = some (.float k b))
  (h : RL P n ops rest Q ((d, .complex k a b) :: e) w) : RL P n ops (Oper.mk (some d) (.call { callee := .builtin .complex, args := #[x, y], argTypes := #[T, T'] }) ty p af none :: rest) Q e w :=
 jaT hd (fun ac ha => by simp [execOp, ha.eval hx, ha.eval hy, resolve, invoke, builtin, run_complex]) h
def jf6 (e : Env) : List (Nat × Operand) -> Option (List (Nat × Value))
 | [] => some []
 | (i, x) :: r => match jaD e x with
  | none => none
  | some v => match jf6 e r with
   | none => none
   | some l => some ((i, v) :: l)
omit hd in
theorem jfL {a : Act} (ha : Kn n a e) : ∀ {xs : List (Nat × Operand)} {l : List (Nat × Value)}, jf6 e xs = some l -> xs.map (fun p => (p.1, a.eval p.2)) = l
 | [], l, h => by simp [jf6] at h; subst h; rfl
 | (i, x) :: r, l, h => by
  simp only [jf6] at h
  cases hx : jaD e x with
  | none => simp [hx] at h
  | some v =>
   cases hr : jf6 e r with
   | none => simp [hx, hr] at h
   | some l' =>
    simp [hx, hr] at h
    subst h
    simp [ha.eval hx, jfL ha hr]
theorem jbE {T : TypeId} {xs : List (Nat × Operand)} {l : List (Nat × Value)} {cells : Array Value} (hx : jf6 e xs = some l) (hb : P.built T l = some cells)
  (h : RL P n ops rest Q ((d, .agg cells) :: e) w) : RL P n ops (Oper.mk (some d) (.build T xs.toArray) t p af none :: rest) Q e w :=
 jaT hd (fun a ha => by
  have := run_build (P := P) w T l.toArray cells (by simpa using hb)
  rw [<- jfL ha hx] at this
  simp [execOp] at this ⊢
  simp [this]) h
omit hd in
theorem jq8 (off : Nat) : ∀ (vs pre mid post : List Value) (k : Nat), mid.length = vs.length -> pre.length = off + k ->
  (vs.zipIdx k).foldl (fun (cs : Array Value) (q : Value × Nat) => cs.setIfInBounds (off + q.2) q.1) (pre ++ mid ++ post).toArray = (pre ++ vs ++ post).toArray
 | [], pre, mid, post, k, hm, _ => by
  have : mid = [] := List.eq_nil_of_length_eq_zero (by simpa using hm)
  subst this; simp
 | v :: vs, pre, [], post, k, hm, _ => by simp at hm
 | v :: vs, pre, u :: mid, post, k, hm, hp => by
  simp only [List.zipIdx_cons, List.foldl_cons]
  have h1 : (pre ++ u :: mid ++ post).toArray.setIfInBounds (off + k) v = (pre ++ [v] ++ mid ++ post).toArray := by
   apply Array.ext'
   simp [<- hp]
  rw [h1, jq8 off vs (pre ++ [v]) mid post (k + 1) (by simpa using hm) (by simp [hp]; omega)]
  simp
omit hd in
theorem jr9 (sz : Nat) : ∀ (l : List (Nat × Value)) (k : Nat) (pre rest : List Value), l.map (·.1) = List.range' k l.length -> (∀ q ∈ l, q.2.cells.size = sz) -> pre.length = k * sz -> rest.length = l.length * sz ->
  Instr.fill (fun i => some (i * sz, sz)) (pre ++ rest).toArray l = some (pre ++ l.flatMap (fun q => q.2.cells.toList)).toArray
 | [], k, pre, rest, _, _, _, hr => by
  have : rest = [] := List.eq_nil_of_length_eq_zero (by simpa using hr)
  subst this; simp [Instr.fill]
 | (i, v) :: l, k, pre, rest, hi, hc, hp, hr => by
  simp only [List.map_cons, List.length_cons, List.range'_succ, List.cons.injEq] at hi
  obtain ⟨rfl, hi⟩ := hi
  have hv : v.cells.size = sz := hc (i, v) (by simp)
  have hr' : sz <= rest.length := by rw [hr]; simp only [List.length_cons, Nat.succ_mul]; omega
  simp only [Instr.fill]
  have hcond : ¬ ((decide (v.cells.size ≠ sz) || decide (i * sz + v.cells.size > (pre ++ rest).toArray.size)) = true) := by
   simp [hv, hp]; exact hr'
  simp only [hcond]
  have e0 : v.cells.zipIdx.foldl (fun cs x => cs.setIfInBounds (i * sz + x.2) x.1) (pre ++ rest).toArray = (pre ++ v.cells.toList ++ rest.drop sz).toArray := by
   have h2 := jq8 (i * sz) v.cells.toList pre (rest.take sz) (rest.drop sz) 0 (by simp [hv]; exact Nat.min_eq_left hr') (by simpa using hp)
   rw [show pre ++ rest.take sz ++ rest.drop sz = pre ++ rest by simp] at h2
   rw [<- h2, <- Array.foldl_toList]
   simp
  have h3 := jr9 sz l (i + 1) (pre ++ v.cells.toList) (rest.drop sz) hi (fun q hq => hc q (by simp [hq])) (by simp [hp, hv, Nat.succ_mul]) (by simp [hr, Nat.succ_mul])
  rw [show (fun (cs : Array Value) (x : Value × Nat) => match x with | (c, j) => cs.setIfInBounds (i * sz + j) c) = (fun cs x => cs.setIfInBounds (i * sz + x.2) x.1) from rfl, e0, h3]
  simp
theorem jb4 {T E : TypeId} {len : Nat} {xs : List (Nat × Operand)} {l : List (Nat × Value)} {z : Value} {sz b : Nat} (hs : HS w0 w L) (hT : P.underlying T = some (.slice E)) (hi : TI P E z sz b)
  (hx : jf6 e xs = some l) (hsz : ¬ (len * sz > 16777216)) (hidx : l.map (·.1) = List.range' 0 len) (hc : ∀ q ∈ l, q.2.cells.size = sz)
  (h : ∀ g w', w0.heap.size <= g -> g ∉ L.map (·.1) -> HS w0 w' (L ++ [(g, Row E (l.flatMap fun q => q.2.cells.toList))]) -> RL P n ops rest Q ((d, .slice (some ⟨g, 0, none⟩) len len) :: e) w') :
  RL P n ops (Oper.mk (some d) (.buildSlice T len xs.toArray) t p af none :: rest) Q e w := by
 refine jaT hd (v := .slice (some ⟨w.heap.size, 0, none⟩) len len) (w' := w.alloc (Row E (l.flatMap fun q => q.2.cells.toList))) (fun a ha => ?_) (h w.heap.size _ hs.size (fun hm => by
  obtain ⟨q, hq, he⟩ := List.mem_map.1 hm
  have := hs.lt' hq
  omega) (hs.alloc _))
 have hl := jfL ha hx
 have hlen : l.length = len := by have := congrArg List.length hidx; simpa using this
 have hf : ∀ (A : Array Value), A.size = len * sz -> Instr.fill (fun i => some (i * sz, sz)) A l = some (l.flatMap fun q => q.2.cells.toList).toArray := fun A hA => by
  have := jr9 sz l 0 [] A.toList (by rw [hlen]; exact hidx) hc (by simp) (by rw [hlen]; simpa using hA)
  simpa using this
 by_cases h0 : len * sz = 0
 ·
  have hf' := hf (Array.map (fun _ => (default : Value)) (Array.range 0)) (by simp [h0])
  simp [execOp, Instr.buildSlice, run_underlying hT, hi.sizeOf, h0, newRow]
  simp [hl, hf']
 have hf' := hf (Array.map (fun x => z.cells[x % z.cells.size]!) (Array.range (len * sz))) (by simp)
 simp [execOp, Instr.buildSlice, run_underlying hT, hi.sizeOf, h0, newRow, hsz, hi.zero]
 simp [hl, hf']
end
end

section
variable {P : Program} {ops : Array Oper} {md : Region.Mode} {C : World -> Prop} {S : FuncId -> Array Value -> Value -> Prop}
def Fine (P : Program) (C : World -> Prop) (S : FuncId -> Array Value -> Value -> Prop) : Result Next -> Prop
 | .ok (.value _) w' => C w'
 | .ok .skip w' => C w'
 | .ok (.enter f args) w' => Calls P f args w' (fun e w'' => ∃ v, e = .returned v /\ S f args v /\ C w'')
 | _ => False
def May (S : FuncId -> Array Value -> Value -> Prop) : Result Next -> Value -> Prop
 | .ok (.value u) _, v => u = v
 | .ok .skip _, v => v = undef
 | .ok (.enter f args) _, v => S f args v
 | _, _ => False
def jhX (P : Program) (ops : Array Oper) (C : World -> Prop) (S : FuncId -> Array Value -> Value -> Prop) (o : Oper) (a : Act) : Prop :=
 Region.wanted o (yielded ops a.tmps) = true -> ∀ w, C w -> Fine P C S ((execOp a.eval o).run P w)
def jpH (P : Program) (ops : Array Oper) (C : World -> Prop) (S : FuncId -> Array Value -> Value -> Prop) (o : Oper) (a : Act) (v : Value) : Prop :=
 (Region.wanted o (yielded ops a.tmps) = true /\ ∃ w, C w /\ May S ((execOp a.eval o).run P w) v) ∨ (Region.wanted o (yielded ops a.tmps) = false /\ v = undef)
def hOp (P : Program) (ops : Array Oper) (C : World -> Prop) (S : FuncId -> Array Value -> Value -> Prop) (i : Nat) (K : Act -> Prop) (a : Act) : Prop :=
 ∀ o, ops[i]? = some o -> jhX P ops C S o a /\ ∀ v, jpH P ops C S o a v -> K (a.put o.dst v)
theorem jp7 {o : Oper} {a a' : Act} (he : execOp a'.eval o = execOp a.eval o) (hw : Region.wanted o (yielded ops a'.tmps) = Region.wanted o (yielded ops a.tmps)) :
  jhX P ops C S o a' = jhX P ops C S o a /\ jpH P ops C S o a' = jpH P ops C S o a := by
 unfold jhX jpH
 rw [he, hw]
 exact ⟨rfl, rfl⟩
theorem may_some {o : Oper} {a : Act} {w : World} (hw : C w) (h : jhX P ops C S o a) : ∃ v, jpH P ops C S o a v := by
 by_cases hy : Region.wanted o (yielded ops a.tmps) = true
 ·
  have hf := h hy w hw
  cases hr : (execOp a.eval o).run P w with
  | halt x w' => rw [hr] at hf; cases hf
  | ok nx w' =>
   rw [hr] at hf
   cases nx with
   | value u => exact ⟨u, .inl ⟨hy, w, hw, by rw [hr]; exact rfl⟩⟩
   | skip => exact ⟨undef, .inl ⟨hy, w, hw, by rw [hr]; exact rfl⟩⟩
   | enter f args =>
    obtain ⟨e, w'', fr, ⟨v, _, hS, _⟩, _⟩ := hf []
    exact ⟨v, .inl ⟨hy, w, hw, by rw [hr]; exact hS⟩⟩
   | _ => cases hf
 exact ⟨undef, .inr ⟨by simpa using hy, rfl⟩⟩
theorem wpOp_of_hOp {i : Nat} {a : Act} {w : World} {K : Act -> Prop} {K' : Act -> World -> Prop} {Q : Exit -> Act -> World -> Prop} (hi : ops[i]? ≠ none) (hw : C w) (hk : ∀ a' w', C w' -> K a' -> K' a' w') (h : hOp P ops C S i K a) : wpOp P ops Q i K' a w := by
 unfold wpOp
 cases ho : ops[i]? with
 | none => exact absurd ho hi
 | some o =>
  obtain ⟨h1, h2⟩ := h o ho
  simp only
  by_cases hy : Region.wanted o (yielded ops a.tmps) = true
  ·
   rw [if_pos hy]
   left
   have hf := h1 hy w hw
   have hv : ∀ v, May S ((execOp a.eval o).run P w) v -> K (a.put o.dst v) := fun v hv => h2 v (.inl ⟨hy, w, hw, hv⟩)
   unfold Oper.wp
   cases hr : (execOp a.eval o).run P w with
   | halt x w' => rw [hr] at hf; cases hf
   | ok nx w' =>
    rw [hr] at hf hv
    cases nx with
    | value u => exact hk _ _ hf (hv u rfl)
    | skip => exact hk _ _ hf (hv undef rfl)
    | enter f args =>
     refine Calls.mono hf fun e w'' he => ?_
     obtain ⟨v, rfl, hS, hC⟩ := he
     exact hk _ _ hC (hv v hS)
    | _ => cases hf
  rw [if_neg hy]
  exact hk _ _ hw (h2 undef (.inr ⟨by simpa using hy, rfl⟩))
def AnyH (P : Program) (md : Region.Mode) (ops : Array Oper) (C : World -> Prop) (S : FuncId -> Array Value -> Value -> Prop) (L : Array Bool -> Act -> Prop) : Nat -> Array Bool -> Act -> Prop
 | 0, listed, a => L listed a
 | f + 1, listed, a => Region.ready md ops listed ≠ [] /\ ∀ i ∈ Region.ready md ops listed, hOp P ops C S i (AnyH P md ops C S L f (listed.setIfInBounds i true)) a
theorem jq0 {i : Nat} {listed : Array Bool} (h : i ∈ Region.ready md ops listed) : ops[i]? ≠ none := by
 obtain ⟨_, o, ho, _⟩ := mem_ready.1 h
 rw [ho]; simp
theorem jqH {L : Array Bool -> Act -> Prop} {Q : Exit -> Act -> World -> Prop} {g : Nat} (hL : ∀ listed a w, C w -> L listed a -> wpAny P md ops Q g listed a w) :
  ∀ (f : Nat) (listed : Array Bool) (a : Act) (w : World), C w -> AnyH P md ops C S L f listed a -> wpAny P md ops Q (f + g) listed a w := by
 intro f
 induction f with
 | zero => intro listed a w hw h; rw [Nat.zero_add]; exact hL _ _ _ hw h
 | succ f ih =>
  intro listed a w hw h
  rw [show f + 1 + g = (f + g) + 1 by omega]
  exact ⟨fun h0 => absurd h0 h.1, fun i hi => wpOp_of_hOp (jq0 hi) hw (fun a' w' hC hK => ih _ a' w' hC hK) (h.2 i hi)⟩
theorem AnyH_first {L : Array Bool -> Act -> Prop} {i : Nat} {oi : Oper} {w : World} {Inv : Array Bool -> Prop} {Hd : Nat -> Prop} (hw : C w) (hi : ops[i]? = some oi) (hin : Hd i) (hsel : ∀ (j : Nat) (o : Oper) cs b, ops[j]? = some o -> o.op ≠ .select cs b)
  (hhead : ∀ listed, Inv listed -> ∀ k ∈ Region.ready md ops listed, Hd k -> ∀ j ∈ Region.ready md ops listed, Hd j) (hset : ∀ listed k, Inv listed -> k ∈ Region.ready md ops listed -> Hd k -> Inv (listed.setIfInBounds k true))
  (hdone : ∀ listed a, L listed a -> ∀ j ∈ Region.ready md ops listed, ¬ Hd j) :
  ∀ (f : Nat) (listed : Array Bool) (a : Act), Inv listed -> i ∈ Region.ready md ops listed ->
   (∀ j oj, ops[j]? = some oj -> j ≠ i -> listed.getD j true = false -> (∀ e ∈ oj.after, Region.binds md e = true -> e.on ≠ i) -> oi.apart ops oj = true) ->
   hOp P ops C S i (AnyH P md ops C S L f (listed.setIfInBounds i true)) a -> AnyH P md ops C S L (f + 1) listed a := by
 intro f
 induction f with
 | zero =>
  intro listed a inv hr _ H
  refine ⟨fun h => (by rw [h] at hr; cases hr), fun j hj => ?_⟩
  by_cases hji : j = i
  ·
   subst hji; exact H
  obtain ⟨h1, h2⟩ := H oi hi
  obtain ⟨v, hv⟩ := may_some hw h1
  have h3 := hdone _ _ (h2 v hv) j (ready_mono hj hji)
  exact absurd (hhead _ inv i hr hin j hj) h3
 | succ f ih =>
  intro listed a inv hr hfree H
  refine ⟨fun h => (by rw [h] at hr; cases hr), fun j hj => ?_⟩
  by_cases hji : j = i
  ·
   subst hji; exact H
  obtain ⟨h1, h2⟩ := H oi hi
  have hjn := hhead _ inv i hr hin j hj
  intro oj hoj
  obtain ⟨hjun, oj', hoj', hall⟩ := mem_ready.1 hj
  have : oj' = oj := Option.some.inj (hoj'.symm.trans hoj)
  subst this
  have hun := (mem_ready.1 hr).1
  have hunf : listed.getD i false = false := getD_both hun
  have hnot : ∀ e ∈ oj'.after, Region.binds md e = true -> e.on ≠ i := fun e he hb heq => by
   have h5 := hall e he hb
   rw [heq, hunf] at h5
   cases h5
  have hap := hfree j oj' hoj hji hjun hnot
  obtain ⟨ap1, ap2, ap3⟩ := Oper.apart_spec hap
  -- each is to the other as it was
  have sj : ∀ v, jhX P ops C S oj' (a.put oi.dst v) = jhX P ops C S oj' a /\ jpH P ops C S oj' (a.put oi.dst v) = jpH P ops C S oj' a := fun v =>
   jp7 (execOp_put oj' (fun cs b => hsel j oj' cs b hoj) a oi.dst v ap1) (wanted_put oj' a oi.dst v ap1)
  have si : ∀ u, jhX P ops C S oi (a.put oj'.dst u) = jhX P ops C S oi a /\ jpH P ops C S oi (a.put oj'.dst u) = jpH P ops C S oi a := fun u =>
   jp7 (execOp_put oi (fun cs b => hsel i oi cs b hi) a oj'.dst u ap3) (wanted_put oi a oj'.dst u ap3)
  have step : ∀ v, jpH P ops C S oi a v -> hOp P ops C S j (AnyH P md ops C S L f ((listed.setIfInBounds i true).setIfInBounds j true)) (a.put oi.dst v) := fun v hv => (h2 v hv).2 j (ready_mono hj hji)
  obtain ⟨v0, hv0⟩ := may_some hw h1
  refine ⟨by have := (step v0 hv0 oj' hoj).1; rwa [(sj v0).1] at this, fun u hu => ?_⟩
  refine ih _ _ (hset _ _ inv hj hjn) (ready_mono hr (Ne.symm hji)) ?_ ?_
  ·
   intro k ok hk hki hkun hno
   refine hfree k ok hk hki ?_ hno
   by_cases hjk : j = k
   ·
    subst hjk; exact hjun
   rw [getD_set_ne true hjk] at hkun; exact hkun
  intro oi' hoi'
  have : oi' = oi := Option.some.inj (hoi'.symm.trans hi)
  subst this
  rw [(si u).1, (si u).2]
  refine ⟨h1, fun v hv => ?_⟩
  have h6 := (step v hv oj' hoj).2 u (by rw [(sj v).2]; exact hu)
  rw [Array.setIfInBounds_comm _ _ hji, Act.put_comm a v u ap2] at *
  exact h6
def wpH (P : Program) (ops : Array Oper) (C : World -> Prop) (S : FuncId -> Array Value -> Value -> Prop) (K : Act -> Prop) : List Oper -> Act -> Prop
 | [], a => K a
 | o :: rest, a => jhX P ops C S o a /\ ∀ v, jpH P ops C S o a v -> wpH P ops C S K rest (a.put o.dst v)
def wpP (P : Program) (ops : Array Oper) (K : Act -> Prop) : List Oper -> Act -> Prop
 | [], a => K a
 | o :: rest, a => ∃ v, Yields P ops o v a /\ wpP P ops K rest (a.put o.dst v)
def jh0 (ops : Array Oper) (i : Nat) : Oper := (ops[i]?).getD default
def jbN (listed : Array Bool) : List Nat -> Array Bool
 | [] => listed
 | i :: r => jbN (listed.setIfInBounds i true) r
def jgF (md : Region.Mode) (ops : Array Oper) : List Nat -> Array Bool -> Bool
 | [], _ => true
 | i :: r, listed => (ops[i]?).isSome && (Region.ready md ops listed).contains i && Region.free md ops listed i && jgF md ops r (listed.setIfInBounds i true)
def jg4 (md : Region.Mode) (ops : Array Oper) : List Nat -> Array Bool -> Bool
 | [], listed => (Region.ready md ops listed).isEmpty
 | i :: r, listed => decide (Region.ready md ops listed = [i]) && jg4 md ops r (listed.setIfInBounds i true)
def jg8 (md : Region.Mode) (ops : Array Oper) : Nat -> Nat -> Nat -> Bool
 | 0, _, _ => false
 | f + 1, j, i => match ops[j]? with
  | none => false
  | some o => o.after.any fun e => Region.binds md e && (e.on == i || jg8 md ops f e.on i)
def chkWaits (md : Region.Mode) (ops : Array Oper) (hd : List Nat) : List Nat -> Bool
 | [] => true
 | t :: r => hd.all (fun i => jg8 md ops ops.size t i) && chain t r
where chain : Nat -> List Nat -> Bool
 | _, [] => true
 | t, u :: r => jg8 md ops ops.size u t && chain u r
def jrE (md : Region.Mode) (ops : Array Oper) (listed : Array Bool) : Bool :=
 (List.range ops.size).all fun j => !listed.getD j false || (match ops[j]? with | none => true | some o => o.after.all fun e => !Region.binds md e || listed.getD e.on false)
def Closed (md : Region.Mode) (ops : Array Oper) (listed : Array Bool) : Prop := ∀ j o, ops[j]? = some o -> listed.getD j false = true -> ∀ e ∈ o.after, Region.binds md e = true -> listed.getD e.on false = true
theorem closed_of {listed : Array Bool} (h : jrE md ops listed = true) : Closed md ops listed := by
 intro j o hj hl e he hb
 have h1 := List.all_eq_true.1 h j (List.mem_range.2 (Array.getElem?_eq_some_iff.1 hj).1)
 simp only [hl, hj, Bool.not_true, Bool.false_or] at h1
 have h2 := Array.all_eq_true_iff_forall_mem.1 h1 e he
 simpa [hb] using h2
theorem jfR {listed : Array Bool} (hc : Closed md ops listed) : ∀ (f j i : Nat), jg8 md ops f j i = true -> (∀ o, ops[j]? = some o -> ∀ e ∈ o.after, Region.binds md e = true -> listed.getD e.on false = true) -> listed.getD i false = true := by
 intro f
 induction f with
 | zero => intro j i h; cases h
 | succ f ih =>
  intro j i h hp
  unfold jg8 at h
  cases ho : ops[j]? with
  | none => simp [ho] at h
  | some o =>
   simp only [ho] at h
   obtain ⟨e, he, hb⟩ := Array.any_eq_true'.1 h
   simp only [Bool.and_eq_true, Bool.or_eq_true, beq_iff_eq] at hb
   have h1 := hp o ho e he hb.1
   rcases hb.2 with h2 | h2
   ·
    rw [<- h2]; exact h1
   exact ih e.on i h2 (fun o' ho' e' he' hb' => hc e.on o' ho' h1 e' he' hb')
theorem jk3 {l : List Nat} : ∀ {listed : Array Bool} {i : Nat} {d : Bool}, listed.getD i d = true -> (jbN listed l).getD i d = true := by
 induction l with
 | nil => intro listed i d h; exact h
 | cons j l ih =>
  intro listed i d h
  refine ih ?_
  by_cases hji : j = i
  ·
   subst hji
   by_cases hlt : j < listed.size
   ·
    simp [hlt]
   simp [hlt] at h ⊢; exact h
  rw [getD_set_ne d hji]; exact h
structure HdInv (md : Region.Mode) (ops : Array Oper) (ps tl : List Nat) (listed : Array Bool) : Prop where
 pure : ∀ i ∈ ps, listed.getD i true = true
 closed : Closed md ops listed
 tail : ∀ t ∈ tl, listed.getD t true = false
theorem HdInv.set {ps tl : List Nat} {listed : Array Bool} (inv : HdInv md ops ps tl listed) {k : Nat} (hk : k ∈ Region.ready md ops listed) (hn : k ∉ tl) : HdInv md ops ps tl (listed.setIfInBounds k true) := by
 obtain ⟨_, ok, hok, hall⟩ := mem_ready.1 hk
 refine ⟨fun i hi => jk3 (l := [k]) (inv.pure i hi), fun j o hj hl e he hb => ?_, fun t ht => ?_⟩
 ·
  by_cases hkj : k = j
  ·
   subst hkj
   have : ok = o := Option.some.inj (hok.symm.trans hj)
   subst this
   exact getD_set_true (hall e he hb)
  rw [getD_set_ne false hkj] at hl
  exact getD_set_true (inv.closed j o hj hl e he hb)
 have hkt : k ≠ t := fun h => hn (h ▸ ht)
 rw [getD_set_ne true hkt]; exact inv.tail t ht
theorem jqB {hd : List Nat} : ∀ (t : Nat) (r : List Nat), chkWaits.chain md ops t r = true -> ∀ u ∈ r, ∃ p ∈ t :: r, jg8 md ops ops.size u p = true
 | _, [], _, u, hu => by cases hu
 | t, v :: r, h, u, hu => by
  simp only [chkWaits.chain, Bool.and_eq_true] at h
  rcases List.mem_cons.1 hu with rfl | hu
  ·
   exact ⟨t, by simp, h.1⟩
  obtain ⟨p, hp, hw⟩ := jqB (hd := hd) v r h.2 u hu
  exact ⟨p, List.mem_cons_of_mem _ hp, hw⟩
theorem jpP {ps hd tl : List Nat} {listed : Array Bool} (hw : chkWaits md ops hd tl = true) (inv : HdInv md ops ps tl listed) {i : Nat} (hi : i ∈ hd) (hun : listed.getD i true = false) : ∀ t ∈ tl, t ∉ Region.ready md ops listed := by
 intro t ht hr
 obtain ⟨_, o, ho, hall⟩ := mem_ready.1 hr
 have hp : ∀ o', ops[t]? = some o' -> ∀ e ∈ o'.after, Region.binds md e = true -> listed.getD e.on false = true := fun o' ho' => by
  have : o' = o := Option.some.inj (ho'.symm.trans ho)
  subst this; exact hall
 cases tl with
 | nil => cases ht
 | cons t1 r =>
  simp only [chkWaits, Bool.and_eq_true] at hw
  rcases List.mem_cons.1 ht with rfl | ht'
  ·
   have h1 := jfR inv.closed _ _ _ (List.all_eq_true.1 hw.1 i hi) hp
   rw [getD_both hun] at h1; cases h1
  obtain ⟨q, hq, hwq⟩ := jqB (hd := hd) t1 r hw.2 t ht'
  have h1 := jfR inv.closed _ _ _ hwq hp
  rw [getD_both (inv.tail q hq)] at h1; cases h1
theorem jhZ {Q : Exit -> Act -> World -> Prop} (hsel : Region.noSelect ops = true) (hQ : ∀ c a w (d : Nat) v, Q (.panic c) (a.put (some d) v) w -> Q (.panic c) a w) {K : Act -> Prop} {g : Nat} {w : World} :
  ∀ (ps : List Nat) (listed : Array Bool) (a : Act), jgF md ops ps listed = true -> (∀ i ∈ ps, ((jh0 ops i).dst).isSome = true) -> wpP P ops K (ps.map (jh0 ops)) a -> (∀ a', K a' -> wpAny P md ops Q g (jbN listed ps) a' w) ->
   wpAny P md ops Q (ps.length + g) listed a w
 | [], _, a, _, _, h, hk => by rw [List.length_nil, Nat.zero_add]; exact hk a h
 | i :: ps, listed, a, hc, hd, h, hk => by
  simp only [jgF, Bool.and_eq_true] at hc
  obtain ⟨⟨⟨h0, h1⟩, h2⟩, h3⟩ := hc
  obtain ⟨oi, hoi⟩ := Option.isSome_iff_exists.1 h0
  have ho : jh0 ops i = oi := by simp [jh0, hoi]
  obtain ⟨v, hy, hr⟩ := h
  rw [show jh0 ops i = oi from ho] at hy hr
  obtain ⟨d, hd1⟩ := Option.isSome_iff_exists.1 (hd i (by simp))
  rw [ho] at hd1
  rw [show (i :: ps).length + g = (ps.length + g) + 1 by simp; omega]
  refine wpAny_first hoi (Region.noSelect_spec hsel) (fun c a w hq => ?_) _ listed a w (Region.free_spec hoi h2) (by simpa using h1) hy ?_
  ·
   rw [hd1] at hq; exact hQ c a w d v hq
  exact jhZ hsel hQ ps _ _ h3 (fun j hj => hd j (by simp [hj])) hr hk
theorem jmP {L : Array Bool -> Act -> Prop} {K : Act -> Prop} {ps hd tl : List Nat} {w : World} (hw : C w) (hsel : Region.noSelect ops = true) (hwt : chkWaits md ops hd tl = true)
  (hhd : ∀ listed, HdInv md ops ps tl listed -> ∀ j ∈ Region.ready md ops listed, j ∈ tl ∨ j ∈ hd) (hdis : ∀ i ∈ hd, i ∉ tl)
  (hdone : ∀ listed a, L listed a -> ∀ j ∈ Region.ready md ops listed, j ∈ tl) :
  ∀ (hs : List Nat) (listed : Array Bool) (a : Act), (∀ i ∈ hs, i ∈ hd) -> HdInv md ops ps tl listed -> jgF md ops hs listed = true -> wpH P ops C S K (hs.map (jh0 ops)) a -> (∀ a', K a' -> L (jbN listed hs) a') ->
   AnyH P md ops C S L hs.length listed a
 | [], _, a, _, _, _, h, hk => hk a h
 | i :: hs, listed, a, hin, inv, hc, h, hk => by
  simp only [jgF, Bool.and_eq_true] at hc
  obtain ⟨⟨⟨h0, h1⟩, h2⟩, h3⟩ := hc
  obtain ⟨oi, hoi⟩ := Option.isSome_iff_exists.1 h0
  have ho : jh0 ops i = oi := by simp [jh0, hoi]
  have hr : i ∈ Region.ready md ops listed := by simpa using h1
  have hih : i ∈ hd := hin i (by simp)
  obtain ⟨hf, hv⟩ := h
  rw [show jh0 ops i = oi from ho] at hf hv
  refine AnyH_first (Inv := HdInv md ops ps tl) (Hd := fun j => j ∈ hd) hw hoi hih (Region.noSelect_spec hsel) (fun l inv' k hk hkh j hj => ?_) (fun l k inv' hk hkh => inv'.set hk (hdis k hkh)) (fun l a' hL j hj hjh => hdis j hjh (hdone l a' hL j hj)) hs.length listed a inv hr (Region.free_spec hoi h2) ?_
  ·
   rcases hhd l inv' j hj with h5 | h5
   ·
    exact absurd hj (jpP hwt inv' hkh (mem_ready.1 hk).1 j h5)
   exact h5
  intro o' ho'
  have : o' = oi := Option.some.inj (ho'.symm.trans hoi)
  subst this
  exact ⟨hf, fun v hvv => jmP hw hsel hwt hhd hdis hdone hs _ _ (fun j hj => hin j (by simp [hj])) (inv.set hr (hdis i hih)) h3 (hv v hvv) hk⟩
theorem jpX {Q : Exit -> Act -> World -> Prop} : ∀ (tl : List Nat) (listed : Array Bool) (a : Act) (w : World), (∀ i ∈ tl, (ops[i]?).isSome = true) -> jg4 md ops tl listed = true -> wpList P ops Q (tl.map (jh0 ops)) a w -> wpAny P md ops Q tl.length listed a w
 | [], listed, a, w, _, hc, h => ⟨by simpa [jg4] using hc, h⟩
 | i :: tl, listed, a, w, hi, hc, h => by
  simp only [jg4, Bool.and_eq_true, decide_eq_true_eq] at hc
  obtain ⟨oi, hoi⟩ := Option.isSome_iff_exists.1 (hi i (by simp))
  refine ⟨fun h1 => (by rw [hc.1] at h1; cases h1), fun j hj => ?_⟩
  rw [hc.1] at hj
  have : j = i := by simpa using hj
  subst this
  have hw : wpOp P ops Q j (wpList P ops Q (tl.map (jh0 ops))) a w := by
   unfold wpOp
   simp only [hoi]
   have ho : jh0 ops j = oi := by simp [jh0, hoi]
   simp only [List.map_cons, wpList, ho] at h
   exact h
  exact wpOp_mono (fun a' w' h' => jpX tl _ a' w' (fun k hk => hi k (by simp [hk])) hc.2 h') hw
def chkAll (ops : Array Oper) (ps hd tl : List Nat) : Bool :=
 let l0 := Array.replicate ops.size false
 Region.noSelect ops && jgF .any ops ps l0 && ps.all (fun i => ((jh0 ops i).dst).isSome) && jrE .any ops (jbN l0 ps) && tl.all (fun t => !(jbN l0 ps).getD t true) && chkWaits .any ops hd tl &&
 (List.range ops.size).all (fun i => ps.contains i || hd.contains i || tl.contains i) && ps.all (fun i => (jbN l0 ps).getD i true) && hd.all (fun i => !tl.contains i) && jgF .any ops hd (jbN l0 ps) &&
 tl.all (fun i => (ops[i]?).isSome) && jg4 .any ops tl (jbN (jbN l0 ps) hd) && decide (ps.length + hd.length + tl.length = ops.size)
theorem jqG {id : Nat} {Q : Exit -> Act -> World -> Prop} {a : Act} {w : World} (ps hd tl : List Nat) (hm : P.follows .mixedOrders = true) (hB : chkAll ops ps hd tl = true) (hQ : ∀ c a w (d : Nat) v, Q (.panic c) (a.put (some d) v) w -> Q (.panic c) a w)
  (hC : C { w with drawn := w.drawn + 1 })
  (h : wpP P ops (wpH P ops C S (fun a' => ∀ w', C w' -> wpList P ops Q (tl.map (jh0 ops)) a' w') (hd.map (jh0 ops))) (ps.map (jh0 ops)) a) : (Code.region id ops true).wp P Q a w := by
 simp only [chkAll, Bool.and_eq_true, decide_eq_true_eq] at hB
 obtain ⟨⟨⟨⟨⟨⟨⟨⟨⟨⟨⟨⟨hsel, hps⟩, hdst⟩, hcl⟩, htu⟩, hwt⟩, hcov⟩, hpl⟩, hdis⟩, hhs⟩, htl⟩, hct⟩, hlen⟩ := hB
 refine wp_region_any hm ?_
 suffices hgoal : wpAny P .any ops Q (ps.length + (hd.length + tl.length)) (Array.replicate ops.size false) a { w with drawn := w.drawn + 1 } by
  have e1 : ps.length + (hd.length + tl.length) = ops.size := by omega
  rw [e1] at hgoal; exact hgoal
 refine jhZ hsel hQ ps _ a hps (fun i hi => List.all_eq_true.1 hdst i hi) h fun a1 h1 => ?_
 have inv : HdInv .any ops ps tl (jbN (Array.replicate ops.size false) ps) := ⟨fun i hi => List.all_eq_true.1 hpl i hi, closed_of hcl, fun t ht => by simpa using List.all_eq_true.1 htu t ht⟩
 have hdis' : ∀ i ∈ hd, i ∉ tl := fun i hi hm => by
  have := List.all_eq_true.1 hdis i hi
  simp [hm] at this
 have hdt : ∀ listed, HdInv .any ops ps tl listed -> ∀ j ∈ Region.ready .any ops listed, j ∈ tl ∨ j ∈ hd := fun listed hp j hj => by
  obtain ⟨hun, o, ho, _⟩ := mem_ready.1 hj
  have h2 := List.all_eq_true.1 hcov j (List.mem_range.2 (Array.getElem?_eq_some_iff.1 ho).1)
  simp only [Bool.or_eq_true, List.contains_iff_mem] at h2
  rcases h2 with (h2 | h2) | h2
  ·
   rw [hp.pure j h2] at hun; cases hun
  ·
   exact .inr h2
  exact .inl h2
 have H := jmP (L := fun listed a' => jg4 .any ops tl listed = true /\ (∀ w', C w' -> wpList P ops Q (tl.map (jh0 ops)) a' w')) (hd := hd) hC hsel hwt hdt hdis'
  (fun listed a' hL j hj => by
   cases htl' : tl with
   | nil => rw [htl'] at hL; have h3 := hL.1; simp [jg4] at h3; rw [h3] at hj; cases hj
   | cons t r => rw [htl'] at hL; have h3 := hL.1; simp only [jg4, Bool.and_eq_true, decide_eq_true_eq] at h3; rw [h3.1] at hj; simp at hj; simp [hj])
  hd _ a1 (fun i hi => hi) inv hhs h1 (fun a2 h2 => ⟨hct, h2⟩)
 exact jqH (Q := Q) (g := tl.length) (L := fun listed a' => jg4 .any ops tl listed = true /\ (∀ w', C w' -> wpList P ops Q (tl.map (jh0 ops)) a' w')) (fun listed a' w' hw' hL => jpX tl listed a' w' (fun i hi => List.all_eq_true.1 htl i hi) hL.1 (hL.2 w' hw')) _ _ _ _ hC H
end

def HL (P : Program) (n : Nat) (ops : Array Oper) (C : World -> Prop) (S : FuncId -> Array Value -> Value -> Prop) (K : Act -> Prop) (rest : List Oper) (e : Env) : Prop := ∀ a, Kn n a e -> wpH P ops C S K rest a
section
variable {P : Program} {n : Nat} {Q : jeG} {e : Env} {w w0 : World} {L : List (Nat × Obj)} {ops : Array Oper} {rest : List Oper} {t : TypeId} {p : String} {af : Array Edge} {C : World -> Prop} {S : FuncId -> Array Value -> Value -> Prop} {K : Act -> Prop}
def PL (P : Program) (n : Nat) (ops : Array Oper) (K : Act -> Prop) (rest : List Oper) (e : Env) : Prop := ∀ a, Kn n a e -> wpP P ops K rest a
theorem jcH {id : Nat} {l : List Oper} (ps hd tl : List Nat) (S : FuncId -> Array Value -> Value -> Prop) (hm : P.follows .mixedOrders = true) (hB : chkAll l.toArray ps hd tl = true) (hQ : ∀ c a w (d : Nat) v, Q (.panic c) (a.put (some d) v) w -> Q (.panic c) a w) (hs : HS w0 w L)
  (h : PL P n l.toArray (wpH P l.toArray (fun w' => HS w0 w' L) S (fun a' => ∀ w', HS w0 w' L -> wpList P l.toArray Q (tl.map (jh0 l.toArray)) a' w') (hd.map (jh0 l.toArray))) (ps.map (jh0 l.toArray)) e) : W P n (.region id l.toArray true) Q e w :=
 fun a ha => jqG ps hd tl hm hB hQ (hs.drewN 1) (h a ha)
theorem jbH {hd : List Oper} (h : HL P n ops C S K hd e) : PL P n ops (wpH P ops C S K hd) [] e := fun a ha => h a ha
theorem Pv {d : Nat} {op : Op} {v : Value} (hd : Nat.blt d n = true) (hr : ∀ w a, Kn n a e -> (execOp a.eval (Oper.mk (some d) op t p af none)).run P w = .ok (.value v) w)
  (h : PL P n ops K rest ((d, v) :: e)) : PL P n ops K (Oper.mk (some d) op t p af none :: rest) e :=
 fun a ha => ⟨v, .inl ⟨rfl, fun w => hr w a ha⟩, h _ (ha.put hd v)⟩
theorem jf3 {d : Nat} {op : Op} {v : Value} {j d' : Nat} {b : Bool} (hj : (ops[j]?).bind (·.dst) = some d') (hl : look e d' = some (.bool b)) (hd : Nat.blt d n = true)
  (hr : ∀ w a, Kn n a e -> (execOp a.eval (Oper.mk (some d) op t p af none)).run P w = .ok (.value v) w)
  (h : PL P n ops K rest ((d, v) :: e)) : PL P n ops K (Oper.mk (some d) op t p af (some (j, b)) :: rest) e := by
 intro a ha
 have hy : yielded ops a.tmps j = some b := by simp [yielded, hj, ha.2.2 d' _ hl]
 exact ⟨v, .inl ⟨by simp [Region.wanted, hy], fun w => hr w a ha⟩, h _ (ha.put hd v)⟩
theorem jmA {d : Nat} {op : Op} {j d' : Nat} {b c : Bool} (hd : Nat.blt d n = true) (hj : (ops[j]?).bind (·.dst) = some d') (hl : look e d' = some (.bool b)) (hne : (b == c) = false)
  (h : PL P n ops K rest ((d, undef) :: e)) : PL P n ops K (Oper.mk (some d) op t p af (some (j, c)) :: rest) e := by
 intro a ha
 have hy : yielded ops a.tmps j = some b := by simp [yielded, hj, ha.2.2 d' _ hl]
 exact ⟨undef, .inr ⟨by simp [Region.wanted, hy]; simpa using hne, rfl⟩, h _ (ha.put hd undef)⟩
theorem jb2 {l : List Oper} {a0 : Env} (h : ∀ w', HS w0 w' L -> RL P n ops l Q a0 w') : HL P n ops C S (fun a' => ∀ w', HS w0 w' L -> wpList P ops Q l a' w') [] a0 := fun a ha w' hw' => h w' hw' a ha
theorem HL_set {d : Nat} {op : Op} (φ : Value -> Prop) (hd : Nat.blt d n = true) (hr : ∀ w, C w -> ∀ a, Kn n a e -> ∃ v w', (execOp a.eval (Oper.mk (some d) op t p af none)).run P w = .ok (.value v) w' /\ C w' /\ φ v)
  (h : ∀ v, φ v -> HL P n ops C S K rest ((d, v) :: e)) : HL P n ops C S K (Oper.mk (some d) op t p af none :: rest) e := by
 intro a ha
 refine ⟨fun _ w hw => ?_, fun v hv => ?_⟩
 ·
  obtain ⟨v, w', h1, h2, _⟩ := hr w hw a ha
  rw [h1]; exact h2
 rcases hv with ⟨_, w, hw, hm⟩ | ⟨hx, _⟩
 ·
  obtain ⟨u, w', h1, _, h3⟩ := hr w hw a ha
  rw [h1] at hm
  have : u = v := hm
  subst this
  exact h u h3 _ (ha.put hd u)
 simp [Region.wanted] at hx
theorem Hv {d : Nat} {op : Op} {v : Value} (hd : Nat.blt d n = true) (hr : ∀ w, C w -> ∀ a, Kn n a e -> (execOp a.eval (Oper.mk (some d) op t p af none)).run P w = .ok (.value v) w)
  (h : HL P n ops C S K rest ((d, v) :: e)) : HL P n ops C S K (Oper.mk (some d) op t p af none :: rest) e :=
 HL_set (φ := fun u => u = v) hd (fun w hw a ha => ⟨v, w, hr w hw a ha, hw, rfl⟩) (fun _ hu => by subst hu; exact h)
theorem jpL {d : Nat} {op : BinOp} {T T' : TypeId} {x y : Operand} {i j : Nat} (hd : Nat.blt d n = true) (hop : jh7 op = true) (hx : jaD e x = some (.float .f64 i)) (hy : jaD e y = some (.float .f64 j))
  (h : ∀ r, (floatBits op .f64 i j = some r ∨ (floatBits op .f64 i j = none /\ jb1 r = true)) -> HL P n ops (fun w' => HS w0 w' L) S K rest ((d, .float .f64 r) :: e)) :
  HL P n ops (fun w' => HS w0 w' L) S K (Oper.mk (some d) (.binOp op T x y T') t p af none :: rest) e := by
 refine HL_set (φ := fun u => ∃ r, u = .float .f64 r /\ (floatBits op .f64 i j = some r ∨ (floatBits op .f64 i j = none /\ jb1 r = true))) hd (fun w hw a ha => ?_) (fun u hu => ?_)
 ·
  obtain ⟨r, k, hr, hs⟩ := jm1 P w op i j hop
  have hb : binOp op T (.float .f64 i) (.float .f64 j) = Op.floatArith op .f64 i j := by cases op <;> simp [jh7] at hop <;> simp [binOp]
  exact ⟨.float .f64 r, w.drewN k, by simp [execOp, ha.eval hx, ha.eval hy, eqGuard_at_float, hb, hr], hw.drewN k, r, rfl, hs⟩
 obtain ⟨r, rfl, hs⟩ := hu
 exact h r hs
theorem Hw {dst : Option Tmp} {op : Op} {j d : Nat} {b : Bool} (hj : (ops[j]?).bind (·.dst) = some d) (hl : look e d = some (.bool b))
  (h : HL P n ops C S K (Oper.mk dst op t p af none :: rest) e) : HL P n ops C S K (Oper.mk dst op t p af (some (j, b)) :: rest) e := by
 intro a ha
 have hy : yielded ops a.tmps j = some b := by simp [yielded, hj, ha.2.2 d _ hl]
 have hw : Region.wanted (Oper.mk dst op t p af (some (j, b))) (yielded ops a.tmps) = true := by simp [Region.wanted, hy]
 have hw' : Region.wanted (Oper.mk dst op t p af none) (yielded ops a.tmps) = true := rfl
 obtain ⟨h1, h2⟩ := h a ha
 refine ⟨fun _ w hC => h1 hw' w hC, fun v hv => h2 v ?_⟩
 rcases hv with ⟨_, h3⟩ | ⟨hx, _⟩
 ·
  exact .inl ⟨hw', h3⟩
 rw [hw] at hx; cases hx
theorem jaU {d : Nat} {op : Op} {j d' : Nat} {b c : Bool} (hd : Nat.blt d n = true) (hj : (ops[j]?).bind (·.dst) = some d') (hl : look e d' = some (.bool b)) (hne : (b == c) = false)
  (h : HL P n ops C S K rest ((d, undef) :: e)) : HL P n ops C S K (Oper.mk (some d) op t p af (some (j, c)) :: rest) e := by
 intro a ha
 have hy : yielded ops a.tmps j = some b := by simp [yielded, hj, ha.2.2 d' _ hl]
 have hw : Region.wanted (Oper.mk (some d) op t p af (some (j, c))) (yielded ops a.tmps) = false := by simp [Region.wanted, hy]; simpa using hne
 refine ⟨fun hx => (by rw [hw] at hx; cases hx), fun v hv => ?_⟩
 rcases hv with ⟨hx, _⟩ | ⟨_, rfl⟩
 ·
  rw [hw] at hx; cases hx
 exact h _ (ha.put hd undef)
theorem Nx_set (d : Nat) {v v' : Value} (hl : look e d = some v) (hv : v = v') (h : Nx n Q ((d, v') :: e) w) : Nx n Q e w := by
 subst hv; exact fun a ha => h a (ha.drop hl)
theorem Ret.start {f : FuncId} {l : List Value} {R : Value -> World -> Prop} (h : ∀ w, HS w0 w [] -> Ret P f l w R) : Ret P f l w0 R := h w0 (HS.refl w0)
end
section
variable {P : Program} {n : Nat} {e : Env} {w : World} {t : TypeId} {p : String} {af : Array Edge} {d : Nat}
theorem jhR {op : BinOp} {T T' : TypeId} {x y : Operand} {vx vy v : Value} (hx : jaD e x = some vx) (hy : jaD e y = some vy) (hg : ∀ x y, eqGuard op T x y vx vy = pure ()) (hr : (binOp op T vx vy).run P w = .ok v w) :
  ∀ a, Kn n a e -> (execOp a.eval (Oper.mk (some d) (.binOp op T x y T') t p af none)).run P w = .ok (.value v) w :=
 fun a ha => by simp [execOp, ha.eval hx, ha.eval hy, hg, hr]
theorem jhW {x : Operand} {v : Value} (hx : jaD e x = some v) :
  ∀ act, Kn n act e -> (execOp act.eval (Oper.mk (some d) (.move x) t p af none)).run P w = .ok (.value (v)) w :=
 fun a ha => by simp [execOp, ha.eval hx]
theorem jbS {x : Operand} {v : Value} (hx : jaD e x = some v) :
  ∀ act, Kn n act e -> (execOp act.eval (Oper.mk (some d) (.assign x) t p af none)).run P w = .ok (.value (v)) w :=
 fun a ha => by simp [execOp, ha.eval hx]
theorem jf7 {c x y : Operand} {v : Value} (hc : jaD e c = some (.bool true)) (hx : jaD e x = some v) :
  ∀ act, Kn n act e -> (execOp act.eval (Oper.mk (some d) (.pick c x y) t p af none)).run P w = .ok (.value (v)) w :=
 fun a ha => by simp [execOp, ha.eval hx, ha.eval hc, asBool]
theorem jf8 {c x y : Operand} {v : Value} (hc : jaD e c = some (.bool false)) (hy : jaD e y = some v) :
  ∀ act, Kn n act e -> (execOp act.eval (Oper.mk (some d) (.pick c x y) t p af none)).run P w = .ok (.value (v)) w :=
 fun a ha => by simp [execOp, ha.eval hy, ha.eval hc, asBool]
theorem R_not {T : TypeId} {x : Operand} {b : Bool} (hx : jaD e x = some (.bool b)) :
  ∀ act, Kn n act e -> (execOp act.eval (Oper.mk (some d) (.unOp .not T x) t p af none)).run P w = .ok (.value (.bool !b)) w :=
 fun a ha => by simp [execOp, ha.eval hx, Op.unary]
theorem jk6 {T T' : TypeId} {x y : Operand} {k : IntKind} {i j c : Int} (hx : jaD e x = some (.int k i)) (hy : jaD e y = some (.int k j)) (hc : k.wrap (i + j) = c) :
  ∀ act, Kn n act e -> (execOp act.eval (Oper.mk (some d) (.binOp .add T x y T') t p af none)).run P w = .ok (.value (.int k c)) w :=
 jhR hx hy (fun _ _ => eqGuard_add ..) (by simp [binOp_add, Op.intArith, hc])
theorem jkS {T T' : TypeId} {x y : Operand} {k : IntKind} {i j c : Int} (hx : jaD e x = some (.int k i)) (hy : jaD e y = some (.int k j)) (hc : k.wrap (i - j) = c) :
  ∀ act, Kn n act e -> (execOp act.eval (Oper.mk (some d) (.binOp .sub T x y T') t p af none)).run P w = .ok (.value (.int k c)) w :=
 jhR hx hy (fun _ _ => eqGuard_sub ..) (by simp [binOp_sub, Op.intArith, hc])
theorem R_mul {T T' : TypeId} {x y : Operand} {k : IntKind} {i j c : Int} (hx : jaD e x = some (.int k i)) (hy : jaD e y = some (.int k j)) (hc : k.wrap (i * j) = c) :
  ∀ act, Kn n act e -> (execOp act.eval (Oper.mk (some d) (.binOp .mul T x y T') t p af none)).run P w = .ok (.value (.int k c)) w :=
 jhR hx hy (fun _ _ => eqGuard_mul ..) (by simp [binOp_mul, Op.intArith, hc])
theorem jpT {T T' : TypeId} {x y : Operand} {k : IntKind} {i j : Int} {b : Bool} (hx : jaD e x = some (.int k i)) (hy : jaD e y = some (.int k j)) (hb : decide (i < j) = b) :
  ∀ act, Kn n act e -> (execOp act.eval (Oper.mk (some d) (.binOp .lss T x y T') t p af none)).run P w = .ok (.value (.bool b)) w :=
 jhR hx hy (fun _ _ => eqGuard_lss ..) (by subst hb; simp [binOp_lss])
theorem jpU {T T' : TypeId} {x y : Operand} {k : IntKind} {i j : Int} {b : Bool} (hx : jaD e x = some (.int k i)) (hy : jaD e y = some (.int k j)) (hb : decide (j <= i) = b) :
  ∀ act, Kn n act e -> (execOp act.eval (Oper.mk (some d) (.binOp .geq T x y T') t p af none)).run P w = .ok (.value (.bool b)) w :=
 jhR hx hy (fun _ _ => eqGuard_geq ..) (by subst hb; simp [binOp_geq])
theorem R_eql {T T' : TypeId} {x y : Operand} {k : IntKind} {i j : Int} {b : Bool} (hx : jaD e x = some (.int k i)) (hy : jaD e y = some (.int k j)) (hb : decide (i = j) = b) :
  ∀ act, Kn n act e -> (execOp act.eval (Oper.mk (some d) (.binOp .eql T x y T') t p af none)).run P w = .ok (.value (.bool b)) w :=
 jhR hx hy (fun _ _ => eqGuard_at_int ..) (by subst hb; simp [binOp_eql]; rfl)
theorem R_neq {T T' : TypeId} {x y : Operand} {k : IntKind} {i j : Int} {b : Bool} (hx : jaD e x = some (.int k i)) (hy : jaD e y = some (.int k j)) (hb : decide (i ≠ j) = b) :
  ∀ act, Kn n act e -> (execOp act.eval (Oper.mk (some d) (.binOp .neq T x y T') t p af none)).run P w = .ok (.value (.bool b)) w :=
 jhR hx hy (fun _ _ => eqGuard_at_int ..) (by
  subst hb
  rw [binOp_neq]
  simp only [Sem.run_pure]
  congr 2
  rw [Bool.eq_iff_iff]; simp)
theorem R_fcmp {op : BinOp} {T T' : TypeId} {x y : Operand} {k : FloatKind} {i j : Nat} {v : Value} (hx : jaD e x = some (.float k i)) (hy : jaD e y = some (.float k j)) (hv : ∀ w, (binOp op T (.float k i) (.float k j)).run P w = .ok v w) :
  ∀ act, Kn n act e -> (execOp act.eval (Oper.mk (some d) (.binOp op T x y T') t p af none)).run P w = .ok (.value (v)) w :=
 jhR hx hy (fun _ _ => eqGuard_at_float ..) (hv w)
theorem jaN {T : TypeId} {x : Operand} {ad : Addr} {v : Value} (hT : One P T) (hx : jaD e x = some (.pointer (some ad))) (hc : w.cell? ad = some v) :
  ∀ act, Kn n act e -> (execOp act.eval (Oper.mk (some d) (.load T x) t p af none)).run P w = .ok (.value (v)) w :=
 fun a ha => by simp [execOp, ha.eval hx, Instr.loadAt, Instr.sureAddr, loadVar, hT.run, hc]
theorem jcL {T : TypeId} {x : Operand} {ad : Addr} {cs : List Value} {z : Value} {b : Nat} (hT : Agg P T) (hi : TI P T z cs.length b) (hx : jaD e x = some (.pointer (some ad))) (hc : jbF w ad cs) :
  ∀ act, Kn n act e -> (execOp act.eval (Oper.mk (some d) (.load T x) t p af none)).run P w = .ok (.value (.agg cs.toArray)) w :=
 fun a ha => by
  have hl := run_loadCells_list (P := P) w ad cs hc
  simp [execOp, ha.eval hx, Instr.loadAt, Instr.sureAddr, loadVar, hT.run, hi.sizeOf, hl]
theorem jcN {x : Operand} {ad : Addr} (hx : jaD e x = some (.pointer (some ad))) :
  ∀ act, Kn n act e -> (execOp act.eval (Oper.mk (some d) (.nilCheck x) t p af none)).run P w = .ok (.value (.pointer (some ad))) w :=
 fun a ha => by simp [execOp, ha.eval hx]
theorem jbA {T : TypeId} {x : Operand} {ad : Addr} {k off : Nat} {fs : Array Field} {f : Field} {z : Value} {sz b : Nat} (hT : P.underlying T = some (.struct fs)) (hf : fs[k]? = some f) (ho : f.offset = off) (hi : TI P f.type z (sz + 1) b)
  (hx : jaD e x = some (.pointer (some ad))) :
  ∀ act, Kn n act e -> (execOp act.eval (Oper.mk (some d) (.fieldAddr T x k) t p af none)).run P w = .ok (.value (.pointer (some (ad.add off)))) w :=
 fun a ha => by subst ho; simp [execOp, ha.eval hx, Instr.fieldAt, run_underlying hT, hf, Instr.sureAddr, fieldPlace, hi.sizeOf]
theorem R_idx {T E : TypeId} {x y : Operand} {ad : Addr} {len cap : Nat} {k : IntKind} {i : Int} {z : Value} {sz b : Nat} (hT : P.underlying T = some (.slice E)) (hi : TI P E z sz b)
  (hx : jaD e x = some (.slice (some ad) len cap)) (hy : jaD e y = some (.int k i)) (hb : 0 <= i /\ i < len) :
  ∀ act, Kn n act e -> (execOp act.eval (Oper.mk (some d) (.indexAddr T x y) t p af none)).run P w = .ok (.value (.pointer (some (ad.add (i.toNat * sz))))) w :=
 fun a ha => by
  have hE : P.elem T = E := by simp [Program.elem, hT]
  have := run_indexAt_slice (P := P) w T ad len cap k i (by rw [hE]; exact hT)
  simp [execOp, ha.eval hx, ha.eval hy, this, hE, hi.sizeOf, hb]
theorem jdC {T E : TypeId} {x y : Operand} {ao : Option Addr} {ad : Addr} {len cap j : Nat} {k : IntKind} {i : Int} {z : Value} {b : Nat} (hT : P.underlying T = some (.slice E)) (hi : TI P E z 1 b)
  (hx : jaD e x = some (.slice ao len cap)) (hy : jaD e y = some (.int k i)) (hj : i = (j : Int)) (hb : j < len) (hao : ao = some ad) :
  ∀ act, Kn n act e -> (execOp act.eval (Oper.mk (some d) (.indexAddr T x y) t p af none)).run P w = .ok (.value (.pointer (some (ad.add j)))) w :=
 by
 subst hao hj
 have := R_idx (P := P) (n := n) (e := e) (w := w) (t := t) (p := p) (af := af) (d := d) hT hi hx hy (by omega)
 simpa using this
theorem R_idxA {T E : TypeId} {x y : Operand} {ad : Addr} {len j : Nat} {k : IntKind} {i : Int} {z : Value} {sz b : Nat} (hT : P.underlying T = some (.array len E)) (hi : TI P E z sz b)
  (hx : jaD e x = some (.pointer (some ad))) (hy : jaD e y = some (.int k i)) (hj : i = (j : Int)) (hb : j < len) :
  ∀ act, Kn n act e -> (execOp act.eval (Oper.mk (some d) (.indexAddr T x y) t p af none)).run P w = .ok (.value (.pointer (some (ad.add (j * sz))))) w :=
 fun a ha => by
  subst hj
  have hE : P.elem T = E := by simp [Program.elem, hT]
  have hl : P.arrayLen T = len := by simp [Program.arrayLen, hT]
  have := run_indexAt_array (P := P) w T ad k j (by rw [hE, hl]; exact hT)
  simp [execOp, ha.eval hx, ha.eval hy, this, hE, hl, hi.sizeOf, hb]
theorem R_len {T E ty : TypeId} {x : Operand} {ao : Option Addr} {len cap : Nat} (hT : P.underlying T = some (.slice E)) (hx : jaD e x = some (.slice ao len cap)) :
  ∀ act, Kn n act e -> (execOp act.eval (Oper.mk (some d) (.call { callee := .builtin .len, args := #[x], argTypes := #[T] }) ty p af none)).run P w = .ok (.value (.int .i64 len)) w :=
 fun a ha => by
  have hE : P.elem T = E := by simp [Program.elem, hT]
  have := run_len_slice (P := P) w T ty ao len cap (by rw [hE]; exact hT)
  simp [execOp, ha.eval hx, resolve, invoke, builtin, this, goInt]
theorem R_itoi {S D : TypeId} {x : Operand} {k q : IntKind} {i j : Int} {s : TypeDesc} (hS : P.underlying S = some s) (hD : P.underlying D = some (.int q)) (hx : jaD e x = some (.int k i)) (hj : q.wrap i = j) :
  ∀ act, Kn n act e -> (execOp act.eval (Oper.mk (some d) (.convert S D x) t p af none)).run P w = .ok (.value (.int q j)) w :=
 fun a ha => by
  have hk : P.intKind D = q := by simp [Program.intKind, hD]
  have := run_convert_int (P := P) w S D k i (by simp [hS]) (by rw [hk]; exact hD)
  rw [hk, hj] at this
  simp [execOp, ha.eval hx, this]
theorem jfZ {T E : TypeId} {x y : Operand} {ao : Option Addr} {ad : Addr} {len cap j : Nat} {k : IntKind} {i : Int} {z : Value} {sz b : Nat} (hT : P.underlying T = some (.slice E)) (hi : TI P E z sz b)
  (hx : jaD e x = some (.slice ao len cap)) (hy : jaD e y = some (.int k i)) (hj : i = (j : Int)) (hb : j < len) (hao : ao = some ad) :
  ∀ act, Kn n act e -> (execOp act.eval (Oper.mk (some d) (.indexAddr T x y) t p af none)).run P w = .ok (.value (.pointer (some (ad.add (j * sz))))) w :=
 by
 subst hao hj
 have := R_idx (P := P) (n := n) (e := e) (w := w) (t := t) (p := p) (af := af) (d := d) hT hi hx hy (by omega)
 simpa using this
theorem R_build {T : TypeId} {xs : List (Nat × Operand)} {l : List (Nat × Value)} {cells : Array Value} (hx : jf6 e xs = some l) (hb : P.built T l = some cells) :
  ∀ act, Kn n act e -> (execOp act.eval (Oper.mk (some d) (.build T xs.toArray) t p af none)).run P w = .ok (.value (.agg cells)) w :=
 fun a ha => by
  have := run_build (P := P) w T l.toArray cells (by simpa using hb)
  rw [<- jfL ha hx] at this
  simp [execOp] at this ⊢
  simp [this]
end
def il (xs : List Int) : List Value := xs.map (.int .i64)
def fl (xs : List Nat) : List Value := xs.map (.float .f64)
def cl (xs : List (Nat × Nat)) : List Value := xs.map fun x => .complex .f64 x.1 x.2
@[simp] theorem il_length (xs : List Int) : (il xs).length = xs.length := by simp [il]
@[simp] theorem fl_length (xs : List Nat) : (fl xs).length = xs.length := by simp [fl]
@[simp] theorem cl_length (xs : List (Nat × Nat)) : (cl xs).length = xs.length := by simp [cl]
theorem jaV {xs : List Int} {j : Nat} (h : j < xs.length) : (il xs)[j]? = some (.int .i64 (xs.getD j 0)) := by simp [il, h]
theorem fl_get {xs : List Nat} {j : Nat} (h : j < xs.length) : (fl xs)[j]? = some (.float .f64 (xs.getD j 0)) := by simp [fl, h]
theorem jbZ {xs : List Int} {sp : List Value} {j : Nat} (h : j < xs.length) : (il xs ++ sp)[j]? = some (.int .i64 (xs.getD j 0)) := by
 rw [List.getElem?_append_left (by simpa using h)]; simp [il, h]
theorem jc3 (xs : List Int) (j : Nat) (v : Int) : (il xs).set j (.int .i64 v) = il (xs.set j v) := by simp [il, List.map_set]
theorem jf2 (xs : List Int) (sp : List Value) (j : Nat) (v : Int) (h : j < xs.length) : (il xs ++ sp).set j (.int .i64 v) = il (xs.set j v) ++ sp := by
 rw [List.set_append_left _ _ (by simpa using h), jc3]
theorem jgV (k : Nat) (v : Int) : List.replicate k (Value.int .i64 v) = il (List.replicate k v) := by simp [il]
theorem jeD (xs : List Int) (v : Int) : il xs ++ [.int .i64 v] = il (xs ++ [v]) := by simp [il]
theorem jr4 (v : Value) (k : Nat) : madeCells #[v] k = (List.replicate k v).toArray := by
 unfold madeCells
 apply Array.ext'
 simp
 apply List.ext_getElem
 ·
  simp
 intro i h1 h2
 simp [Nat.mod_one]
section
variable {P : Program} {n : Nat} {Q : jeG} {e : Env} {w w0 : World} {L : List (Nat × Obj)} {ops : Array Oper} {rest : List Oper} {t : TypeId} {p : String} {af : Array Edge}
theorem jdM {d : Nat} (hd : Nat.blt d n = true) {T E : TypeId} {x y : Operand} {z : Value} {b l c : Nat} {kl kc : IntKind} {l' c' : Int} (hs : HS w0 w L) (hT : P.underlying T = some (.slice E)) (hi : TI P E z 1 b)
  (hx : jaD e x = some (.int kl l')) (hy : jaD e y = some (.int kc c')) (hl : l' = (l : Int)) (hc : c' = (c : Int)) (hlc : l <= c) (hb : b * c <= 281474976710656) (h63 : c <= 9223372036854775807) (hz : z.cells = #[z])
  (h : ∀ g w', w0.heap.size <= g -> g ∉ L.map (·.1) -> HS w0 w' (L ++ [(g, Row E (List.replicate c z))]) -> RL P n ops rest Q ((d, .slice (some ⟨g, 0, none⟩) l c) :: e) w') :
  RL P n ops (Oper.mk (some d) (.makeSlice T x y) t p af none :: rest) Q e w := by
 refine L_make hd hs hT hi hx hy hl hc hlc hb h63 fun g w' h1 h2 h3 => h g w' h1 h2 ?_
 rw [hz, Nat.mul_one, jr4] at h3
 exact h3
end

theorem jb3 : Ieee.double.signWeight = 9223372036854775808 := rfl
theorem jdP : Ieee.double.binade = 4503599627370496 := rfl
theorem jc8 : Ieee.double.infRung = 9218868437227405312 := rfl
theorem jnL (neg : Bool) (r : Nat) (h : r <= 9218868437227405312) : (Ieee.double.read (Ieee.double.word neg r)).isNaN = false := by
 have h1 : Ieee.double.word neg r % 9223372036854775808 = r := by
  unfold Ieee.Format.word
  rw [jb3]
  split <;> omega
 unfold Ieee.Format.read
 rw [jb3, jdP, jc8, h1]
 by_cases a : r < 4503599627370496
 ·
  simp [a, Ieee.Datum.isNaN]
 by_cases b : r < 9218868437227405312
 ·
  simp [a, b, Ieee.Datum.isNaN]
 have : r = 9218868437227405312 := by omega
 simp [this, Ieee.Datum.isNaN]
theorem jk8 (d : Ieee.Datum) (h : d.isNaN = false) : jb1 (Ieee.double.write d) = false := by
 cases d with
 | nan s f => simp [Ieee.Datum.isNaN] at h
 | infinity s => exact jnL s _ (Nat.le_refl _)
 | number s m p =>
  show (Ieee.double.read (Ieee.double.nearest s m p)).isNaN = false
  unfold Ieee.Format.nearest
  dsimp only
  split
  ·
   exact jnL s 0 (by omega)
  exact jnL s _ (by rw [jc8]; exact Nat.min_le_right _ _)
theorem jeB {a b d : Ieee.Datum} (h : a.sum b = some d) : d.isNaN = false := by
 cases a <;> cases b <;> simp [Ieee.Datum.sum] at h <;> first | (subst h; rfl) | (obtain ⟨_, rfl⟩ := h; rfl)
theorem jfF {a b d : Ieee.Datum} (h : a.product b = some d) : d.isNaN = false := by
 cases a <;> cases b <;> simp [Ieee.Datum.product] at h <;> first | (subst h; rfl) | (obtain ⟨_, rfl⟩ := h; rfl)
theorem jf0 {n : Nat} {a b d : Ieee.Datum} (h : a.quotient n b = some d) : d.isNaN = false := by
 cases a with
 | nan s f => cases b <;> simp [Ieee.Datum.quotient] at h
 | infinity s => cases b <;> simp [Ieee.Datum.quotient] at h; subst h; rfl
 | number s m i =>
  cases b with
  | nan t f => simp [Ieee.Datum.quotient] at h
  | infinity t => simp [Ieee.Datum.quotient] at h; subst h; rfl
  | number t k j =>
   simp only [Ieee.Datum.quotient] at h
   split at h
   ·
    split at h
    ·
     cases h
    cases h; rfl
   cases h; rfl
theorem jgE {op : BinOp} {x y r : Nat} (h : floatBits op .f64 x y = some r) : jb1 r = false := by
 have key : ∀ o : Option Ieee.Datum, (∀ d, o = some d -> d.isNaN = false) -> o.map Ieee.double.write = some r -> jb1 r = false := fun o ho hr => by
  cases o with
  | none => cases hr
  | some d => cases hr; exact jk8 d (ho d rfl)
 unfold floatBits at h
 split at h
 ·
  exact key _ (fun d hd => jeB hd) h
 ·
  exact key _ (fun d hd => jeB hd) h
 ·
  exact key _ (fun d hd => jfF hd) h
 ·
  exact key _ (fun d hd => jf0 hd) h
 cases h
def Fs (op : BinOp) (i j r : Nat) : Prop := floatBits op .f64 i j = some r ∨ (floatBits op .f64 i j = none /\ jb1 r = true)
theorem jfB : jb1 qnan = true := by decide
theorem jeR {x : Nat} (h : jb1 x = true) : cn x = qnan := by simp [cn, h]
theorem jdH {x : Nat} (h : jb1 x = false) : cn x = x := by simp [cn, h]
theorem jdA (x : Nat) : jb1 (cn x) = jb1 x := by
 cases h : jb1 x with
 | true => rw [jeR h, jfB]
 | false => rw [jdH h, h]
theorem cn_cn (x : Nat) : cn (cn x) = cn x := by
 cases h : jb1 x with
 | true => rw [jeR h, jeR jfB]
 | false => rw [jdH h, jdH h]
theorem Fs.cn {op : BinOp} {i j r : Nat} (h : Fs op i j r) : cn r = fop op i j := by
 rcases h with h | ⟨h, hn⟩
 ·
  rw [jdH (jgE h), fop, h]; rfl
 rw [jeR hn, fop, h]; rfl
theorem jkG {x : Nat} (h : jb1 x = true) : ∃ s f, Ieee.double.read x = .nan s f := by
 have h' : (Ieee.double.read x).isNaN = true := h
 cases hr : Ieee.double.read x with
 | nan s f => exact ⟨s, f, rfl⟩
 | number => rw [hr] at h'; cases h'
 | infinity => rw [hr] at h'; cases h'
theorem jeN {op : BinOp} {x y : Nat} (h : jb1 x = true) : floatBits op .f64 x y = none := by
 obtain ⟨s, f, hr⟩ := jkG h
 have hr' : FloatKind.f64.format.read x = .nan s f := hr
 unfold floatBits
 cases op <;> simp [Ieee.Format.add, Ieee.Format.sub, Ieee.Format.mul, Ieee.Format.div, hr', Ieee.Datum.sum, Ieee.Datum.product, Ieee.Datum.quotient]
theorem jg3 {op : BinOp} {x y : Nat} (h : jb1 y = true) : floatBits op .f64 x y = none := by
 obtain ⟨s, f, hr⟩ := jkG h
 have hr' : FloatKind.f64.format.read y = .nan s f := hr
 unfold floatBits
 cases op <;> simp only [Ieee.Format.add, Ieee.Format.sub, Ieee.Format.mul, Ieee.Format.div, hr', Ieee.Datum.opposite] <;> cases FloatKind.f64.format.read x <;> simp [Ieee.Datum.sum, Ieee.Datum.product, Ieee.Datum.quotient]
theorem fop_cn (op : BinOp) (x y : Nat) : fop op (cn x) (cn y) = fop op x y := by
 unfold fop
 cases hx : jb1 x with
 | true => rw [jeN (x := cn x) (by rw [jdA, hx]), jeN hx]
 | false =>
  rw [jdH hx]
  cases hy : jb1 y with
  | true => rw [jg3 (y := cn y) (by rw [jdA, hy]), jg3 hy]
  | false => rw [jdH hy]
theorem ja5 {op : BinOp} {x y x' y' : Nat} (hx : cn x = cn x') (hy : cn y = cn y') : fop op x y = fop op x' y' := by rw [<- fop_cn, hx, hy, fop_cn]
theorem jaL (op : BinOp) (x y : Nat) : cn (fop op x y) = fop op x y := by
 unfold fop
 cases h : floatBits op .f64 x y with
 | none => simp [jeR jfB]
 | some r => simp [jdH (jgE h)]
theorem jcM {x y : Nat} (h : jb1 x = true) : FloatKind.f64.format.order x y = none := by
 obtain ⟨s, f, hr⟩ := jkG h
 show (Ieee.double.read x).order (Ieee.double.read y) = none
 rw [hr]; simp [Ieee.Datum.order]
theorem jq4 {x y : Nat} (h : jb1 y = true) : FloatKind.f64.format.order x y = none := by
 obtain ⟨s, f, hr⟩ := jkG h
 show (Ieee.double.read x).order (Ieee.double.read y) = none
 rw [hr]; cases Ieee.double.read x <;> simp [Ieee.Datum.order]
theorem jr0 (x y : Nat) : FloatKind.f64.format.order (cn x) (cn y) = FloatKind.f64.format.order x y := by
 cases hx : jb1 x with
 | true => rw [jcM (x := cn x) (by rw [jdA, hx]), jcM hx]
 | false =>
  rw [jdH hx]
  cases hy : jb1 y with
  | true => rw [jq4 (y := cn y) (by rw [jdA, hy]), jq4 hy]
  | false => rw [jdH hy]
theorem jd5 {x y x' y' : Nat} (hx : cn x = cn x') (hy : cn y = cn y') : FloatKind.f64.format.order x y = FloatKind.f64.format.order x' y' := by rw [<- jr0, hx, hy, jr0]
theorem jq3 {x : Nat} (h : jb1 x = false) : FloatKind.f64.format.order x x = some .eq := by
 have h' : (Ieee.double.read x).isNaN = false := h
 show (Ieee.double.read x).order (Ieee.double.read x) = some .eq
 cases hr : Ieee.double.read x with
 | nan s f => rw [hr] at h'; cases h'
 | infinity s => simp [Ieee.Datum.order]
 | number s m i => simp [Ieee.Datum.order]

section
variable {P : Program} {n : Nat} {Q : jeG} {e : Env} {w w0 : World} {L : List (Nat × Obj)} {ops : Array Oper} {rest : List Oper} {t : TypeId} {p : String} {af : Array Edge} {d : Nat}
end
def aD (a : Option Addr) : Addr := a.getD ⟨0, 0, none⟩
def SlC (w : World) (a : Option Addr) (cs : List Value) : Prop := (0 < cs.length -> a = some (aD a)) /\ jbF w (aD a) cs
theorem SlC.old {w0 w : World} {L : List (Nat × Obj)} {a : Option Addr} {cs : List Value} (h : SlC w0 a cs) (hs : HS w0 w L) (ho : Own w0 L) : SlC w a cs :=
 ⟨h.1, fun j v hv => hs.oldcell (h.2 j v hv) (ho.notin (World.block_lt_of_cell? w0 _ (h.2 j v hv)))⟩
theorem SlC.of_row {w : World} {g : Nat} {T : TypeId} {xs sp : List Value} (h : w.heap[g]? = some (Row T (xs ++ sp))) : SlC w (some ⟨g, 0, none⟩) xs :=
 ⟨fun _ => rfl, fun j v hv => by
  show w.cell? ((Addr.mk g 0 none).add j) = some v
  rw [jaM]
  exact cell_of_row h (by rw [List.getElem?_append_left (List.getElem?_eq_some_iff.1 hv).1]; exact hv)⟩
theorem SlC.of_bl {w0 w : World} {E : TypeId} {sz : Nat} {v : Value} {n : Nat} {xs : List Value} {L M : List (Nat × Obj)} (h : Bl w0 E sz v n xs M) (hs : HS w0 w (L ++ M)) : ∃ a c, v = .slice a n c /\ SlC w a xs := by
 cases h with
 | nil => exact ⟨none, 0, rfl, by simp, fun j v hv => by simp at hv⟩
 | @row g n cap xs sp hg hx hc hn => exact ⟨_, _, rfl, SlC.of_row (hs.get (i := L.length) (o := Row E (xs ++ sp)) (by simp))⟩
theorem SlC.get {w : World} {a : Option Addr} {cs : List Value} (h : SlC w a cs) {j : Nat} {v : Value} (hv : cs[j]? = some v) : w.cell? ((aD a).add j) = some v := h.2 j v hv
theorem SlC.ao {w : World} {a : Option Addr} {cs : List Value} (h : SlC w a cs) (hn : 0 < cs.length) : a = some (aD a) := h.1 hn
theorem jkC {P : Program} {w : World} {T E ty : TypeId} {z : Value} {sz b : Nat} {a ao : Option Addr} {k cap c : Nat} (hT : P.underlying T = some (.slice E)) (hi : TI P E z sz b) (hk : k <= cap) :
  (Builtin.append_ #[T, T] ty #[.slice a k cap, .slice ao 0 c]).run P w = .ok (.slice a k cap) w := by
 obtain ⟨i, hi1, _⟩ := hi.ex
 have hl : ∀ x, (loadCells x 0).run P w = .ok #[] w := fun x => by simpa using run_loadCells_list (P := P) w x [] (by simp)
 cases a <;> cases ao <;> simp [Builtin.append_, run_underlying hT, sizeOf, typeInfo, hi1, Builtin.lenOf, Builtin.firstCells, hk, storeCells, hl]
section
variable {P : Program} {n : Nat} {Q : jeG} {e : Env} {w w0 : World} {L : List (Nat × Obj)} {ops : Array Oper} {rest : List Oper} {t : TypeId} {p : String} {af : Array Edge}
theorem L_appendS {d : Nat} (hd : Nat.blt d n = true) {T E : TypeId} {x y : Operand} {z : Value} {sz b : Nat} {v : Value} {k : Nat} {xs : List Value} {M : List (Nat × Obj)}
  (hT : P.underlying T = some (.slice E)) (hi : TI P E z sz b) (hz : z.cells.size = sz) (hsz : 0 < sz) (hs : HS w0 w (L ++ M)) (hb : Bl w0 E sz v k xs M) (hx : jaD e x = some v)
  {ao : Option Addr} {m c : Nat} {news : List Value} (hy : jaD e y = some (.slice ao m c)) (hl : news.length = m * sz) (hsl : SlC w ao news) (h1 : ∀ u ∈ news, u.oneCell' = true)
  (h63 : k + m <= 9223372036854775807) (hbytes : (k + m) * b <= 140737488355328)
  (h : ∀ v' w' M', HS w0 w' (L ++ M') -> Bl w0 E sz v' (k + m) (xs ++ news) M' -> RL P n ops rest Q ((d, v') :: e) w') :
  RL P n ops (Oper.mk (some d) (.call { callee := .builtin .append, args := #[x, y], argTypes := #[T, T] }) t p af none :: rest) Q e w := by
 rcases Nat.eq_zero_or_pos m with rfl | hm
 ·
  have hn : news = [] := List.eq_nil_of_length_eq_zero (by simpa using hl)
  subst hn
  obtain ⟨a, cap, rfl, hk⟩ := hb.slice
  have hr := jkC (P := P) (w := w) (ty := t) (a := a) (ao := ao) (c := c) hT hi hk
  exact jaT hd (v := .slice a k cap) (w' := w) (fun ac ha => by simp [execOp, ha.eval hx, ha.eval hy, resolve, invoke, builtin, hr]) (h _ w M hs (by simpa using hb))
 have hp : 0 < news.length := by rw [hl]; exact Nat.mul_pos hm hsz
 have hao := hsl.ao hp
 exact jn7 (ad := aD ao) (c := c) hd hT hi hz hs hb hx (by rw [hy]; exact congrArg (fun z => some (Value.slice z m c)) hao) hl hsl.2 h1 h63 hbytes h
end
def slA (a : Option Addr) (l c sz : Nat) : Option Addr := if c = l then a else a.map (·.add (l * sz))
section
variable {P : Program} {n : Nat} {Q : jeG} {e : Env} {w w0 : World} {L : List (Nat × Obj)} {ops : Array Oper} {rest : List Oper} {t : TypeId} {p : String} {af : Array Edge} {d : Nat}
theorem jnH (P : Program) (w : World) {T E : TypeId} {z : Value} {sz b : Nat} (hT : P.underlying T = some (.slice E)) (hi : TI P E z sz b) (a : Option Addr) (len cap : Nat) (lo hi' mx : Option Value) (l h m : Nat)
  (hm : mx = none /\ m = cap ∨ ∃ k, mx = some (.int k (m : Int))) (hh : hi' = none /\ h = len /\ mx = none ∨ ∃ k, hi' = some (.int k (h : Int))) (hl : lo = none /\ l = 0 ∨ ∃ k, lo = some (.int k (l : Int))) (h1 : l <= h) (h2 : h <= m) (h3 : m <= cap) :
  (Instr.sliceAt T (.slice a len cap) lo hi' mx).run P w = .ok (.slice (slA a l m sz) (h - l) (m - l)) w := by
 have q1 : (l : Int) <= (h : Int) := by omega
 have q2 : (h : Int) <= (m : Int) := by omega
 have q3 : (m : Int) <= (cap : Int) := by omega
 have q4 : (h : Int) <= (cap : Int) := by omega
 rcases hm with ⟨rfl, rfl⟩ | ⟨km, rfl⟩ <;> rcases hh with ⟨rfl, rfl, hx⟩ | ⟨kh, rfl⟩ <;> rcases hl with ⟨rfl, rfl⟩ | ⟨kl, rfl⟩ <;>
  simp_all [Instr.sliceAt, Instr.slice, run_underlying hT, Instr.sliceBounds, Instr.sliceBound, asIntOf, hi.sizeOf, slA]
theorem jgH {T E : TypeId} {x y : Operand} {a : Option Addr} {len cap h : Nat} {k : IntKind} {i : Int} {z : Value} {sz b : Nat} (hT : P.underlying T = some (.slice E)) (hi : TI P E z sz b) (hx : jaD e x = some (.slice a len cap)) (hy : jaD e y = some (.int k i)) (hh : i = (h : Int)) (h1 : h <= cap) :
  ∀ act, Kn n act e -> (execOp act.eval (Oper.mk (some d) (.slice T x none (some y) none) t p af none)).run P w = .ok (.value (.slice a h cap)) w := fun ac ha => by
 subst hh
 have := jnH P w hT hi a len cap none (some (.int k (h : Int))) none 0 h cap (.inl ⟨rfl, rfl⟩) (.inr ⟨k, rfl⟩) (.inl ⟨rfl, rfl⟩) (by omega) h1 (Nat.le_refl _)
 have e1 : slA a 0 cap sz = a := by unfold slA; split <;> cases a <;> simp [Addr.add_zero']
 rw [e1] at this
 simp [execOp, ha.eval hx, ha.eval hy, this]
theorem jgG {T E : TypeId} {x y : Operand} {a : Option Addr} {len cap l : Nat} {k : IntKind} {i : Int} {z : Value} {sz b : Nat} (hT : P.underlying T = some (.slice E)) (hi : TI P E z sz b) (hx : jaD e x = some (.slice a len cap)) (hy : jaD e y = some (.int k i)) (hl : i = (l : Int)) (h1 : l <= len /\ len <= cap) :
  ∀ act, Kn n act e -> (execOp act.eval (Oper.mk (some d) (.slice T x (some y) none none) t p af none)).run P w = .ok (.value (.slice (slA a l cap sz) (len - l) (cap - l))) w := fun ac ha => by
 subst hl
 have := jnH P w hT hi a len cap (some (.int k (l : Int))) none none l len cap (.inl ⟨rfl, rfl⟩) (.inl ⟨rfl, rfl, rfl⟩) (.inr ⟨k, rfl⟩) h1.1 h1.2 (Nat.le_refl _)
 simp [execOp, ha.eval hx, ha.eval hy, this]
theorem R_slice111 {T E : TypeId} {x y u v : Operand} {a : Option Addr} {len cap l h m : Nat} {k k' k'' : IntKind} {i j q : Int} {z : Value} {sz b : Nat} (hT : P.underlying T = some (.slice E)) (hi : TI P E z sz b) (hx : jaD e x = some (.slice a len cap)) (hy : jaD e y = some (.int k i)) (hu : jaD e u = some (.int k' j)) (hv : jaD e v = some (.int k'' q)) (hl : i = (l : Int)) (hh : j = (h : Int)) (hm : q = (m : Int)) (h1 : l <= h /\ h <= m /\ m <= cap) :
  ∀ act, Kn n act e -> (execOp act.eval (Oper.mk (some d) (.slice T x (some y) (some u) (some v)) t p af none)).run P w = .ok (.value (.slice (slA a l m sz) (h - l) (m - l))) w := fun ac ha => by
 subst hl hh hm
 have := jnH P w hT hi a len cap (some (.int k (l : Int))) (some (.int k' (h : Int))) (some (.int k'' (m : Int))) l h m (.inr ⟨k'', rfl⟩) (.inr ⟨k', rfl⟩) (.inr ⟨k, rfl⟩) h1.1 h1.2.1 h1.2.2
 simp [execOp, ha.eval hx, ha.eval hy, ha.eval hu, ha.eval hv, this]
end
def put1 (pl : List (Nat × Nat)) : List Value -> List (Nat × Value) -> Option (List Value)
 | cs, [] => some cs
 | cs, (i, v) :: l => match pl[i]? with
  | some (off, sz) => match v.oneCell', Nat.beq sz 1, Nat.blt off cs.length with
   | true, true, true => put1 pl (cs.set off v) l
   | _, _, _ => none
  | none => none
theorem one_cells {v : Value} (h : v.oneCell' = true) : v.cells = #[v] := by cases v <;> simp [Value.oneCell'] at h <;> rfl
theorem fill_put1 (pl : List (Nat × Nat)) : ∀ (l : List (Nat × Value)) (cs r : List Value), put1 pl cs l = some r -> Instr.fill (pl.toArray[·]?) cs.toArray l = some r.toArray
 | [], cs, r, h => by simp [put1] at h; subst h; simp [Instr.fill]
 | (i, v) :: l, cs, r, h => by
  simp only [put1] at h
  cases hp : pl[i]? with
  | none => rw [hp] at h; cases h
  | some q =>
   obtain ⟨off, sz⟩ := q
   rw [hp] at h
   dsimp only at h
   split at h
   case h_2 => cases h
   case h_1 h1 h2 h3 =>
    have h2' : sz = 1 := Nat.eq_of_beq_eq_true h2
    have h3' : off < cs.length := by simpa [Nat.blt_eq] using h3
    subst h2'
    have ih := fill_put1 pl l (cs.set off v) r h
    have h5 : pl.toArray[i]? = some (off, 1) := by simpa using hp
    have h6 : (#[v].zipIdx.foldl (fun (cs : Array Value) (x : Value × Nat) => match x with | (c, j) => cs.setIfInBounds (off + j) c) cs.toArray) = (cs.set off v).toArray := by simp
    simp only [Instr.fill, one_cells h1, h5]
    rw [if_neg (by simp; omega), h6]
    exact ih
structure Pl (P : Program) (T : TypeId) (z : List Value) (pl : List (Nat × Nat)) : Prop where
 ex : ∃ i fs, P.info? T = some i /\ i.zero = some (.agg z.toArray) /\ P.underlying T = some (.struct fs) /\ fs.toList.mapM (fun f => (P.info? f.type).map fun i => (f.offset, i.size)) = some pl
theorem Pl.of {P : Program} {T : TypeId} {z : List Value} {pl : List (Nat × Nat)} {fs : Array Field} (h1 : (P.info? T).map (·.zero) = some (some (.agg z.toArray))) (h2 : P.underlying T = some (.struct fs)) (h3 : fs.toList.mapM (fun f => (P.info? f.type).map fun i => (f.offset, i.size)) = some pl) : Pl P T z pl := by
 cases h : P.info? T with
 | none => rw [h] at h1; cases h1
 | some i => rw [h] at h1; exact ⟨i, fs, h, by simpa using h1, h2, h3⟩
theorem Pl.built {P : Program} {T : TypeId} {z : List Value} {pl : List (Nat × Nat)} (h : Pl P T z pl) {l : List (Nat × Value)} {r : List Value} (hr : put1 pl z l = some r) : P.built T l = some r.toArray := by
 obtain ⟨i, fs, h1, h2, h3, h4⟩ := h.ex
 unfold Program.built
 rw [h1, h3]
 dsimp only
 rw [h2, h4]
 exact fill_put1 pl l z r hr
structure Ext (P : Program) (f : FuncId) (E : Array Value -> Sem Value) : Prop where
 ex : ∃ fn, P.funcs[f]? = some fn /\ (fn.name == "runtime.NumGoroutine") = false /\ fn.body.isNone = true /\ Extern.findNext fn = none /\ Extern.find fn = some E
theorem Ext.run {P : Program} {f : FuncId} {E : Array Value -> Sem Value} (h : Ext P f E) (args : Array Value) (w : World) : (callFunc f args).run P w = ((E args).run P w).andThen fun v w' => .ok (.value v) w' := by
 obtain ⟨fn, h1, h2, h3, h4, h5⟩ := h.ex
 exact run_callFunc_extern h1 h2 h3 h4 h5 args w
def fmax (x y : Nat) : Nat := match FloatKind.f64.format.order x y with
 | none => qnan
 | some .lt => y
 | some .gt => x
 | some .eq => if (FloatKind.f64.decode x).neg then y else x
def fmin (x y : Nat) : Nat := match FloatKind.f64.format.order x y with
 | none => qnan
 | some .lt => x
 | some .gt => y
 | some .eq => if (FloatKind.f64.decode x).neg then x else y
section
variable {P : Program} {n : Nat} {Q : jeG} {e : Env} {w w0 : World} {L : List (Nat × Obj)} {ops : Array Oper} {rest : List Oper} {t : TypeId} {p : String} {af : Array Edge} {d : Nat}
theorem jhA {f : FuncId} {x : Operand} {b : Nat} {ats : Array TypeId} (hf : Ext P f Extern.MathFloatBits.float64bits) (hx : jaD e x = some (.float .f64 b)) :
  ∀ act, Kn n act e -> (execOp act.eval (Oper.mk (some d) (.call { callee := .value (.func f), args := #[x], argTypes := ats }) t p af none)).run P w = .ok (.value (.int .u64 b)) w := fun a ha => by
 have he : (execOp a.eval (Oper.mk (some d) (.call { callee := .value (.func f), args := #[x], argTypes := ats }) t p af none)).run P w = ((Extern.MathFloatBits.float64bits #[a.eval x]).run P w).andThen fun v w' => .ok (.value v) w' := by
  simp [execOp, resolve, Act.eval, Deferred.ofValue, invoke, hf.run]
 rw [he, ha.eval hx]
 rfl
theorem jh9 {f : FuncId} {x : Operand} {b : Nat} {ats : Array TypeId} (hf : Ext P f Extern.MathFloatBits.float64frombits) (hx : jaD e x = some (.int .u64 (b : Int))) :
  ∀ act, Kn n act e -> (execOp act.eval (Oper.mk (some d) (.call { callee := .value (.func f), args := #[x], argTypes := ats }) t p af none)).run P w = .ok (.value (.float .f64 b)) w := fun a ha => by
 have he : (execOp a.eval (Oper.mk (some d) (.call { callee := .value (.func f), args := #[x], argTypes := ats }) t p af none)).run P w = ((Extern.MathFloatBits.float64frombits #[a.eval x]).run P w).andThen fun v w' => .ok (.value v) w' := by
  simp [execOp, resolve, Act.eval, Deferred.ofValue, invoke, hf.run]
 rw [he, ha.eval hx]
 rfl
theorem R_maxI {ty : TypeId} {x y : Operand} {k k' : IntKind} {i j c : Int} {ats : Array TypeId} (hx : jaD e x = some (.int k i)) (hy : jaD e y = some (.int k' j)) (hc : (if j > i then j else i) = c) :
  ∀ act, Kn n act e -> (execOp act.eval (Oper.mk (some d) (.call { callee := .builtin .max, args := #[x, y], argTypes := ats }) ty p af none)).run P w = .ok (.value (.int k c)) w := fun a ha => by
 subst hc
 simp [execOp, ha.eval hx, ha.eval hy, resolve, invoke, builtin, run_max_int2]
end
section
variable {P : Program} {n : Nat} {Q : jeG} {e : Env} {w : World} {ops : Array Oper} {rest : List Oper} {t : TypeId} {p : String} {af : Array Edge} {K : Act -> Prop} {C : World -> Prop} {S : FuncId -> Array Value -> Value -> Prop}
theorem jf9 {d : Nat} {op : Op} {j d' : Nat} {c : Bool} (hd : Nat.blt d n = true) (hj : (ops[j]?).bind (·.dst) = some d') (hl : look e d' = some undef)
  (h : HL P n ops C S K rest ((d, undef) :: e)) : HL P n ops C S K (Oper.mk (some d) op t p af (some (j, c)) :: rest) e := by
 intro a ha
 have hy : yielded ops a.tmps j = none := by simp [yielded, hj, ha.2.2 d' _ hl, undef]
 have hw : Region.wanted (Oper.mk (some d) op t p af (some (j, c))) (yielded ops a.tmps) = false := by simp [Region.wanted, hy]
 refine ⟨fun hx => (by rw [hw] at hx; cases hx), fun v hv => ?_⟩
 rcases hv with ⟨hx, _⟩ | ⟨_, rfl⟩
 ·
  rw [hw] at hx; cases hx
 exact h _ (ha.put hd undef)
end
theorem HS.callU {w0 w w' : World} {A U L2 N : List (Nat × Obj)} (h : HS w0 w (A ++ L2)) (hk : A.map (·.1) = U.map (·.1)) (h' : HS w w' (U ++ N)) (hN : Own w N) : HS w0 w' ((U ++ L2) ++ N) := by
 have hd : ∀ p ∈ A ++ L2, p.1 ∉ N.map (·.1) := fun p hp => hN.notin (h.lt' hp)
 have hnd := h.nodup
 rw [List.map_append, hk, List.nodup_append] at hnd
 have hnd' := h'.nodup
 rw [List.map_append, List.nodup_append] at hnd'
 refine h.trans h' (fun p hp => ?_) ?_ (fun b hb hb' => ?_)
 ·
  rcases List.mem_append.1 hp with h1 | h1
  ·
   rcases List.mem_append.1 h1 with h2 | h2
   ·
    exact .inl (List.mem_append_left _ h2)
   refine .inr ⟨List.mem_append_right _ h2, ?_⟩
   rw [List.map_append, List.mem_append, not_or]
   refine ⟨fun hm => ?_, hd p (List.mem_append_right _ h2)⟩
   exact hnd.2.2 _ hm _ (List.mem_map.2 ⟨p, h2, rfl⟩) rfl
  exact .inl (List.mem_append_right _ h1)
 ·
  rw [List.map_append, List.map_append, List.nodup_append, List.nodup_append]
  refine ⟨⟨hnd.1, hnd.2.1, hnd.2.2⟩, hnd'.2.1, fun a ha b hb hab => ?_⟩
  rw [List.mem_append] at ha
  rcases ha with h1 | h1
  ·
   exact hnd'.2.2 a h1 b hb hab
  obtain ⟨p, hp, rfl⟩ := List.mem_map.1 h1
  exact hd p (List.mem_append_right _ hp) (hab ▸ hb)
 rw [List.map_append, List.map_append, List.mem_append, List.mem_append, not_or, not_or] at hb'
 rw [List.map_append, List.map_append, List.mem_append, List.mem_append, not_or, not_or, hk]
 exact ⟨⟨hb'.1.1, hb'.1.2⟩, hb'.1.1, hb'.2⟩
theorem block_add (a : Addr) (n : Nat) : (a.add n).block = a.block := by unfold Addr.add; split <;> rfl
theorem HS.named {w : World} {L : List (Nat × Obj)} (h : ∀ p ∈ L, w.heap[p.1]? = some p.2) (hn : (L.map (·.1)).Nodup) : HS w w L := ⟨Nat.le_refl _, h, hn, fun _ _ _ => rfl, rfl, rfl, rfl⟩
section
variable {P : Program} {n : Nat} {e : Env} {w : World} {t : TypeId} {p : String} {af : Array Edge} {d : Nat}
theorem R_beql {T T' : TypeId} {x y : Operand} {a b : Bool} (hT : P.underlying T = some .bool) (hx : jaD e x = some (.bool a)) (hy : jaD e y = some (.bool b)) :
  ∀ act, Kn n act e -> (execOp act.eval (Oper.mk (some d) (.binOp .eql T x y T') t p af none)).run P w = .ok (.value (.bool (a == b))) w :=
 jhR hx hy (fun _ _ => eqGuard_at_bool ..) (run_eql_bool w _ _ _ hT)
end
end Go.Lk

namespace Go.Lk
open Go Go.ChangeShapes Go.WideShapes Go.ChangeAt Go.RowKit
theorem HS.below {w0 w : World} (h : HS w0 w []) : Below w0.heap.size w0 w := ⟨h.env.1, h.env.2.1, h.env.2.2, h.size, fun k hk => h.kept k hk (by simp)⟩
theorem jkA {H : Type} {enc : TypeId × Value -> H} {P : Program} (hl : laidOutB P = true) {W W' : World} (hb : Below W.heap.size W W') : ∀ {ts : List TypeId} {vs : List Value} {ds : List (DataW H)} {ps : List MemPlace},
  ts.all (fun t => P.readableRec t && decide (t < P.types.size)) = true -> DataW.TrodAll enc P W 0 (fun _ => true) true ts vs ds ps -> (∀ x ∈ ps, x.block < W.heap.size) -> DataW.TrodAll enc P W' 0 (fun b => decide (b < W.heap.size)) true ts vs ds ps
 | [], [], [], _, _, h, _ => h
 | [], _ :: _, _, _, _, h, _ => h.elim
 | [], [], _ :: _, _, _, h, _ => h.elim
 | _ :: _, [], _, _, _, h, _ => h.elim
 | _ :: _, _ :: _, [], _, _, h, _ => h.elim
 | t :: ts, v :: vs, d :: ds, ps, ht, ⟨p, q, h1, h2, e⟩, hlt => by
  simp only [List.all_cons, Bool.and_eq_true, decide_eq_true_eq] at ht
  subst e
  exact ⟨p, q, Below.trod hl ht.1.1 ht.1.2 h1 hb (fun x hx => hlt x (by simp [hx])), jkA hl hb (by simpa using ht.2) h2 (fun x hx => hlt x (by simp [hx])), rfl⟩
theorem law_calls {H : Type} {enc : TypeId × Value -> H} {P : Program} {f : FuncId} {fn : Func} {s : ChangeSpec} {apart fresh handsOn : Bool} {W : World} {args : Array Value} {ds gs : List (DataW H)} {before : List MemPlace} {rt : TypeId}
  (hl : laidOutB P = true) (hts : fn.params.toList.all (fun t => P.readableRec t && decide (t < P.types.size)) = true) (hvs : s.vars = []) (hrt : fn.resultTypes = #[rt]) (hb : P.underlying rt = some .bool)
  (hW : DataW.Whole enc P fn.params.toList s.vars apart W args.toList ds gs before) (hfn : s.fn H ds = { results := [.lit (.bool true)], args := ds })
  (hc : Ret P f args.toList W fun v w' => v = .bool true /\ HS W w' []) : Calls P f args W fun e W' => ∃ v, e = .returned v /\ s.post enc P fn apart fresh handsOn false W args v W' := by
 have hc' : Calls P f args W fun e W' => ∃ v, e = .returned v /\ v = .bool true /\ HS W W' [] := by simpa [Ret] using hc
 refine Calls.mono hc' fun e W' hR => ?_
 obtain ⟨v, rfl, rfl, hs⟩ := hR
 have hW' := hW
 obtain ⟨p, q, hA, hV, rfl, hfz, hnd⟩ := hW
 rw [hvs] at hV
 obtain ⟨rfl, rfl⟩ := trodVars_none hV
 rw [<- List.append_nil ds] at hfn
 have hbl := hs.below
 refine ⟨_, rfl, ds, [], p ++ [], [], p, [], hW', ?_, ?_, ?_, hbl.frame _, fun h => by cases h⟩
 ·
  rw [hfn, hrt]
  exact trodAll_mk1 ⟨1, by simp [DataW.trod, Value.cells, hb]⟩
 ·
  rw [hfn]
  simp only [List.append_nil]
  exact jkA hl hbl hts hA (fun x hx => hW'.lt x (by simp [hx]))
 rw [hvs]
 rw [hfn]
 trivial
end Go.Lk

namespace Go.Lk
open Go
def QF (K : Act -> World -> Prop) : jeG := fun ex a w => ex = .normal /\ K a w
theorem jpW {P : Program} {n : Nat} {ops : Array Oper} {i : Nat} {o : Oper} {Q : jeG} {K : Act -> World -> Prop} {E : Env} {a : Act} {w : World} (hi : ops[i]? = some o) (hg : o.guard = none) (ha : Kn n a E) (h : RL P n ops [o] (QF K) E w) : wpOp P ops Q i K a w := by
 have h1 := h a ha
 have hw : Region.wanted o (yielded ops a.tmps) = true := by simp [Region.wanted, hg]
 simp only [wpList, hw, if_true] at h1
 unfold wpOp
 simp only [hi, hw, if_true]
 have hno : ¬ LetsOut (QF K) := fun ⟨_, _, h5⟩ => by cases h5.1
 rcases h1 with h1 | ⟨_, h1⟩
 ·
  left
  have h2 : o.wp P a w K (QF K) := Oper.wp_mono (fun a' w' h3 => h3.2) h1
  unfold Oper.wp at h2 ⊢
  generalize (execOp a.eval o).run P w = r at h2 ⊢
  cases r with
  | halt x w' =>
   cases x <;> first | exact h2 | (exact absurd h2.1 (by simp)) | (cases h2)
  | ok nx w' =>
   cases nx with
   | enter f args =>
    refine Calls.mono h2 fun e w'' he => ?_
    cases e with
    | returned v => exact he
    | panicked c => cases he.1
    | outgrown => exact absurd he hno
   | _ => exact h2
 exact absurd h1 hno
theorem jmG {α β : Type} {f g : α -> List β} {l : List α} (h : ∀ x ∈ l, f x = g x) : l.flatMap f = l.flatMap g := by
 induction l with
 | nil => rfl
 | cons x l ih => simp [h x (by simp), ih (fun y hy => h y (by simp [hy]))]
structure RIn (n : Nat) (l : List Oper) (e0 : Env) (w0 : World) (L : List (Nat × Obj)) (Φ : Nat -> Value -> List (Nat × Obj) -> Prop) (cons : Nat -> List Nat) (listed : Array Bool) (a : Act) (w : World) (V : Nat -> Value) (M : Nat -> List (Nat × Obj)) (E : Env) (own : List Nat) : Prop where
 kn : Kn n a E
 old : ∀ d v, look e0 d = some v -> (∀ (k : Nat) (o : Oper), l[k]? = some o -> o.dst ≠ some d) -> look E d = some v
 new : ∀ (k : Nat) (o : Oper) (d : Nat), l[k]? = some o -> o.dst = some d -> listed.getD k false = true -> look E d = some (V k)
 fact : ∀ k, listed.getD k false = true -> Φ k (V k) (M k) /\ Own w0 (M k)
 hs : HS w0 w (L ++ own.flatMap M)
 nodup : own.Nodup
 closed : ∀ (j : Nat) (o : Oper), l[j]? = some o -> listed.getD j false = true -> ∀ e ∈ o.after, Region.binds .any e = true -> listed.getD e.on false = true
 ownd : ∀ k, k ∈ own ↔ (k < l.length /\ listed.getD k false = true /\ ∀ j, j < l.length -> listed.getD j false = true -> k ∉ cons j)
def RInv (n : Nat) (l : List Oper) (e0 : Env) (w0 : World) (L : List (Nat × Obj)) (Φ : Nat -> Value -> List (Nat × Obj) -> Prop) (cons : Nat -> List Nat) (listed : Array Bool) (a : Act) (w : World) : Prop :=
 listed.size = l.length /\ ∃ V M E own, RIn n l e0 w0 L Φ cons listed a w V M E own
def chkR (l : List Oper) (n : Nat) (deps cons : Nat -> List Nat) : Bool :=
 (List.range l.length).all (fun i => match l[i]? with
  | none => false
  | some o => o.guard.isNone && (match o.dst with | none => false | some d => Nat.blt d n && (List.range l.length).all (fun j => j == i || (match l[j]? with | none => true | some o' => o'.dst != some d))) &&
    o.after.all (fun e => !Region.binds .any e || decide (e.on < i)) && (deps i).all (fun k => o.after.any fun e => Region.binds .any e && e.on == k) && (cons i).all (fun k => (deps i).contains k) &&
    (List.range l.length).all (fun j => j == i || (cons j).all fun k => !(cons i).contains k) && decide ((cons i).Nodup))
theorem W_any {P : Program} {n : Nat} {id : Nat} {l : List Oper} {Q : jeG} {e0 : Env} {w0 w : World} {L : List (Nat × Obj)} (Φ : Nat -> Value -> List (Nat × Obj) -> Prop) (deps cons : Nat -> List Nat)
  (hm : P.follows .mixedOrders = true) (hB : chkR l n deps cons = true) (hs : HS w0 w L)
  (hop : ∀ (i : Nat) (o : Oper) (d : Nat), l[i]? = some o -> o.dst = some d -> ∀ (V : Nat -> Value) (M : Nat -> List (Nat × Obj)) (E : Env) (R : List (Nat × Obj)) (w : World) (Q' : jeG),
   (∀ k ∈ deps i, Φ k (V k) (M k) /\ Own w0 (M k)) -> (∀ k ∈ deps i, ∀ (o' : Oper) d', l[k]? = some o' -> o'.dst = some d' -> look E d' = some (V k)) -> (∀ d v, look e0 d = some v -> (∀ (k : Nat) (o : Oper), l[k]? = some o -> o.dst ≠ some d) -> look E d = some v) -> Own w0 R ->
   HS w0 w ((L ++ R) ++ (cons i).flatMap M) -> (∀ v m w', Φ i v m -> Own w0 m -> HS w0 w' ((L ++ R) ++ m) -> RL P n l.toArray [] Q' ((d, v) :: E) w') -> RL P n l.toArray [o] Q' E w)
  (hend : ∀ (V : Nat -> Value) (M : Nat -> List (Nat × Obj)) (own : List Nat) (w : World), (∀ k, k < l.length -> Φ k (V k) (M k) /\ Own w0 (M k)) -> HS w0 w (L ++ own.flatMap M) -> (∀ k, k ∈ own ↔ (k < l.length /\ ∀ j, j < l.length -> k ∉ cons j)) -> own.Nodup ->
   ∀ E, (∀ d v, look e0 d = some v -> (∀ (k : Nat) (o : Oper), l[k]? = some o -> o.dst ≠ some d) -> look E d = some v) -> (∀ (k : Nat) (o : Oper) (d : Nat), l[k]? = some o -> o.dst = some d -> look E d = some (V k)) -> Nx n Q E w) : W P n (.region id l.toArray true) Q e0 w := by
 have hB' : ∀ (i : Nat) (o : Oper), l[i]? = some o -> o.guard = none /\ (∃ d, o.dst = some d /\ Nat.blt d n = true /\ ∀ (j : Nat) (o' : Oper), l[j]? = some o' -> j ≠ i -> o'.dst ≠ some d) /\ (∀ e ∈ o.after, Region.binds .any e = true -> e.on < i) /\ (∀ k ∈ deps i, ∃ e ∈ o.after, Region.binds .any e = true /\ e.on = k) /\ (∀ k ∈ cons i, k ∈ deps i) /\ (∀ j, j < l.length -> j ≠ i -> ∀ k ∈ cons j, k ∉ cons i) /\ (cons i).Nodup := by
  intro i o hi
  have hlt : i < l.length := (List.getElem?_eq_some_iff.1 hi).1
  have h := List.all_eq_true.1 hB i (List.mem_range.2 hlt)
  rw [hi] at h
  simp only [Bool.and_eq_true, decide_eq_true_eq] at h
  obtain ⟨⟨⟨⟨⟨⟨h1, h2⟩, h3⟩, h4⟩, h5⟩, h6⟩, h7⟩ := h
  refine ⟨by simpa using h1, ?_, ?_, ?_, ?_, ?_, h7⟩
  ·
   cases hd : o.dst with
   | none => rw [hd] at h2; cases h2
   | some d =>
    rw [hd] at h2
    simp only [Bool.and_eq_true] at h2
    refine ⟨d, rfl, h2.1, fun j o' hj hne hd' => ?_⟩
    have h8 := List.all_eq_true.1 h2.2 j (List.mem_range.2 (List.getElem?_eq_some_iff.1 hj).1)
    rw [hj] at h8
    simp [hne, hd'] at h8
  ·
   intro e he hb
   have h8 := Array.all_eq_true_iff_forall_mem.1 h3 e he
   simpa [hb] using h8
  ·
   intro k hk
   have h8 := List.all_eq_true.1 h4 k hk
   obtain ⟨e, he, hb⟩ := Array.any_eq_true'.1 h8
   simp only [Bool.and_eq_true, beq_iff_eq] at hb
   exact ⟨e, he, hb.1, hb.2⟩
  ·
   intro k hk
   have h8 := List.all_eq_true.1 h5 k hk
   simpa using h8
  intro j hj hne k hk
  have h8 := List.all_eq_true.1 h6 j (List.mem_range.2 hj)
  simp only [Bool.or_eq_true, beq_iff_eq, hne, false_or] at h8
  have h9 := List.all_eq_true.1 h8 k hk
  simpa using h9
 intro a ha
 refine wp_region_any hm ?_
 -- the rounds
 have key : ∀ (f : Nat) (listed : Array Bool) (a : Act) (w : World), RInv n l e0 w0 L Φ cons listed a w -> (listed.toList.count false) = f -> wpAny P .any l.toArray Q f listed a w := by
  intro f
  induction f with
  | zero =>
   intro listed a w hI hc
   obtain ⟨hsz, V, M, E, own, h⟩ := hI
   have hall : ∀ k, k < l.length -> listed.getD k false = true := by
    intro k hk
    have hk' : k < listed.toList.length := by simpa [hsz] using hk
    cases hb : listed.getD k false with
    | true => rfl
    | false =>
     exfalso
     have h1 : listed.toList[k] = false := by
      have : listed[k]'(by omega) = false := by simpa [Array.getD, show k < listed.size by omega] using hb
      simpa using this
     have h2 : false ∈ listed.toList := h1 ▸ List.getElem_mem hk'
     have := List.count_pos_iff.2 h2
     omega
   refine ⟨?_, ?_⟩
   ·
    refine List.eq_nil_iff_forall_not_mem.2 fun j hj => ?_
    obtain ⟨h1, o, ho, _⟩ := mem_ready.1 hj
    have hj' : j < l.length := by
     have := (Array.getElem?_eq_some_iff.1 ho).1
     simpa using this
    have := hall j hj'
    rw [getD_both h1] at this
    cases this
   refine hend V M own w (fun k hk => h.fact k (hall k hk)) h.hs (fun k => ?_) h.nodup E h.old (fun k o d hk hd => h.new k o d hk hd (hall k (List.getElem?_eq_some_iff.1 hk).1)) a h.kn
   rw [h.ownd]
   exact ⟨fun ⟨h1, _, h3⟩ => ⟨h1, fun j hj => h3 j hj (hall j hj)⟩, fun ⟨h1, h3⟩ => ⟨h1, hall k h1, fun j hj _ => h3 j hj⟩⟩
  | succ f ih =>
   intro listed a w hI hc
   obtain ⟨hsz, V, M, E, own, h⟩ := hI
   refine ⟨fun h0 => ?_, fun i hi => ?_⟩
   ·
    -- some operation is ready
    exfalso
    have hmem : false ∈ listed.toList := List.count_pos_iff.1 (by omega)
    obtain ⟨k, hk⟩ := List.getElem?_of_mem hmem
    have hex : ∃ k, k < l.length /\ listed.getD k true = false := ⟨k, by have := (List.getElem?_eq_some_iff.1 hk).1; simpa [hsz] using this, by
     have h9 := (List.getElem?_eq_some_iff.1 hk)
     obtain ⟨h9, h10⟩ := h9
     have h9' : k < listed.size := by simpa using h9
     simp [Array.getD, h9']
     simpa using h10⟩
    -- the least such
    have hmin : ∃ k, (k < l.length /\ listed.getD k true = false) /\ ∀ j, j < k -> listed.getD j false = true := by
     have : ∀ m, (∃ k, k < m /\ k < l.length /\ listed.getD k true = false) -> ∃ k, (k < l.length /\ listed.getD k true = false) /\ ∀ j, j < k -> listed.getD j false = true := by
      intro m
      induction m with
      | zero => intro ⟨k, h1, _⟩; omega
      | succ m ihm =>
       intro ⟨k, h1, h2, h3⟩
       by_cases hb : ∃ k, k < m /\ k < l.length /\ listed.getD k true = false
       ·
        exact ihm hb
       refine ⟨k, ⟨h2, h3⟩, fun j hj => ?_⟩
       cases hq : listed.getD j false with
       | true => rfl
       | false =>
        exfalso
        apply hb
        refine ⟨j, by omega, by omega, ?_⟩
        have hjs : j < listed.size := by omega
        simp [Array.getD, hjs] at hq ⊢
        exact hq
     obtain ⟨k, h1, h2⟩ := hex
     exact this (k + 1) ⟨k, by omega, h1, h2⟩
    obtain ⟨k, ⟨hk1, hk2⟩, hk3⟩ := hmin
    have : k ∈ Region.ready .any l.toArray listed := by
     refine mem_ready.2 ⟨hk2, l[k], by simp [hk1], fun e he hb => ?_⟩
     obtain ⟨_, _, h5, _⟩ := hB' k l[k] (by simp [hk1])
     exact hk3 _ (h5 e he hb)
    rw [h0] at this
    cases this
   obtain ⟨hun, o, ho, hall⟩ := mem_ready.1 hi
   have hol : l[i]? = some o := by simpa using ho
   have hil : i < l.length := (List.getElem?_eq_some_iff.1 hol).1
   have his : i < listed.size := by omega
   obtain ⟨hg, ⟨d, hd, hdn, hdu⟩, _, hdep, hcd, hcons, hcn⟩ := hB' i o hol
   have hunf : listed.getD i false = false := getD_both hun
   have hdl : ∀ k ∈ deps i, listed.getD k false = true := fun k hk => by
    obtain ⟨e, he, hb, rfl⟩ := hdep k hk
    exact hall e he hb
   have hdlt : ∀ k ∈ deps i, k < l.length := fun k hk => by
    have h5 := hdl k hk
    by_cases hks : k < listed.size
    ·
     omega
    simp [Array.getD, hks] at h5
   have hcown : ∀ k ∈ cons i, k ∈ own := fun k hk => by
    rw [h.ownd]
    refine ⟨hdlt k (hcd k hk), hdl k (hcd k hk), fun j hj hlj hkj => ?_⟩
    by_cases hji : j = i
    ·
     subst hji; rw [hunf] at hlj; cases hlj
    exact hcons j hj hji k hkj hk
   obtain ⟨R, hR⟩ : ∃ R, R = own.filter (fun k => !(cons i).contains k) := ⟨_, rfl⟩
   have hperm : List.Perm own (R ++ cons i) := by
    refine (List.perm_ext_iff_of_nodup h.nodup ?_).2 fun k => ?_
    ·
     rw [List.nodup_append]
     refine ⟨by rw [hR]; exact h.nodup.filter _, hcn, fun x hx y hy hxy => ?_⟩
     subst hxy
     rw [hR] at hx
     simp at hx
     exact hx.2 hy
    rw [List.mem_append, hR]
    simp only [List.mem_filter, Bool.not_eq_true', List.contains_eq_mem, decide_eq_false_iff_not]
    constructor
    ·
     intro hk
     by_cases hc : k ∈ cons i
     ·
      exact .inr hc
     exact .inl ⟨hk, hc⟩
    rintro (hk | hk)
    ·
     exact hk.1
    exact hcown k hk
   have hhs : HS w0 w ((L ++ R.flatMap M) ++ (cons i).flatMap M) := h.hs.mem_perm (by
    rw [List.append_assoc, <- List.flatMap_append]
    exact List.Perm.append_left L (hperm.flatMap_right M))
   have hRo : Own w0 (R.flatMap M) := by
    intro p hp
    obtain ⟨k, hk, hpk⟩ := List.mem_flatMap.1 hp
    rw [hR] at hk
    have hk' := (h.ownd k).1 (List.mem_filter.1 hk).1
    exact (h.fact k hk'.2.1).2 p hpk
   refine jpW ho hg h.kn ?_
   refine hop i o d hol hd V M E (R.flatMap M) w _ (fun k hk => h.fact k (hdl k hk)) (fun k hk o' d' hk' hd' => h.new k o' d' hk' hd' (hdl k hk)) h.old hRo hhs fun v m w' hΦ hmo hs' a' ha' => ⟨rfl, ?_⟩
   refine ih _ _ _ ⟨by simpa using hsz, fun k => if k = i then v else V k, fun k => if k = i then m else M k, (d, v) :: E, R ++ [i], ?_⟩ ?_
   ·
    have hRi : i ∉ R := fun hm => by
     rw [hR] at hm
     have := (h.ownd i).1 (List.mem_filter.1 hm).1
     rw [hunf] at this; cases this.2.1
    refine ⟨ha', fun d' v' hl hn => ?_, fun k o' d' hk hd' hl => ?_, fun k hl => ?_, ?_, ?_, ?_, fun k => ?_⟩
    ·
     rw [jdU, if_neg (fun hq => hn i o hol (by rw [hd, hq]))]
     exact h.old d' v' hl hn
    ·
     by_cases hki : k = i
     ·
      subst hki
      have : o' = o := Option.some.inj (hk.symm.trans hol)
      subst this
      have : d = d' := Option.some.inj (hd.symm.trans hd')
      subst this
      simp [jdU]
     rw [jdU, if_neg (fun hq => hdu k o' hk hki (by rw [hd', hq]))]
     simp only [hki, if_false]
     exact h.new k o' d' hk hd' (by rwa [getD_set_ne false (Ne.symm hki)] at hl)
    ·
     by_cases hki : k = i
     ·
      subst hki; simp only [if_true]; exact ⟨hΦ, hmo⟩
     simp only [hki, if_false]
     exact h.fact k (by rwa [getD_set_ne false (Ne.symm hki)] at hl)
    ·
     have e1 : R.flatMap (fun k => if k = i then m else M k) = R.flatMap M := by
      refine jmG fun k hk => ?_
      have : k ≠ i := fun hq => hRi (hq ▸ hk)
      simp [this]
     rw [List.flatMap_append, e1, <- List.append_assoc]
     simpa using hs'
    ·
     rw [List.nodup_append]
     refine ⟨by rw [hR]; exact h.nodup.filter _, by simp, fun x hx y hy hxy => ?_⟩
     simp at hy
     subst hxy hy
     exact hRi hx
    ·
     intro j oj hj hlj e he hb
     by_cases hji : i = j
     ·
      subst hji
      have : oj = o := Option.some.inj (hj.symm.trans hol)
      subst this
      exact getD_set_true (hall e he hb)
     rw [getD_set_ne false hji] at hlj
     exact getD_set_true (h.closed j oj hj hlj e he hb)
    rw [List.mem_append, List.mem_singleton]
    constructor
    ·
     rintro (hk | rfl)
     ·
      rw [hR] at hk
      obtain ⟨hk1, hk2⟩ := List.mem_filter.1 hk
      obtain ⟨h1, h2, h3⟩ := (h.ownd k).1 hk1
      refine ⟨h1, getD_set_true h2, fun j hj hlj => ?_⟩
      by_cases hji : j = i
      ·
       subst hji; simpa using hk2
      exact h3 j hj (by rwa [getD_set_ne false (Ne.symm hji)] at hlj)
     refine ⟨hil, by simp [Array.getD, his], fun j hj hlj hkj => ?_⟩
     have hjo : l[j]? = some l[j] := by simp [hj]
     obtain ⟨_, _, _, hdep', hcd', _⟩ := hB' j l[j] hjo
     by_cases hji : j = k
     ·
      subst hji
      obtain ⟨e, he, hb, hon⟩ := hdep' j (hcd' j hkj)
      obtain ⟨_, _, h7, _⟩ := hB' j l[j] hjo
      have := h7 e he hb
      omega
     rw [getD_set_ne false (Ne.symm hji)] at hlj
     obtain ⟨e, he, hb, hon⟩ := hdep' k (hcd' k hkj)
     have := h.closed j l[j] hjo hlj e he hb
     rw [hon, hunf] at this
     cases this
    rintro ⟨hk1, hk2, hk3⟩
    by_cases hki : k = i
    ·
     exact .inr hki
    left
    rw [getD_set_ne false (Ne.symm hki)] at hk2
    rw [hR, List.mem_filter]
    refine ⟨(h.ownd k).2 ⟨hk1, hk2, fun j hj hlj => hk3 j hj (getD_set_true hlj)⟩, ?_⟩
    have := hk3 i hil (by simp [Array.getD, his])
    simpa using this
   have h1 : listed.toList[i]? = some false := by
    have : listed[i]'his = false := by simpa [Array.getD, his] using hunf
    simp [his, this]
   have h2 : (listed.setIfInBounds i true).toList = listed.toList.set i true := by simp
   rw [h2, List.count_set (by simpa using his)]
   have h3 : listed.toList[i]'(by simpa using his) = false := by simpa [his] using h1
   simp [h3, hc]
 refine key l.length _ a _ ⟨by simp, fun _ => .nilIface, fun _ => [], e0, [], ⟨ha, fun d v h _ => h, fun k o d _ _ hl => ?_, fun k hl => ?_, by show HS w0 (w.drewN 1) (L ++ []); rw [List.append_nil]; exact hs.drewN 1, by simp, fun j o _ hl => ?_, fun k => ?_⟩⟩ (by simp)
 ·
  simp [Array.getD] at hl
 ·
  simp [Array.getD] at hl
 ·
  simp [Array.getD] at hl
 simp [Array.getD]
theorem HS.pickOwn {w0 w : World} {L : List (Nat × Obj)} {own : List Nat} {M : Nat -> List (Nat × Obj)} (h : HS w0 w (L ++ own.flatMap M)) {k : Nat} (hk : k ∈ own) (ho : ∀ j ∈ own, Own w0 (M j)) : HS w0 w (L ++ M k) := by
 have hp := List.perm_cons_erase hk
 have h2 : HS w0 w ((L ++ M k) ++ (own.erase k).flatMap M) := h.mem_perm (by
  rw [List.append_assoc]
  exact List.Perm.append_left L ((hp.flatMap_right M).trans (by simp)))
 refine h2.dropR fun p hp => ?_
 obtain ⟨j, hj, hpj⟩ := List.mem_flatMap.1 hp
 exact ho j (List.mem_of_mem_erase hj) p hpj
theorem Nx_env {n : Nat} {Q : jeG} {e E : Env} {w : World} (h : Nx n Q e w) (hl : ∀ d v, look e d = some v -> look E d = some v) : Nx n Q E w := fun a ha => h a ⟨ha.1, ha.2.1, fun i v hv => ha.2.2 i v (hl i v hv)⟩
theorem jkL {E : Env} : ∀ d v, look [] d = some v -> look E d = some v := fun d v h => by simp [look] at h
theorem jdN {E e : Env} {j : Nat} {u : Value} (h : look E j = some u) (ht : ∀ d v, look e d = some v -> look E d = some v) : ∀ d v, look ((j, u) :: e) d = some v -> look E d = some v := fun d v hv => by
 rw [jdU] at hv
 by_cases hjd : j = d
 ·
  subst hjd; simp at hv; subst hv; exact h
 rw [if_neg hjd] at hv; exact ht d v hv
theorem nd {l : List Oper} {d : Nat} (h : l.all (fun o => o.dst != some d) = true) : ∀ (k : Nat) (o : Oper), l[k]? = some o -> o.dst ≠ some d := fun k o hk hd => by
 have := List.all_eq_true.1 h o (List.mem_of_getElem? hk)
 simp [hd] at this
theorem Bl.slc {w0 w : World} {E : TypeId} {sz : Nat} {a : Option Addr} {n c k : Nat} {xs : List Value} {L M : List (Nat × Obj)} (h : Bl w0 E sz (.slice a n c) k xs M) (hs : HS w0 w (L ++ M)) : SlC w a xs := by
 obtain ⟨a', c', h1, h2⟩ := SlC.of_bl h hs
 injection h1 with h3 _ _
 rw [h3]; exact h2
end Go.Lk

namespace Go.Lk
open Go Go.Deep
section
variable {H : Type} {enc : TypeId × Value -> H} {P : Program} {w : World} {base : Nat} {spare : Nat -> Bool} {held : Bool}
structure RowsF (w : World) (a : Option Addr) (rows : List (List Nat)) (rvs : List Value) : Prop where
 sl : SlC w a rvs
 len : rvs.length = rows.length
 row : ∀ i, i < rows.length -> ∃ ai ci, rvs[i]? = some (.slice ai (rows.getD i []).length ci) /\ (rows.getD i []).length <= ci /\ (rows.getD i []).length <= 17592186043904 /\ SlC w ai (fl (rows.getD i []))
theorem RowsF.old {w0 w : World} {L : List (Nat × Obj)} {a : Option Addr} {rows : List (List Nat)} {rvs : List Value} (h : RowsF w0 a rows rvs) (hs : HS w0 w L) (ho : Own w0 L) : RowsF w a rows rvs :=
 ⟨h.sl.old hs ho, h.len, fun i hi => let ⟨ai, ci, h1, h3, h4, h2⟩ := h.row i hi; ⟨ai, ci, h1, h3, h4, h2.old hs ho⟩⟩
end
end Go.Lk

namespace Go.Lk
open Go
def jqZ (ops : Array Oper) (l0 : Array Bool) (ps hd tl : List Nat) : List Nat := (List.range ops.size).filter fun i => !(l0.getD i false || ps.contains i || hd.contains i || tl.contains i)
def jn4 (md : Region.Mode) (ops : Array Oper) : List Nat -> Array Bool -> Bool
 | [], _ => true
 | i :: r, listed => decide (Region.ready md ops listed = [i]) && jn4 md ops r (listed.setIfInBounds i true)
def chkW (md : Region.Mode) (ops : Array Oper) (hd : List Nat) : List Nat -> Bool
 | [] => true
 | t :: r => hd.all (fun i => jg8 md ops ops.size t i) && r.all (fun u => jg8 md ops ops.size u t)
def chkStage (ops : Array Oper) (l0 : Array Bool) (ps hd tl : List Nat) : Bool :=
 let tl' := tl ++ jqZ ops l0 ps hd tl
 Region.noSelect ops && jgF .any ops ps l0 && ps.all (fun i => ((jh0 ops i).dst).isSome) && jrE .any ops (jbN l0 ps) && tl'.all (fun t => !(jbN l0 ps).getD t true) && (hd.isEmpty || chkW .any ops hd tl') &&
 ps.all (fun i => (jbN l0 ps).getD i true) && hd.all (fun i => !tl'.contains i) && jgF .any ops hd (jbN l0 ps) && (List.range ops.size).all (fun i => !(l0.getD i false) || (jbN l0 ps).getD i true) &&
 tl.all (fun i => (ops[i]?).isSome) && jn4 .any ops tl (jbN (jbN l0 ps) hd) && hd.all (fun i => decide (i < ops.size))
theorem jp3 {l : List Nat} : ∀ {listed : Array Bool} {i : Nat}, i ∈ l -> (jbN listed l).getD i true = true := by
 induction l with
 | nil => intro listed i h; cases h
 | cons j l ih =>
  intro listed i h
  rcases List.mem_cons.1 h with rfl | h
  ·
   refine jk3 (l := l) ?_
   by_cases hlt : i < listed.size <;> simp [Array.getD, hlt]
  exact ih h
section
variable {P : Program} {ops : Array Oper} {md : Region.Mode} {C : World -> Prop} {S : FuncId -> Array Value -> Value -> Prop}
theorem jhY {Q : jeG} {g : Nat} : ∀ (tl : List Nat) (listed : Array Bool) (a : Act) (w : World), (∀ i ∈ tl, (ops[i]?).isSome = true) -> jn4 md ops tl listed = true -> wpList P ops (QF fun a' w' => wpAny P md ops Q g (jbN listed tl) a' w') (tl.map (jh0 ops)) a w -> wpAny P md ops Q (tl.length + g) listed a w
 | [], listed, a, w, _, hc, h => by rw [List.length_nil, Nat.zero_add]; exact h.2
 | i :: tl, listed, a, w, hi, hc, h => by
  simp only [jn4, Bool.and_eq_true, decide_eq_true_eq] at hc
  obtain ⟨oi, hoi⟩ := Option.isSome_iff_exists.1 (hi i (by simp))
  rw [show (i :: tl).length + g = (tl.length + g) + 1 by simp; omega]
  refine ⟨fun h1 => (by rw [hc.1] at h1; cases h1), fun j hj => ?_⟩
  rw [hc.1] at hj
  have : j = i := by simpa using hj
  subst this
  have ho : jh0 ops j = oi := by simp [jh0, hoi]
  simp only [List.map_cons, wpList, ho, jbN] at h
  unfold wpOp
  simp only [hoi]
  have hno : ¬ LetsOut (QF fun a' w' => wpAny P md ops Q g (jbN (listed.setIfInBounds j true) tl) a' w') := fun ⟨_, _, h5⟩ => by cases h5.1
  have ih : ∀ a' w', wpList P ops (QF fun a' w' => wpAny P md ops Q g (jbN (listed.setIfInBounds j true) tl) a' w') (tl.map (jh0 ops)) a' w' -> wpAny P md ops Q (tl.length + g) (listed.setIfInBounds j true) a' w' := fun a' w' h' => jhY tl _ a' w' (fun k hk => hi k (by simp [hk])) hc.2 h'
  by_cases hy : Region.wanted oi (yielded ops a.tmps) = true
  ·
   rw [if_pos hy] at h ⊢
   rcases h with h | ⟨_, h⟩
   ·
    left
    have h2 := Oper.wp_mono ih h
    unfold Oper.wp at h2 ⊢
    generalize (execOp a.eval oi).run P w = r at h2 ⊢
    cases r with
    | halt x w' => cases x <;> first | exact h2 | (exact absurd h2.1 (by simp)) | (cases h2)
    | ok nx w' =>
     cases nx with
     | enter f args =>
      refine Calls.mono h2 fun e w'' he => ?_
      cases e with
      | returned v => exact he
      | panicked c => cases he.1
      | outgrown => exact absurd he hno
     | _ => exact h2
   exact absurd h hno
  rw [if_neg hy] at h ⊢
  exact ih _ _ h
end
def SG (P : Program) (n : Nat) (ops : Array Oper) (Q : jeG) (g : Nat) (listed : Array Bool) (e : Env) (w : World) : Prop := ∀ a, Kn n a e -> wpAny P .any ops Q g listed a w
section
variable {P : Program} {n : Nat} {Q : jeG} {e : Env} {w w0 : World} {L : List (Nat × Obj)} {ops : Array Oper} {g : Nat} {listed : Array Bool}
theorem jqD {id : Nat} {l : List Oper} (hm : P.follows .mixedOrders = true) (h : SG P n l.toArray Q l.length (Array.replicate l.length false) e (w.drewN 1)) : W P n (.region id l.toArray true) Q e w := fun a ha =>
 wp_region_any hm (h a ha)
theorem jdW (hr : (Region.ready .any ops listed).isEmpty = true) (h : Nx n Q e w) : SG P n ops Q 0 listed e w := fun a ha => ⟨by simpa using hr, h a ha⟩
theorem jg5 (h : SG P n ops Q g listed e w) : RL P n ops [] (QF fun a w => wpAny P .any ops Q g listed a w) e w := fun a ha => ⟨rfl, h a ha⟩
end
theorem jdZ {m k : Nat} (hm : m ≠ 0) : (m * 2 ^ k).log2 = m.log2 + k := by
 have h2 : m * 2 ^ k ≠ 0 := Nat.mul_ne_zero hm (Nat.pos_iff_ne_zero.1 (Nat.two_pow_pos k))
 refine (Nat.log2_eq_iff h2).2 ⟨?_, ?_⟩
 ·
  rw [Nat.pow_add]
  exact Nat.mul_le_mul_right _ ((Nat.log2_eq_iff hm).1 rfl).1
 have := ((Nat.log2_eq_iff hm).1 rfl).2
 rw [show m.log2 + k + 1 = (m.log2 + 1) + k by omega, Nat.pow_add]
 exact Nat.mul_lt_mul_of_pos_right this (Nat.two_pow_pos k)
def fRung (n : Nat) : Nat := (n.log2 + 1022) * 4503599627370496 + n * 2 ^ (52 - n.log2)
theorem pow52 : (2 : Nat) ^ 52 = 4503599627370496 := by decide
theorem jhU (neg : Bool) (q d n : Nat) (hn : n = q * 2 ^ d) (hd : d <= n.log2 + 2) : Ieee.Toward.even.cut neg n d = q := by
 unfold Ieee.Toward.cut
 have h1 : min d (n.log2 + 2) = d := Nat.min_eq_left hd
 have hp : 0 < 2 ^ d := Nat.two_pow_pos d
 have e1 : n / 2 ^ d = q := by rw [hn]; exact Nat.mul_div_cancel _ hp
 have e2 : n % 2 ^ d = 0 := by rw [hn]; exact Nat.mul_mod_left _ _
 simp only [h1, Nat.one_shiftLeft, e1, e2]
 have e3 : (decide (2 ^ d < 2 * 0) || (2 ^ d == 2 * 0 && q % 2 == 1)) = false := by
  have h3 : ¬ 2 ^ d < 2 * 0 := by omega
  have h4 : (2 ^ d == 2 * 0) = false := by simp
  simp [h3]
 rw [e3]
 rfl
theorem nearest_int (c : Nat) (hc : c = 1074) (s : Bool) (m n : Nat) (p : Int) (hn : 1 <= n) (hn2 : n < 9007199254740992) (hp : -1074 <= p) (hm : m * 2 ^ (p + 1074).toNat = n * 2 ^ c) : Ieee.double.nearest s m p = Ieee.double.word s (fRung n) := by
 have hm0 : m ≠ 0 := by
  intro h0
  rw [h0, Nat.zero_mul] at hm
  have : 0 < n * 2 ^ c := Nat.mul_pos hn (Nat.two_pow_pos _)
  omega
 have hl : m.log2 + (p + 1074).toNat = n.log2 + c := by rw [<- jdZ hm0, hm, jdZ (by omega)]
 have he : n.log2 <= 52 := by
  have := (Nat.log2_lt (by omega : n ≠ 0) (k := 53)).2 (by simpa using hn2)
  omega
 obtain ⟨e, hE⟩ : ∃ e, e = n.log2 := ⟨_, rfl⟩
 rw [<- hE] at hl he
 have hlow : 2 ^ e <= n := by rw [hE]; exact ((Nat.log2_eq_iff (by omega)).1 rfl).1
 have hhi : n < 2 ^ (e + 1) := by rw [hE]; exact ((Nat.log2_eq_iff (by omega)).1 rfl).2
 have hkept : n * 2 ^ (52 - e) < 9007199254740992 := by
  have h1 : n * 2 ^ (52 - e) < 2 ^ (e + 1) * 2 ^ (52 - e) := Nat.mul_lt_mul_of_pos_right hhi (Nat.two_pow_pos _)
  rw [<- Nat.pow_add, show e + 1 + (52 - e) = 53 by omega] at h1
  simpa using h1
 have hlast : max (p + (m.log2 : Int) - 52) (-1074) = (e : Int) - 52 := by omega
 have hcut : Ieee.Toward.even.cut s (m <<< (p - ((e : Int) - 52)).toNat) (((e : Int) - 52) - p).toNat = n * 2 ^ (52 - e) := by
  by_cases hcp : (e : Int) - 52 <= p
  ·
   have h0 : (((e : Int) - 52) - p).toNat = 0 := by omega
   rw [h0]
   refine jhU s _ 0 _ ?_ (by omega)
   rw [Nat.shiftLeft_eq, Nat.pow_zero, Nat.mul_one]
   obtain ⟨f, hf⟩ : ∃ f, f = e + 1022 := ⟨_, rfl⟩
   have h1 : (p + 1074).toNat = (p - ((e : Int) - 52)).toNat + f := by omega
   have h2 : c = (52 - e) + f := by omega
   rw [h1, h2, Nat.pow_add, Nat.pow_add, <- Nat.mul_assoc, <- Nat.mul_assoc] at hm
   exact Nat.eq_of_mul_eq_mul_right (Nat.two_pow_pos _) hm
  have h0 : (p - ((e : Int) - 52)).toNat = 0 := by omega
  rw [h0, Nat.shiftLeft_zero]
  refine jhU s _ _ _ ?_ (by omega)
  have h1 : c = (52 - e) + ((((e : Int) - 52) - p).toNat + (p + 1074).toNat) := by omega
  rw [h1, Nat.pow_add, Nat.pow_add, <- Nat.mul_assoc, <- Nat.mul_assoc] at hm
  exact Nat.eq_of_mul_eq_mul_right (Nat.two_pow_pos _) hm
 unfold Ieee.Format.nearest
 rw [if_neg hm0]
 have f1 : (Ieee.double.fractionBits : Int) = 52 := rfl
 have f2 : Ieee.double.leastPlace = -1074 := by decide
 have f3 : Ieee.double.infRung = 9218868437227405312 := rfl
 have f4 : Ieee.double.binade = 4503599627370496 := rfl
 simp only [f1, f2, hlast, hcut, f3, f4]
 have h5 : ((e : Int) - 52 - -1074).toNat = e + 1022 := by omega
 rw [h5, Nat.min_eq_left (by omega)]
 unfold fRung
 rw [<- hE]
theorem read_int (s : Bool) (n : Nat) (hn : 1 <= n) (hn2 : n < 9007199254740992) : Ieee.double.read (Ieee.double.word s (fRung n)) = .number s (n * 2 ^ (52 - n.log2)) ((n.log2 : Int) - 52) := by
 have he : n.log2 <= 52 := by
  have := (Nat.log2_lt (by omega : n ≠ 0) (k := 53)).2 (by simpa using hn2)
  omega
 obtain ⟨e, hE⟩ : ∃ e, e = n.log2 := ⟨_, rfl⟩
 have hlow : 2 ^ e <= n := by rw [hE]; exact ((Nat.log2_eq_iff (by omega)).1 rfl).1
 have hhi : n < 2 ^ (e + 1) := by rw [hE]; exact ((Nat.log2_eq_iff (by omega)).1 rfl).2
 unfold fRung
 rw [<- hE] at he ⊢
 have hkept : n * 2 ^ (52 - e) < 9007199254740992 := by
  have h1 : n * 2 ^ (52 - e) < 2 ^ (e + 1) * 2 ^ (52 - e) := Nat.mul_lt_mul_of_pos_right hhi (Nat.two_pow_pos _)
  rw [<- Nat.pow_add, show e + 1 + (52 - e) = 53 by omega] at h1
  simpa using h1
 have hkept2 : 4503599627370496 <= n * 2 ^ (52 - e) := by
  have h1 : 2 ^ e * 2 ^ (52 - e) <= n * 2 ^ (52 - e) := Nat.mul_le_mul_right _ hlow
  rw [<- Nat.pow_add, show e + (52 - e) = 52 by omega] at h1
  simpa using h1
 generalize n * 2 ^ (52 - e) = k at hkept hkept2
 have h1 : ∀ b : Bool, (Ieee.double.word b ((e + 1022) * 4503599627370496 + k) / 9223372036854775808 % 2 == 1) = b /\ Ieee.double.word b ((e + 1022) * 4503599627370496 + k) % 9223372036854775808 = (e + 1022) * 4503599627370496 + k := by
  intro b
  unfold Ieee.Format.word
  rw [jb3]
  cases b
  ·
   simp only [Bool.false_eq_true, if_false]
   refine ⟨?_, by omega⟩
   rw [show ((e + 1022) * 4503599627370496 + k) / 9223372036854775808 = 0 by omega]
   simp
  simp only [if_true]
  refine ⟨?_, by omega⟩
  rw [show (9223372036854775808 + ((e + 1022) * 4503599627370496 + k)) / 9223372036854775808 = 1 by omega]
  simp
 unfold Ieee.Format.read
 rw [jb3, jdP, jc8, (h1 s).2]
 have h2 : ¬ ((e + 1022) * 4503599627370496 + k < 4503599627370496) := by omega
 have h3 : (e + 1022) * 4503599627370496 + k < 9218868437227405312 := by omega
 have h4 : ((e + 1022) * 4503599627370496 + k) % 4503599627370496 = k - 4503599627370496 := by omega
 have h5 : ((e + 1022) * 4503599627370496 + k) / 4503599627370496 = e + 1023 := by omega
 simp only [h2, h3, if_false, if_true, h4, h5]
 have h6 := (h1 s).1
 have f2 : Ieee.double.leastPlace = -1074 := by decide
 rw [f2]
 have e1 : ((Ieee.double.word s ((e + 1022) * 4503599627370496 + k) / 9223372036854775808 % 2 == 1)) = s := h6
 have e2 : 4503599627370496 + (k - 4503599627370496) = k := by omega
 have e3 : (-1074 : Int) + ((e + 1023 - 1 : Nat) : Int) = (e : Int) - 52 := by omega
 rw [e1, e2, e3]
theorem jbC (s : Bool) (m k : Nat) : Ieee.signed s m k = (if s then -1 else 1) * ((m * 2 ^ k : Nat) : Int) := by
 unfold Ieee.signed
 rw [Nat.shiftLeft_eq]
 cases s <;> simp
theorem jfT (s : Bool) (m a b : Nat) : Ieee.signed s m (a + b) = Ieee.signed s m a * ((2 ^ b : Nat) : Int) := by
 rw [jbC, jbC, Nat.pow_add, <- Nat.mul_assoc, Int.natCast_mul, Int.mul_assoc]
theorem jkZ (s : Bool) (m k : Nat) : Ieee.signed (!s) m k = - Ieee.signed s m k := by
 unfold Ieee.signed; cases s <;> simp
theorem signed_zero {s : Bool} {m k : Nat} (h : Ieee.signed s m k = 0) : m = 0 := by
 rw [jbC] at h
 have hp := Nat.two_pow_pos k
 rcases Nat.eq_zero_or_pos m with h0 | h0
 ·
  exact h0
 have h1 := Nat.mul_pos h0 hp
 generalize m * 2 ^ k = A at h h1
 cases s <;> simp at h <;> omega
def Rep (x : Nat) (v : Int) : Prop := (v = 0 /\ (x = 0 ∨ x = 9223372036854775808)) ∨ (v ≠ 0 /\ v.natAbs < 9007199254740992 /\ x = Ieee.double.word (decide (v < 0)) (fRung v.natAbs))
theorem Rep.read {x : Nat} {v : Int} (h : Rep x v) (c : Nat) (hc : c = 1074) : ∃ s m p, Ieee.double.read x = .number s m p /\ -1074 <= p /\ (v ≠ 0 -> -52 <= p) /\ Ieee.signed s m (p + 1074).toNat = v * ((2 ^ c : Nat) : Int) := by
 rcases h with ⟨rfl, h⟩ | ⟨h0, h1, rfl⟩
 ·
  rcases h with rfl | rfl
  ·
   exact ⟨false, 0, -1074, by decide, by omega, fun h => absurd rfl h, by simp [jbC]⟩
  exact ⟨true, 0, -1074, by decide, by omega, fun h => absurd rfl h, by simp [jbC]⟩
 refine ⟨_, _, _, read_int (decide (v < 0)) v.natAbs (by omega) h1, by omega, fun _ => by omega, ?_⟩
 have he : v.natAbs.log2 <= 52 := by
  have := (Nat.log2_lt (by omega : v.natAbs ≠ 0) (k := 53)).2 (by simpa using h1)
  omega
 rw [jbC, Nat.mul_assoc, <- Nat.pow_add, show 52 - v.natAbs.log2 + ((v.natAbs.log2 : Int) - 52 + 1074).toNat = c by omega, Int.natCast_mul, <- Int.mul_assoc]
 congr 1
 by_cases hv : v < 0
 ·
  simp [hv]; omega
 simp [hv]; omega
theorem rep_write {s : Bool} {m : Nat} {p v : Int} (c : Nat) (hc : c = 1074) (hp : -1074 <= p) (hv : v.natAbs < 9007199254740992) (h : Ieee.signed s m (p + 1074).toNat = v * ((2 ^ c : Nat) : Int)) : Rep (Ieee.double.nearest s m p) v := by
 obtain ⟨C, hC⟩ : ∃ C, C = 2 ^ c := ⟨_, rfl⟩
 have hC0 : 0 < C := by rw [hC]; exact Nat.two_pow_pos c
 have hCi : (0 : Int) < (C : Int) := by omega
 rw [<- hC] at h
 by_cases hm : m = 0
 ·
  left
  subst hm
  have h0 : v = 0 := by
   rw [jbC] at h
   simp only [Nat.zero_mul, Int.natCast_zero, Int.mul_zero] at h
   rcases Int.mul_eq_zero.1 h.symm with h | h
   ·
    exact h
   omega
  refine ⟨h0, ?_⟩
  unfold Ieee.Format.nearest Ieee.Format.word
  cases s <;> simp [jb3]
 have h2 : 0 < m * 2 ^ (p + 1074).toNat := Nat.mul_pos (by omega) (Nat.two_pow_pos _)
 have h0 : v ≠ 0 := fun h0 => by
  rw [h0, Int.zero_mul] at h
  exact hm (signed_zero h)
 rw [jbC] at h
 obtain ⟨A, hA⟩ : ∃ A, A = m * 2 ^ (p + 1074).toNat := ⟨_, rfl⟩
 rw [<- hA] at h h2
 have hs : s = decide (v < 0) := by
  rcases Int.lt_trichotomy v 0 with h5 | h5 | h5
  ·
   have := Int.mul_neg_of_neg_of_pos h5 hCi
   cases s
   ·
    simp at h; omega
   simp [h5]
  ·
   exact absurd h5 h0
  have := Int.mul_pos h5 hCi
  cases s
  ·
   simp; omega
  simp at h; omega
 have habs : m * 2 ^ (p + 1074).toNat = v.natAbs * 2 ^ c := by
  have h5 := congrArg Int.natAbs h
  rw [Int.natAbs_mul, Int.natAbs_mul, Int.natAbs_natCast, Int.natAbs_natCast] at h5
  rw [<- hA, <- hC]
  cases s <;> simpa using h5
 right
 refine ⟨h0, hv, ?_⟩
 rw [nearest_int c hc s m v.natAbs p (by omega) hv hp habs, hs]
theorem jnK (z : Int) (hz : z.natAbs < 9007199254740992) : Rep (FloatKind.f64.nearest z) z := by
 obtain ⟨c, hc⟩ : ∃ c, c = 1074 := ⟨_, rfl⟩
 show Rep (Ieee.double.nearest (decide (z < 0)) z.natAbs 0) z
 refine rep_write c hc (by omega) hz ?_
 rw [jbC, show ((0 : Int) + 1074).toNat = c by omega, Int.natCast_mul, <- Int.mul_assoc]
 congr 1
 by_cases h : z < 0
 ·
  simp [h]; omega
 simp [h]; omega
end Go.Lk

namespace Go.Lk
open Go Go.Deep
structure PairsAt (w : World) (a : Option Addr) (ps : List (Int × Int)) : Prop where
 ao : 0 < ps.length -> a = some (aD a)
 c0 : ∀ j, j < ps.length -> w.cell? ((aD a).add (j * 2)) = some (.int .i64 (ps.getD j (0, 0)).1)
 c1 : ∀ j, j < ps.length -> w.cell? ((aD a).add (j * 2 + 1)) = some (.int .i64 (ps.getD j (0, 0)).2)
theorem PairsAt.old {w0 w : World} {L : List (Nat × Obj)} {a : Option Addr} {ps : List (Int × Int)} (h : PairsAt w0 a ps) (hs : HS w0 w L) (ho : Own w0 L) : PairsAt w a ps :=
 ⟨h.ao, fun j hj => hs.oldcell (h.c0 j hj) (ho.notin (World.block_lt_of_cell? w0 _ (h.c0 j hj))), fun j hj => hs.oldcell (h.c1 j hj) (ho.notin (World.block_lt_of_cell? w0 _ (h.c1 j hj)))⟩
structure RowsP (w : World) (a : Option Addr) (rows : List (List (Int × Int))) (rvs : List Value) : Prop where
 sl : SlC w a rvs
 len : rvs.length = rows.length
 row : ∀ i, i < rows.length -> ∃ ai ci, rvs[i]? = some (.slice ai (rows.getD i []).length ci) /\ (rows.getD i []).length <= 8796093021952 /\ PairsAt w ai (rows.getD i [])
theorem RowsP.old {w0 w : World} {L : List (Nat × Obj)} {a : Option Addr} {rows : List (List (Int × Int))} {rvs : List Value} (h : RowsP w0 a rows rvs) (hs : HS w0 w L) (ho : Own w0 L) : RowsP w a rows rvs :=
 ⟨h.sl.old hs ho, h.len, fun i hi => let ⟨ai, ci, h1, h3, h2⟩ := h.row i hi; ⟨ai, ci, h1, h3, h2.old hs ho⟩⟩
section
variable {H : Type} {enc : TypeId × Value -> H} {P : Program} {w : World} {base : Nat} {spare : Nat -> Bool} {held : Bool}
end
end Go.Lk

namespace Go.Lk
open Go
def bls (xs : List Bool) : List Value := xs.map .bool
@[simp] theorem bls_length (xs : List Bool) : (bls xs).length = xs.length := by simp [bls]
theorem jfN {xs : List Bool} {j : Nat} (h : j < xs.length) : (bls xs)[j]? = some (.bool (xs.getD j false)) := by simp [bls, h]
theorem bls_set (xs : List Bool) (j : Nat) (v : Bool) : (bls xs).set j (.bool v) = bls (xs.set j v) := by simp [bls, List.map_set]
theorem jrF (k : Nat) (v : Bool) : List.replicate k (Value.bool v) = bls (List.replicate k v) := by simp [bls]
theorem jfW {α : Type} {l : List α} {i : Nat} {d x : α} (h : i < l.length) (j : Nat) : (l.set i x).getD j d = if j = i then x else l.getD j d := by
 by_cases hj : j = i
 ·
  subst hj; simp [List.getD, h]
 simp only [List.getD, hj, if_false]; rw [List.getElem?_set_ne (fun h => hj h.symm)]
theorem grep {α : Type} {n : Nat} {d x : α} {j : Nat} (h : j < n) : (List.replicate n x).getD j d = x := by simp [List.getD, h]
section
variable {P : Program} {n : Nat} {Q : jeG} {e : Env} {w w0 : World} {L : List (Nat × Obj)} {ops : Array Oper} {rest : List Oper} {t : TypeId} {p : String} {af : Array Edge}
theorem L_clear {T E : TypeId} {x : Operand} {z : Value} {by' i b k c : Nat} {cs : List Value} (hs : HS w0 w L) (hL : L[i]? = some (b, Row E cs)) (hT : P.underlying T = some (.slice E)) (hi : TI P E z 1 by')
  (hx : jaD e x = some (.slice (some ⟨b, 0, none⟩) k c)) (hk : cs.length = k) (h0 : 0 < k) (hz : z.cells = #[z]) (h1 : z.oneCell' = true)
  (h : ∀ w', HS w0 w' (L.set i (b, Row E (List.replicate k z))) -> RL P n ops rest Q e w') :
  RL P n ops (Oper.mk none (.call { callee := .builtin .clear, args := #[x], argTypes := #[T] }) t p af none :: rest) Q e w := by
 have hst := run_storeCells_at P b 0 E (List.replicate k z) 0 cs.toArray w (hs.get hL) (by simp [hk]) (by intro v hv; rw [List.eq_of_mem_replicate hv]; exact h1)
 have hzc : (Builtin.zeroCells z.cells k).toList = List.replicate k z := by
  rw [hz]
  simp [Builtin.zeroCells]
  apply List.ext_getElem
  ·
   simp
  intro i h1 h2
  simp [Nat.mod_one]
 refine RL_val0 (v := .tuple #[]) (w' := w.setRow b (List.replicate k z).toArray) (fun a ha => ?_) (h _ (hs.setRow hL))
 have e1 : (cs.take (0 + 0) ++ List.replicate k z ++ cs.drop (0 + 0 + k)) = List.replicate k z := by simp [<- hk]
 simp only [Nat.add_zero] at hst
 obtain ⟨m, rfl⟩ : ∃ m, k = m + 1 := ⟨k - 1, by omega⟩
 simp [execOp, ha.eval hx, resolve, invoke, builtin, Builtin.clear_, run_underlying hT, hi.zero, hzc, hst]
 rw [List.drop_eq_nil_of_le (by omega)]; simp
end
theorem HS.pickOwn3 {w0 w : World} {L : List (Nat × Obj)} {own : List Nat} {M : Nat -> List (Nat × Obj)} (h : HS w0 w (L ++ own.flatMap M)) {k1 k2 k3 : Nat} (h1 : k1 ∈ own) (h2 : k2 ∈ own) (h3 : k3 ∈ own) (h21 : k2 ≠ k1) (h31 : k3 ≠ k1) (h32 : k3 ≠ k2) (ho : ∀ j ∈ own, Own w0 (M j)) : HS w0 w (L ++ (M k1 ++ (M k2 ++ M k3))) := by
 have p1 := List.perm_cons_erase h1
 have m2 : k2 ∈ own.erase k1 := (List.mem_erase_of_ne h21).2 h2
 have p2 := List.perm_cons_erase m2
 have m3 : k3 ∈ (own.erase k1).erase k2 := (List.mem_erase_of_ne h32).2 ((List.mem_erase_of_ne h31).2 h3)
 have p3 := List.perm_cons_erase m3
 have p : own.Perm (k1 :: k2 :: k3 :: ((own.erase k1).erase k2).erase k3) := p1.trans (.cons _ (p2.trans (.cons _ p3)))
 have hh : HS w0 w ((L ++ (M k1 ++ (M k2 ++ M k3))) ++ (((own.erase k1).erase k2).erase k3).flatMap M) := h.mem_perm (by
  rw [List.append_assoc]
  exact List.Perm.append_left L ((p.flatMap_right M).trans (by simp)))
 refine hh.dropR fun q hq => ?_
 obtain ⟨j, hj, hpj⟩ := List.mem_flatMap.1 hq
 exact ho j (List.mem_of_mem_erase (List.mem_of_mem_erase (List.mem_of_mem_erase hj))) q hpj
section
variable {P : Program} {n : Nat} {Q : jeG} {e : Env} {w w0 : World} {L : List (Nat × Obj)} {ops : Array Oper} {rest : List Oper} {t : TypeId} {p : String} {af : Array Edge} {C : World -> Prop} {S : FuncId -> Array Value -> Value -> Prop} {K : Act -> Prop} {d : Nat} {x y : Operand} {v : Value}
theorem in1 {α β : Type} {a c : α} {b d : β} (h : (a, b) = (c, d)) : a = c := (Prod.mk.inj h).1
theorem in2 {α β : Type} {a c : α} {b d : β} (h : (a, b) = (c, d)) : b = d := (Prod.mk.inj h).2
theorem Lm (g : (Nat.blt d n, jaD e x) = (true, some v)) (h : RL P n ops rest Q ((d, v) :: e) w) : RL P n ops (Oper.mk (some d) (.move x) t p af none :: rest) Q e w := jgK (in1 g) (in2 g) h
theorem La (g : (Nat.blt d n, jaD e x) = (true, some v)) (h : RL P n ops rest Q ((d, v) :: e) w) : RL P n ops (Oper.mk (some d) (.assign x) t p af none :: rest) Q e w := jg1 (in1 g) (in2 g) h
theorem Rw {dst : Option Tmp} {op : Op} {j d : Nat} {b : Bool} (g : ((ops[j]?).bind (·.dst), look e d) = (some d, some (.bool b))) (h : RL P n ops (Oper.mk dst op t p af none :: rest) Q e w) : RL P n ops (Oper.mk dst op t p af (some (j, b)) :: rest) Q e w := RL_want (in1 g) (in2 g) h
theorem Rs {d : Nat} {op : Op} {j d' : Nat} {b c : Bool} (g : (Nat.blt d n, (ops[j]?).bind (·.dst), look e d', b == c) = (true, some d', some (.bool b), false)) (h : RL P n ops rest Q ((d, undef) :: e) w) : RL P n ops (Oper.mk (some d) op t p af (some (j, c)) :: rest) Q e w := RL_skip (in1 g) (in1 (in2 g)) (in1 (in2 (in2 g))) (in2 (in2 (in2 g))) h
theorem Lpt {c : Operand} (g : (Nat.blt d n, jaD e c, jaD e x) = (true, some (.bool true), some v)) (h : RL P n ops rest Q ((d, v) :: e) w) : RL P n ops (Oper.mk (some d) (.pick c x y) t p af none :: rest) Q e w := L_pick_t (in1 g) (in1 (in2 g)) (in2 (in2 g)) h
theorem Lpf {c : Operand} (g : (Nat.blt d n, jaD e c, jaD e y) = (true, some (.bool false), some v)) (h : RL P n ops rest Q ((d, v) :: e) w) : RL P n ops (Oper.mk (some d) (.pick c x y) t p af none :: rest) Q e w := L_pick_f (in1 g) (in1 (in2 g)) (in2 (in2 g)) h
theorem Ln {ad : Addr} (g : (Nat.blt d n, jaD e x) = (true, some (.pointer (some ad)))) (h : RL P n ops rest Q ((d, .pointer (some ad)) :: e) w) : RL P n ops (Oper.mk (some d) (.nilCheck x) t p af none :: rest) Q e w := jc4 (in1 g) (in2 g) h
theorem jcP {T : TypeId} {b : Bool} (g : (Nat.blt d n, jaD e x) = (true, some (.bool b))) (h : RL P n ops rest Q ((d, .bool !b) :: e) w) : RL P n ops (Oper.mk (some d) (.unOp .not T x) t p af none :: rest) Q e w := L_not (in1 g) (in2 g) h
theorem jaZ {T T' : TypeId} {k : IntKind} {i j : Int} {b : Bool} (g : (Nat.blt d n, jaD e x, jaD e y) = (true, some (.int k i), some (.int k j))) (hb : decide (i < j) = b) (h : RL P n ops rest Q ((d, .bool b) :: e) w) : RL P n ops (Oper.mk (some d) (.binOp .lss T x y T') t p af none :: rest) Q e w := L_lss (in1 g) (in1 (in2 g)) (in2 (in2 g)) hb h
theorem Cleq {T T' : TypeId} {k : IntKind} {i j : Int} {b : Bool} (g : (Nat.blt d n, jaD e x, jaD e y) = (true, some (.int k i), some (.int k j))) (hb : decide (i <= j) = b) (h : RL P n ops rest Q ((d, .bool b) :: e) w) : RL P n ops (Oper.mk (some d) (.binOp .leq T x y T') t p af none :: rest) Q e w := L_leq (in1 g) (in1 (in2 g)) (in2 (in2 g)) hb h
theorem jgY {T T' : TypeId} {k : IntKind} {i j : Int} {b : Bool} (g : (Nat.blt d n, jaD e x, jaD e y) = (true, some (.int k i), some (.int k j))) (hb : decide (j < i) = b) (h : RL P n ops rest Q ((d, .bool b) :: e) w) : RL P n ops (Oper.mk (some d) (.binOp .gtr T x y T') t p af none :: rest) Q e w := L_gtr (in1 g) (in1 (in2 g)) (in2 (in2 g)) hb h
theorem jgM {T T' : TypeId} {k : IntKind} {i j : Int} {b : Bool} (g : (Nat.blt d n, jaD e x, jaD e y) = (true, some (.int k i), some (.int k j))) (hb : decide (j <= i) = b) (h : RL P n ops rest Q ((d, .bool b) :: e) w) : RL P n ops (Oper.mk (some d) (.binOp .geq T x y T') t p af none :: rest) Q e w := L_geq (in1 g) (in1 (in2 g)) (in2 (in2 g)) hb h
theorem jdS {T T' : TypeId} {k : IntKind} {i j : Int} {b : Bool} (g : (Nat.blt d n, jaD e x, jaD e y) = (true, some (.int k i), some (.int k j))) (hb : decide (i = j) = b) (h : RL P n ops rest Q ((d, .bool b) :: e) w) : RL P n ops (Oper.mk (some d) (.binOp .eql T x y T') t p af none :: rest) Q e w := L_eql (in1 g) (in1 (in2 g)) (in2 (in2 g)) hb h
theorem jk7 {T T' : TypeId} {k : IntKind} {i j : Int} {b : Bool} (g : (Nat.blt d n, jaD e x, jaD e y) = (true, some (.int k i), some (.int k j))) (hb : decide (i ≠ j) = b) (h : RL P n ops rest Q ((d, .bool b) :: e) w) : RL P n ops (Oper.mk (some d) (.binOp .neq T x y T') t p af none :: rest) Q e w := L_neq (in1 g) (in1 (in2 g)) (in2 (in2 g)) hb h
theorem jbG {T T' : TypeId} {k : IntKind} {i j c : Int} (g : (Nat.blt d n, jaD e x, jaD e y) = (true, some (.int k i), some (.int k j))) (hc : k.wrap (i + j) = c) (h : RL P n ops rest Q ((d, .int k c) :: e) w) : RL P n ops (Oper.mk (some d) (.binOp .add T x y T') t p af none :: rest) Q e w := L_add (in1 g) (in1 (in2 g)) (in2 (in2 g)) hc h
theorem Csub {T T' : TypeId} {k : IntKind} {i j c : Int} (g : (Nat.blt d n, jaD e x, jaD e y) = (true, some (.int k i), some (.int k j))) (hc : k.wrap (i - j) = c) (h : RL P n ops rest Q ((d, .int k c) :: e) w) : RL P n ops (Oper.mk (some d) (.binOp .sub T x y T') t p af none :: rest) Q e w := L_sub (in1 g) (in1 (in2 g)) (in2 (in2 g)) hc h
theorem Cf {op : BinOp} {T T' : TypeId} {k : FloatKind} {i j : Nat} (g : (Nat.blt d n, jaD e x, jaD e y) = (true, some (.float k i), some (.float k j))) (hv : ∀ w, (binOp op T (.float k i) (.float k j)).run P w = .ok v w) (h : RL P n ops rest Q ((d, v) :: e) w) : RL P n ops (Oper.mk (some d) (.binOp op T x y T') t p af none :: rest) Q e w := L_fcmp (in1 g) (in1 (in2 g)) (in2 (in2 g)) hv h
theorem Lx {vs : Array Value} {i : Nat} (g : (Nat.blt d n, jaD e x) = (true, some (.tuple vs))) (hv : vs[i]? = some v) (h : RL P n ops rest Q ((d, v) :: e) w) : RL P n ops (Oper.mk (some d) (.extract x i) t p af none :: rest) Q e w := L_extract (in1 g) (in2 g) hv h
theorem Le {T E ty : TypeId} {ao : Option Addr} {len cap : Nat} (hT : P.underlying T = some (.slice E)) (g : (Nat.blt d n, jaD e x) = (true, some (.slice ao len cap))) (h : RL P n ops rest Q ((d, .int .i64 len) :: e) w) : RL P n ops (Oper.mk (some d) (.call { callee := .builtin .len, args := #[x], argTypes := #[T] }) ty p af none :: rest) Q e w := L_len (in1 g) hT (in2 g) h
theorem Ll {T : TypeId} {ad : Addr} (hT : One P T) (g : (Nat.blt d n, jaD e x) = (true, some (.pointer (some ad)))) (hc : w.cell? ad = some v) (h : RL P n ops rest Q ((d, v) :: e) w) : RL P n ops (Oper.mk (some d) (.load T x) t p af none :: rest) Q e w := jgX (in1 g) hT (in2 g) hc h
theorem Lf {T : TypeId} {ad : Addr} {k : Nat} (off : Nat) {fs : Array Field} {f : Field} {z : Value} {sz b : Nat} (hT : P.underlying T = some (.struct fs)) (g : (Nat.blt d n, fs[k]?, f.offset, jaD e x) = (true, some f, off, some (.pointer (some ad)))) (hi : TI P f.type z (sz + 1) b) (h : RL P n ops rest Q ((d, .pointer (some (ad.add off))) :: e) w) : RL P n ops (Oper.mk (some d) (.fieldAddr T x k) t p af none :: rest) Q e w := jbT (in1 g) hT (in1 (in2 g)) (in1 (in2 (in2 g))) hi (in2 (in2 (in2 g))) h
theorem Li {T E : TypeId} {ao : Option Addr} {ad : Addr} {len cap j : Nat} {k : IntKind} {i : Int} {z : Value} {b : Nat} (hT : P.underlying T = some (.slice E)) (hi : TI P E z 1 b) (g : (Nat.blt d n, jaD e x, jaD e y) = (true, some (.slice ao len cap), some (.int k i))) (hj : i = (j : Int)) (hb : j < len) (hao : ao = some ad) (h : RL P n ops rest Q ((d, .pointer (some (ad.add j))) :: e) w) : RL P n ops (Oper.mk (some d) (.indexAddr T x y) t p af none :: rest) Q e w := L_idx1 (in1 g) hT hi (in1 (in2 g)) (in2 (in2 g)) hj hb hao h
theorem LiN {T E : TypeId} {ao : Option Addr} {ad : Addr} {len cap j : Nat} {k : IntKind} {i : Int} {z : Value} {sz b : Nat} (hT : P.underlying T = some (.slice E)) (hi : TI P E z sz b) (g : (Nat.blt d n, jaD e x, jaD e y) = (true, some (.slice ao len cap), some (.int k i))) (hj : i = (j : Int)) (hb : j < len) (hao : ao = some ad) (h : RL P n ops rest Q ((d, .pointer (some (ad.add (j * sz)))) :: e) w) : RL P n ops (Oper.mk (some d) (.indexAddr T x y) t p af none :: rest) Q e w := L_idxN (in1 g) hT hi (in1 (in2 g)) (in2 (in2 g)) hj hb hao h
theorem Lc {f : FuncId} {xs : List Operand} {l : List Value} {ats : Array TypeId} {R : Value -> World -> Prop} (hf : Fun P f) (g : (Nat.blt d n, jdF e xs) = (true, some l)) (hc : Ret P f l w R) (h : ∀ v w', R v w' -> RL P n ops rest Q ((d, v) :: e) w') : RL P n ops (Oper.mk (some d) (.call { callee := .value (.func f), args := xs.toArray, argTypes := ats }) t p af none :: rest) Q e w := L_call (in1 g) hf (in2 g) hc h
theorem Pm (g : (Nat.blt d n, jaD e x) = (true, some v)) (h : PL P n ops K rest ((d, v) :: e)) : PL P n ops K (Oper.mk (some d) (.move x) t p af none :: rest) e := Pv (in1 g) (fun _ => jhW (in2 g)) h
theorem Pn {ad : Addr} (g : (Nat.blt d n, jaD e x) = (true, some (.pointer (some ad)))) (h : PL P n ops K rest ((d, .pointer (some ad)) :: e)) : PL P n ops K (Oper.mk (some d) (.nilCheck x) t p af none :: rest) e := Pv (in1 g) (fun _ => jcN (in2 g)) h
theorem Pfa {T : TypeId} {ad : Addr} {k : Nat} (off : Nat) {fs : Array Field} {f : Field} {z : Value} {sz b : Nat} (hT : P.underlying T = some (.struct fs)) (g : (Nat.blt d n, fs[k]?, f.offset, jaD e x) = (true, some f, off, some (.pointer (some ad)))) (hi : TI P f.type z (sz + 1) b) (h : PL P n ops K rest ((d, .pointer (some (ad.add off))) :: e)) : PL P n ops K (Oper.mk (some d) (.fieldAddr T x k) t p af none :: rest) e := Pv (in1 g) (fun _ => jbA hT (in1 (in2 g)) (in1 (in2 (in2 g))) hi (in2 (in2 (in2 g)))) h
theorem Hm (g : (Nat.blt d n, jaD e x) = (true, some v)) (h : HL P n ops C S K rest ((d, v) :: e)) : HL P n ops C S K (Oper.mk (some d) (.move x) t p af none :: rest) e := Hv (in1 g) (fun _ _ => jhW (in2 g)) h
theorem Hf {T : TypeId} {ad : Addr} {k : Nat} (off : Nat) {fs : Array Field} {f : Field} {z : Value} {sz b : Nat} (hT : P.underlying T = some (.struct fs)) (g : (Nat.blt d n, fs[k]?, f.offset, jaD e x) = (true, some f, off, some (.pointer (some ad)))) (hi : TI P f.type z (sz + 1) b) (h : HL P n ops C S K rest ((d, .pointer (some (ad.add off))) :: e)) : HL P n ops C S K (Oper.mk (some d) (.fieldAddr T x k) t p af none :: rest) e := Hv (in1 g) (fun _ _ => jbA hT (in1 (in2 g)) (in1 (in2 (in2 g))) hi (in2 (in2 (in2 g)))) h
theorem Gm {j q : Nat} {b : Bool} (g' : ((ops[j]?).bind (·.dst), look e q) = (some q, some (.bool b))) (g : (Nat.blt d n, jaD e x) = (true, some v)) (h : RL P n ops rest Q ((d, v) :: e) w) : RL P n ops (Oper.mk (some d) (.move x) t p af (some (j, b)) :: rest) Q e w := Rw g' (Lm g h)
theorem Lmm {d' : Nat} {v' : Value} {t' : TypeId} {p' : String} {af' : Array Edge} (g : (Nat.blt d n, jaD e x) = (true, some v)) (g' : (Nat.blt d' n, jaD ((d, v) :: e) y) = (true, some v')) (h : RL P n ops rest Q ((d', v') :: (d, v) :: e) w) : RL P n ops (Oper.mk (some d) (.move x) t p af none :: Oper.mk (some d') (.move y) t' p' af' none :: rest) Q e w := Lm g (Lm g' h)
theorem Wq {id : Nat} {l : List Oper} {y : Code} (h : RL P n l.toArray l (Exit.then (y.wp P Q) Q) e w) : W P n (.seq (.region id l.toArray false) y) Q e w := Wsq (Wr h)
theorem Wqq {id : Nat} {l : List Oper} {y z : Code} (h : RL P n l.toArray l (Exit.then (y.wp P (Exit.then (z.wp P Q) Q)) (Exit.then (z.wp P Q) Q)) e w) : W P n (.seq (.seq (.region id l.toArray false) y) z) Q e w := Wsq (Wsq (Wr h))
theorem Rr {id : Nat} {l : List Oper} {K : jeG} (h : RL P n l.toArray l Q e w) : RL P n ops [] (Exit.then ((Code.region id l.toArray false).wp P Q) K) e w := Rt (Wr h)
theorem Rq {id : Nat} {l : List Oper} {y : Code} {K : jeG} (h : RL P n l.toArray l (Exit.then (y.wp P Q) Q) e w) : RL P n ops [] (Exit.then ((Code.seq (.region id l.toArray false) y).wp P Q) K) e w := Rt (Wsq (Wr h))
theorem Rqq {id : Nat} {l : List Oper} {y z : Code} {K : jeG} (h : RL P n l.toArray l (Exit.then (y.wp P (Exit.then (z.wp P Q) Q)) (Exit.then (z.wp P Q) Q)) e w) : RL P n ops [] (Exit.then ((Code.seq (.seq (.region id l.toArray false) y) z).wp P Q) K) e w := Rt (Wsq (Wsq (Wr h)))
theorem Ws {y : Code} {K : jeG} (h : W P n y Q e w) : W P n .skip (Exit.then (y.wp P Q) K) e w := jaY (Nt h)
end
section
variable {P : Program} {n : Nat} {Q : jeG} {e : Env} {w w0 : World} {L : List (Nat × Obj)} {ops : Array Oper} {rest : List Oper} {t : TypeId} {p : String} {af : Array Edge} {C : World -> Prop} {S : FuncId -> Array Value -> Value -> Prop} {K : Act -> Prop} {d : Nat} {x y : Operand} {v : Value}
theorem Nq {α : Type} {env : α -> Env} {wd : α -> World} {I : α -> Prop} {μ : α -> Nat} {x : α} (y : α) (is : List Nat) (g : (pick e is, w) = (some (env y), wd y)) (hI : I y) (hm : μ y < μ x) : Nx n (jkT n Q env wd I μ x) e w := Nx_loop y (in1 g) (in2 g) hI hm
theorem Hx {T E : TypeId} {ao : Option Addr} {ad : Addr} {len cap j : Nat} {k : IntKind} {i : Int} {z : Value} {b : Nat} (hT : P.underlying T = some (.slice E)) (hi : TI P E z 1 b) (g : (Nat.blt d n, jaD e x, jaD e y) = (true, some (.slice ao len cap), some (.int k i))) (hj : i = (j : Int)) (hb : j < len) (hao : ao = some ad) (h : HL P n ops C S K rest ((d, .pointer (some (ad.add j))) :: e)) : HL P n ops C S K (Oper.mk (some d) (.indexAddr T x y) t p af none :: rest) e := Hv (in1 g) (fun _ _ => jdC hT hi (in1 (in2 g)) (in2 (in2 g)) hj hb hao) h
theorem Hl {T : TypeId} {ad : Addr} (hT : One P T) (g : (Nat.blt d n, jaD e x) = (true, some (.pointer (some ad)))) (hc : ∀ w, C w -> w.cell? ad = some v) (h : HL P n ops C S K rest ((d, v) :: e)) : HL P n ops C S K (Oper.mk (some d) (.load T x) t p af none :: rest) e := Hv (in1 g) (fun w hw => jaN hT (in2 g) (hc w hw)) h
end
theorem mpA {α β : Type} {f : α -> β} {l m : List α} : (l ++ m).map f = l.map f ++ m.map f := List.map_append
theorem mpC {α β : Type} {f : α -> β} {a : α} {l : List α} : (a :: l).map f = f a :: l.map f := rfl
theorem mpN {α β : Type} {f : α -> β} : [].map f = [] := rfl
theorem smA {l m : List Nat} : (l ++ m).sum = l.sum + m.sum := List.sum_append
theorem smC {a : Nat} {l : List Nat} : (a :: l).sum = a + l.sum := List.sum_cons
theorem smN : ([] : List Nat).sum = 0 := rfl
theorem sS {α : Type} {a b : α} {l : List α} {i : Nat} : (a :: l).set (i + 1) b = a :: l.set i b := rfl
theorem sZ {α : Type} {a b : α} {l : List α} : (a :: l).set 0 b = b :: l := rfl
theorem sA {α : Type} {a : α} {l m : List α} : (a :: l) ++ m = a :: (l ++ m) := rfl
theorem sN {α : Type} {l : List α} : [] ++ l = l := rfl
end Go.Lk
