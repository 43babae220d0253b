/- V13: contracts over pure data, and calls. -/
import Derived.Tactics
import Derived.Test.YtiajgnpobcidmabVa
set_option linter.unusedSimpArgs false
set_option linter.unusedVariables false

set_option linter.unusedVariables false
namespace Go.V

def CanEnter (P : Program) (f : FuncId) : Prop := ∃ fn, P.funcs[f]? = some fn ∧ (fn.name == "runtime.NumGoroutine") = false ∧ fn.body.isSome = true

/-- The blocks that a call leaves alone: all old ones but those of the objects that it is handed. -/
def Zof (w : World) (μ : Mu) (m : Mem) (k : Nat) : Prop := k < w.heap.size ∧ ∀ n o c, m n = some o → μ n ≠ some (k, c)

/-- 'Called with these arguments (that refer to the objects ma), f returns res (that refers to the objects mr).' -/
def FSpec (P : Program) (f : FuncId) (args : List T) (ma : List (Nm × Obj)) (res : T) (mr : List (Nm × Obj)) : Prop :=
  CanEnter P f ∧ ∀ (w : World) (U : Nat → Prop) (μ : Mu) (vals : Array Value), (∀ k, U k → k < w.heap.size) → RM w U (fun _ => False) μ (lk ma) → AllRep w U μ (lk ma) args vals.toList →
    Calls P f vals w fun e w' => ∃ v U' μ', e = .returned v ∧ Pres (Zof w μ (lk ma)) w w' ∧ (∀ k, U k → U' k) ∧ (∀ k, U' k → k < w'.heap.size ∧ (U k ∨ ¬ Zof w μ (lk ma) k)) ∧
      RM w' U' (Zof w μ (lk ma)) μ' (lk mr) ∧ RepT w' U' μ' (lk mr) res v ∧ MStep (lk ma) μ (lk mr) μ'

/-! ### Arguments: pure data out of values -/
def argT (m : List (Nm × Obj)) : T → Option (Prop × T × List Nm)
  | .c x => (toD m x).map fun r => (r.1, .c (.d r.2.1), r.2.2)
  | .agg cs => (toDs m cs).map fun r => (r.1, .agg (r.2.1.map .d), r.2.2)
  | _ => none

def argTs (m : List (Nm × Obj)) : List T → Option (Prop × List T × List Nm)
  | [] => some (True, [], [])
  | x :: xs => match argT m x, argTs m xs with
    | some (p, y, ns), some (q, ys, ns') => some (p ∧ q, y :: ys, ns ++ ns')
    | _, _ => none

/-- The same data, or an empty slice for nil; what lies behind a slice's end does not count. -/
inductive LeD : D → D → Prop
  | refl (x : D) : LeD x x
  | nil (f : Nat → List D) : LeD (.s (.slice none 0 0)) (.l 0 f)
  | l {n : Nat} {f g : Nat → List D} (hl : ∀ j, j < n → (f j).length = (g j).length) (h : ∀ (j q : Nat) x y, j < n → (f j)[q]? = some x → (g j)[q]? = some y → LeD x y) : LeD (.l n f) (.l n g)
theorem LeD.ext {n : Nat} {f g : Nat → List D} (h : ∀ j, j < n → f j = g j) : LeD (.l n f) (.l n g) :=
  .l (fun j hj => by rw [h j hj]) fun j q x y hj hx hy => by rw [h j hj, hy] at hx; injection hx with hx; subst hx; exact .refl _
inductive LeC : C → C → Prop
  | refl (x : C) : LeC x x
  | d {x y : D} (h : LeD x y) : LeC (.d x) (.d y)
inductive LeT : T → T → Prop
  | refl (x : T) : LeT x x
  | c {x y : C} (h : LeC x y) : LeT (.c x) (.c y)
  | agg {xs ys : List C} (hl : xs.length = ys.length) (h : ∀ (i : Nat) x y, xs[i]? = some x → ys[i]? = some y → LeC x y) : LeT (.agg xs) (.agg ys)
def LeTs (xs ys : List T) : Prop := xs.length = ys.length ∧ ∀ (i : Nat) x y, xs[i]? = some x → ys[i]? = some y → LeT x y

theorem LeTs.refl (xs : List T) : LeTs xs xs := ⟨rfl, fun i x y hx hy => by rw [hx] at hy; injection hy with hy; subst hy; exact .refl _⟩
theorem LeTs.nil : LeTs [] [] := LeTs.refl _
theorem LeTs.cons {x y : T} {xs ys : List T} (h : LeT x y) (k : LeTs xs ys) : LeTs (x :: xs) (y :: ys) :=
  ⟨by simp [k.1], fun i u v hu hv => by
    cases i with
    | zero => simp only [List.getElem?_cons_zero, Option.some.injEq] at hu hv; subst hu hv; exact h
    | succ i => exact k.2 i u v (by simpa using hu) (by simpa using hv)⟩
theorem LeT.aggNil : LeT (.agg []) (.agg []) := .refl _
theorem LeT.aggCons {x y : C} {xs ys : List C} (h : LeC x y) (k : LeT (.agg xs) (.agg ys)) : LeT (.agg (x :: xs)) (.agg (y :: ys)) := by
  have hk : xs.length = ys.length ∧ ∀ (i : Nat) u v, xs[i]? = some u → ys[i]? = some v → LeC u v := by
    cases k with
    | refl => exact ⟨rfl, fun i u v hu hv => by rw [hu] at hv; injection hv with hv; subst hv; exact .refl _⟩
    | agg hl h => exact ⟨hl, h⟩
  refine .agg (by simp [hk.1]) fun i u v hu hv => ?_
  cases i with
  | zero => simp only [List.getElem?_cons_zero, Option.some.injEq] at hu hv; subst hu hv; exact h
  | succ i => exact hk.2 i u v (by simpa using hu) (by simpa using hv)

section
variable {Γ : Ctx} {U : Nat → Prop} {μ : Mu} {m : Mem} {st : St} {a : Act} {w : World}

theorem LeD.rep {x y : D} (k : LeD x y) : ∀ {v : Value}, RepD w U x v → RepD w U y v := by
  induction k with
  | refl x => exact fun h => h
  | nil f =>
    intro v h
    cases h with
    | s _ _ => exact .l 0 f none 0 0 (fun _ _ => undef) (Nat.le_refl _) (Nat.zero_le _) (fun j hj => by omega) (fun h => by omega) (fun j q d hj => by omega)
  | l hl hk ih =>
    intro v h
    cases h with
    | l _ _ a cap sz vals hn hc hs ha hv =>
      refine .l _ _ a cap sz vals hn hc (fun j hj => by rw [← hl j hj]; exact hs j hj) ha fun j q d hj hd => ?_
      have hq := (List.getElem?_eq_some_iff.1 hd).1
      rw [← hl j hj] at hq
      exact ih j q _ d hj (List.getElem?_eq_getElem hq) hd (hv j q _ hj (List.getElem?_eq_getElem hq))
theorem LeC.rep {x y : C} {v : Value} (h : RepC w U μ m x v) (k : LeC x y) : RepC w U μ m y v := by
  cases k with
  | refl => exact h
  | d k => cases h with
    | d h => exact .d (k.rep h)
theorem LeT.rep {x y : T} {v : Value} (h : RepT w U μ m x v) (k : LeT x y) : RepT w U μ m y v := by
  cases k with
  | refl => exact h
  | c k => cases h with
    | c h => exact .c (k.rep h)
  | @agg xs ys hl hk => cases h with
    | agg hs h =>
      refine .agg (by rw [hs, hl]) fun i c hc => ?_
      have hlt : i < xs.length := by rw [hl]; exact (List.getElem?_eq_some_iff.1 hc).1
      exact (hk i _ c (List.getElem?_eq_getElem hlt) hc).rep (h i _ (List.getElem?_eq_getElem hlt))

/-- Pure data needs no objects. -/
theorem argT_rep {μ' : Mu} {m0 : Mem} {tf : Nat → Option T} {mm m' : List (Nm × Obj)} {U' : Nat → Prop} (h : RR Γ U' μ tf (lk m') a w) (hm : ∀ n, lk m' n = lk mm n ∨ ∃ o, lk mm n = some o ∧ lk m' n = some o.ice) {x y : T} {p : Prop} {ns : List Nm}
    (hx : argT mm x = some (p, y, ns)) (hp : p) (hU : ∀ n ∈ ns, ∀ o, lk mm n = some o → (∀ ka va g, o ≠ .map ka va g) → ∀ g c, μ n = some (g, c) → U' g) {v : Value} (hv : RepT w U' μ (lk m') x v) : RepT w U' μ' m0 y v := by
  cases hv with
  | c hv =>
    simp only [argT] at hx
    obtain ⟨⟨q, d, ns'⟩, hd, he⟩ := Option.map_eq_some_iff.1 hx
    simp only [Prod.mk.injEq] at he
    obtain ⟨rfl, rfl, rfl⟩ := he
    exact .c (.d (toD_rep h hm hd hp hU hv))
  | @agg cs vs hs hr =>
    simp only [argT] at hx
    obtain ⟨⟨q, ds, ns'⟩, hd, he⟩ := Option.map_eq_some_iff.1 hx
    simp only [Prod.mk.injEq] at he
    obtain ⟨rfl, rfl, rfl⟩ := he
    obtain ⟨l1, l2⟩ := toDs_rep h hm hd hp hU (vs := vs.toList) (fun i c hc => by simpa [List.getD_eq_getElem?_getD] using hr i c hc)
    refine .agg (by simp [l1, hs]) fun i c hc => ?_
    rw [List.getElem?_map] at hc
    obtain ⟨d, hd', rfl⟩ := Option.map_eq_some_iff.1 hc
    exact .d (by simpa [List.getD_eq_getElem?_getD] using l2 i d hd')
  | tup => simp [argT] at hx
  | el => simp [argT] at hx
  | rp => simp [argT] at hx

theorem argTs_rep {μ' : Mu} {m0 : Mem} {tf : Nat → Option T} {mm m' : List (Nm × Obj)} {U' : Nat → Prop} (h : RR Γ U' μ tf (lk m') a w) (hm : ∀ n, lk m' n = lk mm n ∨ ∃ o, lk mm n = some o ∧ lk m' n = some o.ice) {xs : List T} : ∀ {ys : List T} {p : Prop} {ns : List Nm},
    argTs mm xs = some (p, ys, ns) → p → (∀ n ∈ ns, ∀ o, lk mm n = some o → (∀ ka va g, o ≠ .map ka va g) → ∀ g c, μ n = some (g, c) → U' g) → ∀ {vs : List Value}, AllRep w U' μ (lk m') xs vs → AllRep w U' μ' m0 ys vs := by
  induction xs with
  | nil =>
    intro ys p ns hx _ _ vs hv
    simp only [argTs, Option.some.injEq, Prod.mk.injEq] at hx
    obtain ⟨_, rfl, _⟩ := hx
    exact ⟨hv.1, fun i x hx => by simp at hx⟩
  | cons x xs ih =>
    intro ys p ns hx hp hU vs hv
    simp only [argTs] at hx
    split at hx
    case h_2 => cases hx
    rename_i p1 y1 ns1 p2 ys2 ns2 h1 h2
    simp only [Option.some.injEq, Prod.mk.injEq] at hx
    obtain ⟨rfl, rfl, rfl⟩ := hx
    have hp : p1 ∧ p2 := hp
    match vs, hv with
    | [], hv => simp [AllRep] at hv
    | v :: vs, hv =>
      obtain ⟨v1, v2⟩ := hv.tail
      have r1 := argT_rep (μ' := μ') (m0 := m0) h hm h1 hp.1 (fun n hn => hU n (List.mem_append_left _ hn)) v1
      have r2 := ih h2 hp.2 (fun n hn => hU n (List.mem_append_right _ hn)) v2
      refine ⟨by simp [r2.1], fun i z hz => ?_⟩
      cases i with
      | zero => simp only [List.getElem?_cons_zero, Option.some.injEq] at hz; subst hz; simpa using r1
      | succ i => simpa using r2.2 i z (by simpa using hz)

theorem LeTs.rep {xs ys : List T} {vs : List Value} (h : AllRep w U μ m xs vs) (k : LeTs xs ys) : AllRep w U μ m ys vs := by
  refine ⟨by rw [← k.1, h.1], fun i y hy => ?_⟩
  have hlt : i < xs.length := by rw [k.1]; exact (List.getElem?_eq_some_iff.1 hy).1
  exact (k.2 i _ y (List.getElem?_eq_getElem hlt) hy).rep (h.2 i _ (List.getElem?_eq_getElem hlt))

/-! ### Results without a slice: nothing that was handed over can lie in them -/
def noLC : C → Bool
  | .d (.s _) => true
  | _ => false
def noL : T → Bool
  | .c x => noLC x
  | .agg cs => cs.all noLC
  | .tup [] => true
  | .tup [.c x] => noLC x
  | .tup [.c x, .c y] => noLC x && noLC y
  | _ => false

theorem noLC_rep {w' : World} {U' : Nat → Prop} {μ' : Mu} {m' : Mem} {x : C} {v : Value} (hx : noLC x = true) (h : RepC w U μ m x v) : RepC w' U' μ' m' x v := by
  cases h with
  | d h => cases h with
    | s _ h1 => exact .d (.s _ h1)
    | l => simp [noLC] at hx
  | _ => simp [noLC] at hx
theorem noL_rep {w' : World} {U' : Nat → Prop} {μ' : Mu} {m' : Mem} {x : T} {v : Value} (hx : noL x = true) (h : RepT w U μ m x v) : RepT w' U' μ' m' x v := by
  cases h with
  | c h => exact .c (noLC_rep hx h)
  | agg hs h => exact .agg hs fun i c hc => noLC_rep (by simp only [noL, List.all_eq_true] at hx; exact hx c (List.mem_of_getElem? hc)) (h i c hc)
  | @tup ts vs hs h =>
    refine .tup hs fun i t ht => ?_
    have hr := h i t ht
    match ts, hx with
    | [], _ => simp at ht
    | [.c x], hx =>
      have : t = .c x := by
        match i, ht with
        | 0, ht => simpa using ht.symm
      subst this
      cases hr with
      | c hr => exact .c (noLC_rep hx hr)
    | [.c x, .c y], hx =>
      simp only [noL, Bool.and_eq_true] at hx
      have : t = .c x ∨ t = .c y := by
        match i, ht with
        | 0, ht => exact .inl (by simpa using ht.symm)
        | 1, ht => exact .inr (by simpa using ht.symm)
      rcases this with rfl | rfl
      · cases hr with
        | c hr => exact .c (noLC_rep hx.1 hr)
      · cases hr with
        | c hr => exact .c (noLC_rep hx.2 hr)
  | el => simp [noL] at hx
  | rp => simp [noL] at hx

/-! ### The call -/
def callUp (m : List (Nm × Obj)) (ns : List Nm) (res : T) : List (Nm × Obj) := if noL res then [] else iceUp m ns

theorem Calls.run_enter {P : Program} {f : FuncId} (h : CanEnter P f) (args : Array Value) (w : World) : (callFunc f args).run P w = .ok (.enter f args) w := by
  obtain ⟨fn, h1, h2, h3⟩ := h
  have h3' : fn.body.isNone = false := by cases hb : fn.body with
    | none => simp [hb] at h3
    | some b => rfl
  unfold callFunc
  simp only [Sem.run_bind, run_program, Result.andThen, h1, h2, h3', Bool.false_eq_true, if_false]
  rfl

/-- A call of pure data on pure data: what the frame knows goes on. -/
theorem call_pure {Q : Exit → Act → World → Prop} (hR : RR Γ U μ (lk st.t) (lk st.m) a w) {f : FuncId} {ts ts' args : List T} {p : Prop} {ns : List Nm} {res : T} {vals : Array Value} (hts : AllRep w U μ (lk st.m) ts vals.toList)
    (ha : argTs st.m ts = some (p, ts', ns)) (hp : p) (hle : LeTs ts' args) (hspec : FSpec Γ.P f args [] res []) {dst : Option Nat} (hd : ∀ d, dst = some d → d < Γ.N) (rd : List Nm) :
    Calls Γ.P f vals w fun
      | .returned v, w'' => R Γ (st.app dst ⟨some res, callUp st.m ns res, rd⟩) (a.put dst v) w''
      | .panicked chain, w'' => Q (.panic chain) a w''
      | .outgrown, _ => LetsOut Q := by
  obtain ⟨U1, h1, hu1, hi1⟩ := hR.iceAll ns
  have hts1 := (show AllRep w U1 μ (lk (iceUp st.m ns ++ st.m)) ts vals.toList from ⟨hts.1, fun i x hx => (hts.2 i x hx).mono ⟨hu1, fun _ _ => rfl⟩ (MStep.iceUp st.m μ ns)⟩)
  have hts2 := (argTs_rep (μ' := fun _ => none) (m0 := lk []) h1 (lk_iceUp st.m ns) ha hp hi1 hts1)
  have hts3 := LeTs.rep hts2 hle
  refine (hspec.2 w U1 (fun _ => none) vals (fun k hk => (h1.ulim k hk).1) ⟨fun n o ho => by simp at ho, fun n n' o o' g c c' ho => by simp at ho⟩ hts3).mono fun e w' hq => ?_
  obtain ⟨v, U', μ', rfl, q1, q2, q3, q4, q5, _⟩ := hq
  have hold : ∀ k, k < w.heap.size → w'.heap[k]? = w.heap[k]? := fun k hk => q1.block k ⟨hk, fun n o c ho => by simp at ho⟩
  show R Γ _ _ _
  by_cases hno : noL res = true
  · have hg := hR.grown (w' := w') q1.os q1.tape q1.output q1.size hold
    refine R.app (e := ⟨some res, callUp st.m ns res, rd⟩) (by simpa [callUp, hno] using hg) hd fun x hx => ?_
    injection hx with hx
    subst hx
    exact noL_rep hno q5
  · have hU' : ∀ k, U' k → U1 k ∨ w.heap.size ≤ k := fun k hk => by
      rcases (q3 k hk).2 with h | h
      · exact .inl h
      · refine .inr (Nat.le_of_not_lt fun hlt => h ⟨hlt, fun n o c ho => by simp at ho⟩)
    have hs : UStep w U1 w' U' := ⟨q2, fun k hk => hold k (h1.ulim k hk).1⟩
    have hR' : RR Γ U' μ (lk st.t) (lk (iceUp st.m ns ++ st.m)) a w' := by
      refine h1.stepW ⟨q1.os, q1.tape, q1.output, q1.size, fun k hk => hold k (Nat.lt_of_lt_of_le (h1.zlim k hk) h1.pres.size)⟩ hs (MStep.refl _ _) ⟨fun n o ho => ?_, h1.mem.inj⟩ fun k hk => ⟨(q3 k hk).1, ?_⟩
      · refine (h1.mem.ok n o ho).mono hs (MStep.refl _ _) rfl fun g c hg => ?_
        have hlt := (h1.mem.ok n o ho).lt hg
        exact ⟨hold g hlt, fun hu => (hU' g hu).resolve_right (by omega), fun hu => q2 g hu⟩
      · rcases hU' k hk with h | h
        · exact (h1.ulim k h).2
        · refine .inr fun hz => ?_
          have := h1.zlim k hz
          have := h1.pres.size
          omega
    refine R.app (e := ⟨some res, callUp st.m ns res, rd⟩) (by simpa [callUp, hno] using hR') hd fun x hx => ?_
    injection hx with hx
    subst hx
    exact q5.mono (UStep.refl _ _) ⟨fun n ice ty sz k f h => by simp at h, fun n ice cs h => by simp at h, fun n ka va g h => by simp at h⟩
end
end Go.V

/- V13a: what a cell refers to. -/
set_option linter.unusedVariables false
namespace Go.V

/-- What a cell refers to is there. -/
def clC (m : List (Nm × Obj)) : C → Prop
  | .d _ => True
  | .z => True
  | .row n _ => (lk m n).isSome = true
  | .ptr n _ => (lk m n).isSome = true
  | .mp n => (lk m n).isSome = true
  | .clo _ cs => ∀ c ∈ cs, match c with
    | .ptr n _ => (lk m n).isSome = true
    | .row n _ => (lk m n).isSome = true
    | .mp n => (lk m n).isSome = true
    | .d _ => True
    | .z => True
    | .clo _ _ => False
def clT (m : List (Nm × Obj)) : T → Prop
  | .c x => clC m x
  | .agg cs => ∀ c ∈ cs, clC m c
  | .tup _ => False
  | .el n _ _ _ => (lk m n).isSome = true
  | .rp _ => True

theorem isSome_some {α : Type} {x : Option α} (h : x.isSome = true) : ∃ y, x = some y := by cases x with
  | none => cases h
  | some y => exact ⟨y, rfl⟩

theorem lk_mem {β : Type} {l : List (Nat × β)} {k : Nat} {v : β} (h : lk l k = some v) : (k, v) ∈ l := by
  induction l with
  | nil => simp [lk] at h
  | cons x l ih =>
    obtain ⟨a, b⟩ := x
    simp only [lk_cons] at h
    split at h
    · rename_i e
      injection h with h
      subst e h
      simp
    · exact List.mem_cons_of_mem _ (ih h)

end Go.V

/- V25: calls that hand over objects: the callee's names for them, and the caller's. -/
set_option linter.unusedVariables false
namespace Go.V

/-- The caller's name of a callee's object. -/
def rn (ρ : List (Nm × Nm)) (n : Nm) : Nm := (lk ρ n).getD 0

def renC1 (ρ : List (Nm × Nm)) : C → C
  | .ptr n o => .ptr (rn ρ n) o
  | .row n len => .row (rn ρ n) len
  | .mp n => .mp (rn ρ n)
  | c => c
def renC (ρ : List (Nm × Nm)) : C → C
  | .d x => .d x
  | .row n len => .row (rn ρ n) len
  | .z => .z
  | .ptr n o => .ptr (rn ρ n) o
  | .mp n => .mp (rn ρ n)
  | .clo f cs => .clo f (cs.map (renC1 ρ))
def renO (ρ : List (Nm × Nm)) : Obj → Obj
  | .box ice cs => .box ice (cs.map (renC ρ))
  | o => o
def renT (ρ : List (Nm × Nm)) : T → T
  | .c x => .c (renC ρ x)
  | .agg cs => .agg (cs.map (renC ρ))
  | .tup ts => .tup (ts.map fun t => match t with
    | .c x => .c (renC ρ x)
    | .agg cs => .agg (cs.map (renC ρ))
    | t => t)
  | .el n len j q => .el (rn ρ n) len j q
  | .rp cs => .rp cs
def renM (ρ : List (Nm × Nm)) (m : List (Nm × Obj)) : List (Nm × Obj) := m.map fun p => (rn ρ p.1, renO ρ p.2)

/-- What the cells of an object refer to is there. -/
def clO (m : List (Nm × Obj)) : Obj → Prop
  | .box _ cs => ∀ c ∈ cs, clC m c
  | _ => True
/-- A result's parts, two levels deep. -/
def clR (m : List (Nm × Obj)) : T → Prop
  | .c x => clC m x
  | .agg cs => ∀ c ∈ cs, clC m c
  | .tup ts => ∀ t ∈ ts, match t with
    | .c x => clC m x
    | .agg cs => ∀ c ∈ cs, clC m c
    | _ => False
  | .el n _ _ _ => (lk m n).isSome = true
  | .rp _ => True
def Obj.soft : Obj → Bool
  | .box ice _ => !ice
  | .row ice _ _ _ _ => !ice
  | .map _ _ _ => true

section
variable {ρ : List (Nm × Nm)} {w : World} {U : Nat → Prop} {μ : Mu} {m : Mem} {ma : List (Nm × Obj)}

/-- From the caller's words to the callee's. -/
theorem RepC.toCallee1 (hma : ∀ n o, lk ma n = some o → m (rn ρ n) = some (renO ρ o)) {c : C} {v : Value} (hc : clC ma c) (hn : ∀ f cs, c ≠ .clo f cs) (h : RepC w U μ m (renC1 ρ c) v) : RepC w U (fun n => μ (rn ρ n)) (lk ma) c v := by
  cases c with
  | d x => cases h with
    | d h => exact .d h
  | z => cases h with
    | z ad => exact .z ad
  | row n len =>
    obtain ⟨o, ho⟩ := isSome_some hc
    have hm := hma n o ho
    cases h with
    | row ice ty sz k f hm' hk h1 hv =>
      rw [hm] at hm'
      injection hm' with hm'
      cases o with
      | row ice' ty' sz' k' f' =>
        simp only [renO] at hm'
        injection hm' with e1 e2 e3 e4 e5
        subst e4
        exact .row _ _ _ _ _ ho hk h1 hv
      | box => simp [renO] at hm'
      | map => simp [renO] at hm'
  | ptr n off =>
    obtain ⟨o, ho⟩ := isSome_some hc
    have hm := hma n o ho
    cases h with
    | ptr ice cs hm' =>
      rw [hm] at hm'
      injection hm' with hm'
      cases o with
      | box ice' cs' => exact .ptr _ _ ho
      | row => simp [renO] at hm'
      | map => simp [renO] at hm'
  | mp n =>
    obtain ⟨o, ho⟩ := isSome_some hc
    have hm := hma n o ho
    cases h with
    | mp ka va g hm' =>
      rw [hm] at hm'
      injection hm' with hm'
      cases o with
      | map ka' va' g' => exact .mp _ _ _ ho
      | row => simp [renO] at hm'
      | box => simp [renO] at hm'
  | clo f cs => exact absurd rfl (hn f cs)

theorem RepC.toCallee (hma : ∀ n o, lk ma n = some o → m (rn ρ n) = some (renO ρ o)) {c : C} {v : Value} (hc : clC ma c) (h : RepC w U μ m (renC ρ c) v) : RepC w U (fun n => μ (rn ρ n)) (lk ma) c v := by
  cases c with
  | clo f cs =>
    cases h with
    | clo hs hr =>
      refine .clo (by simpa using hs) fun i c hi => ?_
      have hcc := hc c (List.mem_of_getElem? hi)
      have := hr i (renC1 ρ c) (by simp [hi])
      refine RepC.toCallee1 hma ?_ (fun f cs e => ?_) this
      · cases c <;> first | exact hcc | exact hcc.elim
      · subst e; exact hcc.elim
  | d x => exact RepC.toCallee1 hma hc (fun _ _ e => by cases e) h
  | z => exact RepC.toCallee1 hma hc (fun _ _ e => by cases e) h
  | row n len => exact RepC.toCallee1 hma hc (fun _ _ e => by cases e) h
  | ptr n off => exact RepC.toCallee1 hma hc (fun _ _ e => by cases e) h
  | mp n => exact RepC.toCallee1 hma hc (fun _ _ e => by cases e) h

theorem RepT.toCallee (hma : ∀ n o, lk ma n = some o → m (rn ρ n) = some (renO ρ o)) {x : T} {v : Value} (hc : clT ma x) (h : RepT w U μ m (renT ρ x) v) : RepT w U (fun n => μ (rn ρ n)) (lk ma) x v := by
  cases x with
  | c x => cases h with
    | c h => exact .c (h.toCallee hma hc)
  | agg cs => cases h with
    | agg hs hr => exact .agg (by simpa using hs) fun i c hi => (hr i (renC ρ c) (by simp [hi])).toCallee hma (hc c (List.mem_of_getElem? hi))
  | tup ts => exact hc.elim
  | el n len j q =>
    obtain ⟨o, ho⟩ := isSome_some hc
    have hm := hma n o ho
    cases h with
    | el ice ty sz k f hm' hk hj hv =>
      rw [hm] at hm'
      injection hm' with hm'
      cases o with
      | row ice' ty' sz' k' f' =>
        simp only [renO] at hm'
        injection hm' with e1 e2 e3 e4 e5
        subst e3 e4
        exact .el _ _ _ _ _ ho hk hj hv
      | box => simp [renO] at hm'
      | map => simp [renO] at hm'
  | rp cs => cases h with
    | rp ad vals hU h => exact .rp ad vals hU h

theorem ObjOK.toCallee (hma : ∀ n o, lk ma n = some o → m (rn ρ n) = some (renO ρ o)) {Z : Nat → Prop} {n : Nm} {o : Obj} (hc : clO ma o) (h : ObjOK w U Z μ m (rn ρ n) (renO ρ o)) : ObjOK w U (fun _ => False) (fun n => μ (rn ρ n)) (lk ma) n o := by
  cases o with
  | box ice cs =>
    obtain ⟨g, cur, ty, e1, e2, e3, e4, _, e5⟩ := h
    exact ⟨g, cur, ty, e1, e2, by simpa using e3, fun i c hi => (e4 i (renC ρ c) (by simp [hi])).toCallee hma (hc c (List.mem_of_getElem? hi)), fun h => h, e5⟩
  | row ice ty sz k f =>
    obtain ⟨h0, h⟩ := h
    refine ⟨h0, ?_⟩
    rcases h with h | ⟨g, cap, cur, e1, e2, e3, e4, e5, e6, _, e7⟩
    · exact .inl h
    · exact .inr ⟨g, cap, cur, e1, e2, e3, e4, e5, e6, fun h => h, e7⟩
  | map ka va gl =>
    obtain ⟨g, es, clock, e1, e2, e3, _, e5⟩ := h
    exact ⟨g, es, clock, e1, e2, e3, fun h => h, e5⟩
end

section
variable {ρ : List (Nm × Nm)} {w : World} {U : Nat → Prop} {μ2 μ3 : Mu} {m3 : Mem} {mr : List (Nm × Obj)}

/-- From the callee's words to the caller's. -/
theorem RepC.toCaller (hmr : ∀ n o, lk mr n = some o → m3 (rn ρ n) = some (renO ρ o) ∧ μ3 (rn ρ n) = μ2 n) {c : C} {v : Value} (hc : clC mr c) (h : RepC w U μ2 (lk mr) c v) : RepC w U μ3 m3 (renC ρ c) v := by
  cases h with
  | d h => exact .d h
  | z ad => exact .z ad
  | row ice ty sz k f hm hk h1 hv =>
    obtain ⟨e1, e2⟩ := hmr _ _ hm
    exact .row ice ty sz k f e1 hk h1 (fun e => by rw [e2]; exact hv e)
  | ptr ice cs hm =>
    obtain ⟨e1, e2⟩ := hmr _ _ hm
    simp only [renC]
    rw [← e2]
    exact .ptr ice _ e1
  | mp ka va g hm =>
    obtain ⟨e1, e2⟩ := hmr _ _ hm
    simp only [renC]
    rw [← e2]
    exact .mp ka va g e1
  | @clo f cap vs hs hr =>
    refine .clo (by simpa using hs) fun i c hi => ?_
    rw [List.getElem?_map] at hi
    obtain ⟨c0, hc0, rfl⟩ := Option.map_eq_some_iff.1 hi
    have hcc := hc c0 (List.mem_of_getElem? hc0)
    have := hr i c0 hc0
    generalize Array.getD _ i undef = u at this ⊢
    cases c0 with
    | d x => cases this with
      | d h => exact .d h
    | ptr n off =>
      cases this with
      | ptr ice cs hm =>
        obtain ⟨e1, e2⟩ := hmr _ _ hm
        simp only [renC1]
        rw [← e2]
        exact .ptr ice _ e1
    | row n len =>
      cases this with
      | row ice ty sz k f hm hk h1 hv =>
        obtain ⟨e1, e2⟩ := hmr _ _ hm
        exact .row ice ty sz k f e1 hk h1 (fun e => by rw [e2]; exact hv e)
    | z => cases this with
      | z ad => exact .z ad
    | mp n =>
      cases this with
      | mp ka va g hm =>
        obtain ⟨e1, e2⟩ := hmr _ _ hm
        simp only [renC1]
        rw [← e2]
        exact .mp ka va g e1
    | clo => exact hcc.elim

theorem RepT.toCaller (hmr : ∀ n o, lk mr n = some o → m3 (rn ρ n) = some (renO ρ o) ∧ μ3 (rn ρ n) = μ2 n) {x : T} {v : Value} (hc : clR mr x) (h : RepT w U μ2 (lk mr) x v) : RepT w U μ3 m3 (renT ρ x) v := by
  cases h with
  | c h => exact .c (h.toCaller hmr hc)
  | agg hs hr =>
    refine .agg (by simpa using hs) fun i c hi => ?_
    rw [List.getElem?_map] at hi
    obtain ⟨c0, hc0, rfl⟩ := Option.map_eq_some_iff.1 hi
    exact (hr i c0 hc0).toCaller hmr (hc c0 (List.mem_of_getElem? hc0))
  | tup hs hr =>
    refine .tup (by simpa using hs) fun i t hi => ?_
    rw [List.getElem?_map] at hi
    obtain ⟨t0, ht0, rfl⟩ := Option.map_eq_some_iff.1 hi
    have hct := hc t0 (List.mem_of_getElem? ht0)
    have := hr i t0 ht0
    generalize Array.getD _ i undef = u at this ⊢
    cases this with
    | c h => exact .c (h.toCaller hmr hct)
    | agg hs hr =>
      refine .agg (by simpa using hs) fun i c hi => ?_
      rw [List.getElem?_map] at hi
      obtain ⟨c0, hc0, rfl⟩ := Option.map_eq_some_iff.1 hi
      exact (hr i c0 hc0).toCaller hmr (hct c0 (List.mem_of_getElem? hc0))
    | tup => exact hct.elim
    | el => exact hct.elim
    | rp => exact hct.elim
  | el ice ty sz k f hm hk hj hv =>
    obtain ⟨e1, e2⟩ := hmr _ _ hm
    exact .el ice ty sz k f e1 hk hj (fun e => by rw [e2]; exact hv e)
  | rp ad vals hU h => exact .rp ad vals hU h

theorem ObjOK.toCaller (hmr : ∀ n o, lk mr n = some o → m3 (rn ρ n) = some (renO ρ o) ∧ μ3 (rn ρ n) = μ2 n) {Z Z' : Nat → Prop} {n : Nm} {o : Obj} (hn : lk mr n = some o) (hc : clO mr o) (hZ : ∀ g c, μ2 n = some (g, c) → ¬ Z' g) (h : ObjOK w U Z μ2 (lk mr) n o) : ObjOK w U Z' μ3 m3 (rn ρ n) (renO ρ o) := by
  obtain ⟨_, hμ⟩ := hmr n o hn
  cases o with
  | box ice cs =>
    obtain ⟨g, cur, ty, e1, e2, e3, e4, _, e5⟩ := h
    refine ⟨g, cur, ty, hμ.trans e1, e2, by simpa using e3, fun i c hi => ?_, hZ g 0 e1, e5⟩
    rw [List.getElem?_map] at hi
    obtain ⟨c0, hc0, rfl⟩ := Option.map_eq_some_iff.1 hi
    exact (e4 i c0 hc0).toCaller hmr (hc c0 (List.mem_of_getElem? hc0))
  | row ice ty sz k f =>
    obtain ⟨h0, h⟩ := h
    refine ⟨h0, ?_⟩
    rcases h with ⟨h1, h2⟩ | ⟨g, cap, cur, e1, e2, e3, e4, e5, e6, _, e7⟩
    · exact .inl ⟨hμ.trans h1, h2⟩
    · exact .inr ⟨g, cap, cur, hμ.trans e1, e2, e3, e4, e5, e6, hZ g cap e1, e7⟩
  | map ka va gl =>
    obtain ⟨g, es, clock, e1, e2, e3, _, e5⟩ := h
    exact ⟨g, es, clock, hμ.trans e1, e2, e3, hZ g 0 e1, e5⟩
end
end Go.V

/- V26: the call that hands over objects. -/
set_option linter.unusedVariables false
namespace Go.V

/-- A cell that is handed over: the rows of R as they are, the others as pure data. -/
def cellR (R : List Nm) (m : List (Nm × Obj)) : C → Option (Prop × C × List Nm)
  | .row n len => if R.contains n then some (True, .row n len, []) else (toD m (.row n len)).map fun r => (r.1, .d r.2.1, r.2.2)
  | .clo f [] => some (True, .d (.s (.func f #[] #[])), [])
  | .z => some (True, .d (.l 0 fun _ => []), [])
  | c => some (True, c, [])
def cellsR (R : List Nm) (m : List (Nm × Obj)) : List C → Option (Prop × List C × List Nm)
  | [] => some (True, [], [])
  | c :: cs => match cellR R m c, cellsR R m cs with
    | some (p, x, ns), some (q, xs, ns') => some (p ∧ q, x :: xs, ns ++ ns')
    | _, _ => none
def argRef (R : List Nm) (m : List (Nm × Obj)) (x : T) : Option (Prop × T × List Nm) :=
  match x with
  | .c c => (cellR R m c).map fun r => (r.1, .c r.2.1, r.2.2)
  | .agg cs => (cellsR R m cs).map fun r => (r.1, .agg r.2.1, r.2.2)
  | x => some (True, x, [])
def argRefs (R : List Nm) (m : List (Nm × Obj)) : List T → Option (Prop × List T × List Nm)
  | [] => some (True, [], [])
  | x :: xs => match argRef R m x, argRefs R m xs with
    | some (p, y, ns), some (q, ys, ns') => some (p ∧ q, y :: ys, ns ++ ns')
    | _, _ => none

theorem lk_map_some {α : Type} {ρ : List (Nm × Nm)} {g : Nm × Obj → α} {n : Nm} {o : Obj} : ∀ {mr : List (Nm × Obj)}, (∀ p ∈ mr, ∀ q ∈ mr, rn ρ p.1 = rn ρ q.1 → p.1 = q.1) → lk mr n = some o → lk (mr.map fun p => (rn ρ p.1, g p)) (rn ρ n) = some (g (n, o))
  | [], _, h => by cases h
  | (k, x) :: r, hi, h => by
    rw [lk_cons] at h
    rw [List.map_cons, lk_cons]
    split at h
    · rename_i e
      injection h with h
      subst e h
      rw [if_pos rfl]
    · rename_i e
      rw [if_neg fun e' => e (hi (k, x) (by simp) (n, o) (List.mem_cons_of_mem _ (lk_mem h)) e')]
      exact lk_map_some (fun p hp q hq => hi p (List.mem_cons_of_mem _ hp) q (List.mem_cons_of_mem _ hq)) h
theorem lk_map_inv {α : Type} {ρ : List (Nm × Nm)} {g : Nm × Obj → α} {k : Nm} {y : α} : ∀ {mr : List (Nm × Obj)}, lk (mr.map fun p => (rn ρ p.1, g p)) k = some y → ∃ p ∈ mr, rn ρ p.1 = k ∧ g p = y
  | [], h => by cases h
  | p :: r, h => by
    rw [List.map_cons, lk_cons] at h
    split at h
    · rename_i e
      injection h with h
      exact ⟨p, by simp, e, h⟩
    · obtain ⟨q, hq, h1, h2⟩ := lk_map_inv h
      exact ⟨q, List.mem_cons_of_mem _ hq, h1, h2⟩
theorem lk_map_none {α β : Type} {ρ : List (Nm × Nm)} {g : Nm × Obj → α} {g' : Nm × Obj → β} {k : Nm} : ∀ {mr : List (Nm × Obj)}, lk (mr.map fun p => (rn ρ p.1, g p)) k = none → lk (mr.map fun p => (rn ρ p.1, g' p)) k = none
  | [], _ => rfl
  | p :: r, h => by
    rw [List.map_cons, lk_cons] at h ⊢
    split at h
    · cases h
    · rename_i e
      rw [if_neg e]
      exact lk_map_none h
theorem lk_of_mem {m : List (Nm × Obj)} {p : Nm × Obj} (h : p ∈ m) : ∃ o, lk m p.1 = some o := by
  induction m with
  | nil => simp at h
  | cons q r ih =>
    rw [lk_cons]
    split
    · exact ⟨_, rfl⟩
    · rename_i e
      rcases List.mem_cons.1 h with rfl | h
      · exact absurd rfl e
      · exact ih h

section
variable {Γ : Ctx} {U : Nat → Prop} {μ : Mu} {st : St} {a : Act} {w : World}

theorem cellR_rep {R : List Nm} {tf : Nat → Option T} {mm m' : List (Nm × Obj)} {U' : Nat → Prop} (h : RR Γ U' μ tf (lk m') a w) (hm : ∀ n, lk m' n = lk mm n ∨ ∃ o, lk mm n = some o ∧ lk m' n = some o.ice) {c c' : C} {p : Prop} {ns : List Nm}
    (hx : cellR R mm c = some (p, c', ns)) (hp : p) (hU : ∀ n ∈ ns, ∀ o, lk mm n = some o → (∀ ka va g, o ≠ .map ka va g) → ∀ g c, μ n = some (g, c) → U' g) {v : Value} (hv : RepC w U' μ (lk m') c v) : RepC w U' μ (lk m') c' v := by
  unfold cellR at hx
  split at hx
  · rename_i n len
    split at hx
    · simp only [Option.some.injEq, Prod.mk.injEq] at hx
      obtain ⟨_, rfl, _⟩ := hx
      exact hv
    · obtain ⟨⟨p1, d, ns1⟩, h1, h2⟩ := Option.map_eq_some_iff.1 hx
      simp only [Prod.mk.injEq] at h2
      obtain ⟨rfl, rfl, rfl⟩ := h2
      exact .d (toD_rep h hm h1 hp hU hv)
  · simp only [Option.some.injEq, Prod.mk.injEq] at hx
    obtain ⟨_, rfl, rfl⟩ := hx
    exact .d (toD_rep h hm (x := .s (.func _ #[] #[])) (p := True) (ns := []) rfl trivial (fun n hn => by simp at hn) hv)
  · simp only [Option.some.injEq, Prod.mk.injEq] at hx
    obtain ⟨_, rfl, rfl⟩ := hx
    exact .d (toD_rep h hm (x := .l 0 fun _ => []) (p := True) (ns := []) rfl trivial (fun n hn => by simp at hn) hv)
  · simp only [Option.some.injEq, Prod.mk.injEq] at hx
    obtain ⟨_, rfl, _⟩ := hx
    exact hv

theorem cellsR_rep {R : List Nm} {tf : Nat → Option T} {mm m' : List (Nm × Obj)} {U' : Nat → Prop} (h : RR Γ U' μ tf (lk m') a w) (hm : ∀ n, lk m' n = lk mm n ∨ ∃ o, lk mm n = some o ∧ lk m' n = some o.ice) : ∀ {cs cs' : List C} {p : Prop} {ns : List Nm},
    cellsR R mm cs = some (p, cs', ns) → p → (∀ n ∈ ns, ∀ o, lk mm n = some o → (∀ ka va g, o ≠ .map ka va g) → ∀ g c, μ n = some (g, c) → U' g) → ∀ {vs : List Value}, (∀ (i : Nat) c, cs[i]? = some c → RepC w U' μ (lk m') c (vs.getD i undef)) →
    cs'.length = cs.length ∧ ∀ (i : Nat) c, cs'[i]? = some c → RepC w U' μ (lk m') c (vs.getD i undef)
  | [], cs', p, ns, hx, _, _, vs, hv => by
    simp only [cellsR, Option.some.injEq, Prod.mk.injEq] at hx
    obtain ⟨_, rfl, _⟩ := hx
    exact ⟨rfl, hv⟩
  | c :: cs, cs', p, ns, hx, hp, hU, vs, hv => by
    simp only [cellsR] at hx
    split at hx
    case h_2 => cases hx
    rename_i p1 y1 ns1 p2 ys2 ns2 h1 h2
    simp only [Option.some.injEq, Prod.mk.injEq] at hx
    obtain ⟨rfl, rfl, rfl⟩ := hx
    have hp : p1 ∧ p2 := hp
    have r1 := cellR_rep h hm h1 hp.1 (fun n hn => hU n (List.mem_append_left _ hn)) (hv 0 c rfl)
    obtain ⟨l2, r2⟩ := cellsR_rep h hm h2 hp.2 (fun n hn => hU n (List.mem_append_right _ hn)) (vs := vs.tail) (fun i x hx => by
      have := hv (i + 1) x (by simpa using hx)
      cases vs <;> simpa using this)
    refine ⟨by simp [l2], fun i x hx => ?_⟩
    cases i with
    | zero => simp only [List.getElem?_cons_zero, Option.some.injEq] at hx; subst hx; exact r1
    | succ i =>
      have := r2 i x (by simpa using hx)
      cases vs <;> simpa using this

theorem argRefs_rep {R : List Nm} {tf : Nat → Option T} {mm m' : List (Nm × Obj)} {U' : Nat → Prop} (h : RR Γ U' μ tf (lk m') a w) (hm : ∀ n, lk m' n = lk mm n ∨ ∃ o, lk mm n = some o ∧ lk m' n = some o.ice) : ∀ {xs ys : List T} {p : Prop} {ns : List Nm},
    argRefs R mm xs = some (p, ys, ns) → p → (∀ n ∈ ns, ∀ o, lk mm n = some o → (∀ ka va g, o ≠ .map ka va g) → ∀ g c, μ n = some (g, c) → U' g) → ∀ {vs : List Value}, AllRep w U' μ (lk m') xs vs → AllRep w U' μ (lk m') ys vs
  | [], ys, p, ns, hx, _, _, vs, hv => by
    simp only [argRefs, Option.some.injEq, Prod.mk.injEq] at hx
    obtain ⟨_, rfl, _⟩ := hx
    exact hv
  | x :: xs, ys, p, ns, hx, hp, hU, vs, hv => by
    match vs, hv with
    | [], hv => simp [AllRep] at hv
    | v :: vs, hv =>
      obtain ⟨v1, v2⟩ := hv.tail
      simp only [argRefs] at hx
      split at hx
      case h_2 => cases hx
      rename_i p1 y1 ns1 p2 ys2 ns2 h1 h2
      simp only [Option.some.injEq, Prod.mk.injEq] at hx
      obtain ⟨rfl, rfl, rfl⟩ := hx
      have hp : p1 ∧ p2 := hp
      have r1 : RepT w U' μ (lk m') y1 v := by
        unfold argRef at h1
        split at h1
        · obtain ⟨⟨q1, d, ns0⟩, e1, e2⟩ := Option.map_eq_some_iff.1 h1
          simp only [Prod.mk.injEq] at e2
          obtain ⟨rfl, rfl, rfl⟩ := e2
          cases v1 with
          | c v1 => exact .c (cellR_rep h hm e1 hp.1 (fun n hn => hU n (List.mem_append_left _ hn)) v1)
        · obtain ⟨⟨q1, d, ns0⟩, e1, e2⟩ := Option.map_eq_some_iff.1 h1
          simp only [Prod.mk.injEq] at e2
          obtain ⟨rfl, rfl, rfl⟩ := e2
          cases v1 with
          | agg hs hr =>
            obtain ⟨e3, e4⟩ := cellsR_rep h hm e1 hp.1 (fun n hn => hU n (List.mem_append_left _ hn)) (vs := Array.toList _) (fun i c hc => by simpa using hr i c hc)
            exact .agg (by rw [e3]; exact hs) fun i c hc => by simpa using e4 i c hc
        · simp only [Option.some.injEq, Prod.mk.injEq] at h1
          obtain ⟨_, rfl, _⟩ := h1
          exact v1
      have r2 := argRefs_rep h hm h2 hp.2 (fun n hn => hU n (List.mem_append_right _ hn)) v2
      refine ⟨by simp [r2.1], fun i z hz => ?_⟩
      cases i with
      | zero => simp only [List.getElem?_cons_zero, Option.some.injEq] at hz; subst hz; simpa using r1
      | succ i => simpa using r2.2 i z (by simpa using hz)

theorem soft_notU {Z : Nat → Prop} {m : Mem} {n : Nm} {o : Obj} (hs : o.soft = true) (h : ObjOK w U Z μ m n o) {g c : Nat} (hg : μ n = some (g, c)) : ¬ U g := by
  cases o with
  | box ice cs =>
    obtain ⟨g', cur, ty, e1, e2, e3, e4, _, _, e7⟩ := h
    rw [hg] at e1; injection e1 with e1; injection e1 with e1 _; subst e1
    exact e7 (by simpa [Obj.soft] using hs)
  | row ice ty sz k f =>
    obtain ⟨h0, h⟩ := h
    rcases h with ⟨h1, _⟩ | ⟨g', cap, cur, e1, e2, e3, e4, e5, e6, _, _, e7⟩
    · rw [hg] at h1; cases h1
    · rw [hg] at e1; injection e1 with e1; injection e1 with e1 _; subst e1
      exact e7 (by simpa [Obj.soft] using hs)
  | map ka va gl =>
    obtain ⟨g', es, clock, e1, e2, e3, _, e5⟩ := h
    rw [hg] at e1; injection e1 with e1; injection e1 with e1 _; subst e1
    exact e5

/-- What a caller shows for a call that hands over objects. -/
structure CallM (P : Program) (st : St) (ts : List T) (f : FuncId) (ρ : List (Nm × Nm)) (ma : List (Nm × Obj)) (args : List T) (res : T) (mr : List (Nm × Obj)) (ns : List Nm) : Prop where
  conv : ∃ p ts', argRefs (ma.map fun q => rn ρ q.1) st.m ts = some (p, ts', ns) ∧ p ∧ LeTs ts' (args.map (renT ρ))
  clA : ∀ x ∈ args, clT ma x
  objs : ∀ q ∈ ma, lk (iceUp st.m ns ++ st.m) (rn ρ q.1) = some (renO ρ q.2) ∧ q.2.soft = true ∧ clO ma q.2
  injA : ∀ p ∈ ma, ∀ q ∈ ma, rn ρ p.1 = rn ρ q.1 → p.1 = q.1
  injR : ∀ p ∈ mr, ∀ q ∈ mr, rn ρ p.1 = rn ρ q.1 → p.1 = q.1
  new : ∀ q ∈ mr, (lk ma q.1).isSome = true ∨ lk st.m (rn ρ q.1) = none
  clM : ∀ q ∈ mr, clO mr q.2
  clX : clR mr res
  spec : FSpec P f args ma res mr

theorem call_obj {Q : Exit → Act → World → Prop} (hR : RR Γ U μ (lk st.t) (lk st.m) a w) {f : FuncId} {ts args : List T} {ns : List Nm} {res : T} {ma mr : List (Nm × Obj)} {ρ : List (Nm × Nm)} {vals : Array Value} (hts : AllRep w U μ (lk st.m) ts vals.toList)
    (hc : CallM Γ.P st ts f ρ ma args res mr ns) {dst : Option Nat} (hd : ∀ d, dst = some d → d < Γ.N) (rd : List Nm) :
    Calls Γ.P f vals w fun
      | .returned v, w'' => R Γ (st.app dst ⟨some (renT ρ res), renM ρ mr ++ iceUp st.m ns, rd⟩) (a.put dst v) w''
      | .panicked chain, w'' => Q (.panic chain) a w''
      | .outgrown, _ => LetsOut Q := by
  obtain ⟨U1, h1, hu1, hi1⟩ := hR.iceAll ns
  obtain ⟨p, ts', ha, hp, hle⟩ := hc.conv
  have hts1 : AllRep w U1 μ (lk (iceUp st.m ns ++ st.m)) ts vals.toList := ⟨hts.1, fun i x hx => (hts.2 i x hx).mono ⟨hu1, fun _ _ => rfl⟩ (MStep.iceUp st.m μ ns)⟩
  have hts3 := LeTs.rep (argRefs_rep h1 (lk_iceUp st.m ns) ha hp hi1 hts1) hle
  have hma : ∀ n o, lk ma n = some o → lk (iceUp st.m ns ++ st.m) (rn ρ n) = some (renO ρ o) := fun n o ho => (hc.objs (n, o) (lk_mem ho)).1
  have hts4 : AllRep w U1 (fun n => μ (rn ρ n)) (lk ma) args vals.toList := ⟨by simpa using hts3.1, fun i x hx => (hts3.2 i (renT ρ x) (by simp [hx])).toCallee hma (hc.clA x (List.mem_of_getElem? hx))⟩
  have hsoft : ∀ n o, lk ma n = some o → (renO ρ o).soft = true := fun n o ho => by
    have := (hc.objs (n, o) (lk_mem ho)).2.1
    cases o <;> exact this
  have hRM : RM w U1 (fun _ => False) (fun n => μ (rn ρ n)) (lk ma) :=
    ⟨fun n o ho => (h1.mem.ok _ _ (hma n o ho)).toCallee hma (hc.objs (n, o) (lk_mem ho)).2.2, fun n n' o o' g c c' ho ho' hg hg' =>
      hc.injA (n, o) (lk_mem ho) (n', o') (lk_mem ho') (h1.mem.inj _ _ _ _ g c c' (hma n o ho) (hma n' o' ho') hg hg')⟩
  refine (hc.spec.2 w U1 (fun n => μ (rn ρ n)) vals (fun k hk => (h1.ulim k hk).1) hRM hts4).mono fun e w' hq => ?_
  obtain ⟨v, U', μ', rfl, q1, q2, q3, q4, q5, q6⟩ := hq
  show R Γ _ _ _
  -- what is not handed over is kept
  have hfz : ∀ k, U1 k → Zof w (fun n => μ (rn ρ n)) (lk ma) k := fun k hk => ⟨(h1.ulim k hk).1, fun n o c ho hg => soft_notU (hsoft n o ho) (h1.mem.ok _ _ (hma n o ho)) hg hk⟩
  have hs : UStep w U1 w' U' := ⟨q2, fun k hk => q1.block k (hfz k hk)⟩
  have hnz : ∀ k, ¬ Zof w (fun n => μ (rn ρ n)) (lk ma) k → ¬ Γ.Z k := fun k hk hz => by
    refine hk ⟨Nat.lt_of_lt_of_le (h1.zlim k hz) h1.pres.size, fun n o c ho hg => (h1.mem.ok _ _ (hma n o ho)).notZ hg hz⟩
  let m1 := iceUp st.m ns ++ st.m
  let L : List (Nm × Nm) := mr.map fun p => (rn ρ p.1, p.1)
  let μ3 : Mu := fun k => match lk L k with
    | some n => μ' n
    | none => μ k
  have hmap : renM ρ mr = mr.map fun p => (rn ρ p.1, renO ρ p.2) := rfl
  have hL : ∀ n o, lk mr n = some o → lk L (rn ρ n) = some n := fun n o ho => lk_map_some (g := fun p => p.1) hc.injR ho
  have hmr : ∀ n o, lk mr n = some o → lk (renM ρ mr ++ m1) (rn ρ n) = some (renO ρ o) ∧ μ3 (rn ρ n) = μ' n := fun n o ho => by
    refine ⟨?_, ?_⟩
    · rw [lk_append, hmap, lk_map_some (g := fun p => renO ρ p.2) hc.injR ho]
      rfl
    · show (match lk L (rn ρ n) with | some n => μ' n | none => μ (rn ρ n)) = μ' n
      rw [hL n o ho]
  have hLk : ∀ k n, lk L k = some n → rn ρ n = k ∧ ∃ o, lk mr n = some o := fun k n hk => by
    obtain ⟨q, hq, h1, h2⟩ := lk_map_inv (g := fun p => p.1) hk
    subst h2
    exact ⟨h1, lk_of_mem hq⟩
  have hout : ∀ k, lk L k = none → lk (renM ρ mr ++ m1) k = lk m1 k ∧ μ3 k = μ k := fun k hk => by
    refine ⟨?_, ?_⟩
    · rw [lk_append, hmap, lk_map_none (g' := fun p => renO ρ p.2) hk]
      rfl
    · show (match lk L k with | some n => μ' n | none => μ k) = μ k
      rw [hk]
  have hin : ∀ k n x, lk L k = some n → lk m1 k = some x → ∃ oa, lk ma n = some oa ∧ x = renO ρ oa := fun k n x hk hx => by
    obtain ⟨hrn, o, ho⟩ := hLk k n hk
    have hsome : (lk ma n).isSome = true := by
      rcases hc.new (n, o) (lk_mem ho) with h | h
      · exact h
      · exfalso
        rcases lk_iceUp st.m ns k with e | ⟨o', ho', _⟩
        · have : lk m1 k = lk st.m k := e
          rw [this, ← hrn] at hx
          have h' : lk st.m (rn ρ n) = none := h
          rw [h'] at hx
          cases hx
        · have h' : lk st.m (rn ρ n) = none := h
          rw [← hrn, h'] at ho'
          cases ho'
    obtain ⟨oa, hoa⟩ := isSome_some hsome
    refine ⟨oa, hoa, ?_⟩
    have := hma n oa hoa
    rw [hrn] at this
    have hx' : lk (iceUp st.m ns ++ st.m) k = some x := hx
    rw [hx'] at this
    injection this
  have hm : MStep (lk m1) μ (lk (renM ρ mr ++ m1)) μ3 := by
    have both : ∀ k n x, lk L k = some n → lk m1 k = some x → ∃ oa o, lk ma n = some oa ∧ x = renO ρ oa ∧ lk mr n = some o ∧ lk (renM ρ mr ++ m1) k = some (renO ρ o) ∧ μ3 k = μ' n ∧ rn ρ n = k := fun k n x hLc hk => by
      obtain ⟨oa, hoa, hx⟩ := hin k n _ hLc hk
      obtain ⟨hrn, o, ho⟩ := hLk k n hLc
      obtain ⟨g1, g2⟩ := hmr n o ho
      rw [hrn] at g1 g2
      exact ⟨oa, o, hoa, hx, ho, g1, g2, hrn⟩
    refine ⟨fun k ice ty sz q fl hk => ?_, fun k ice cs hk => ?_, fun k ka va g hk => ?_⟩
    · cases hLc : lk L k with
      | none =>
        obtain ⟨e1, e2⟩ := hout k hLc
        exact ⟨ice, q, fl, e1.trans hk, Nat.le_refl _, fun _ => e2⟩
      | some n =>
        obtain ⟨oa, o, hoa, hx, ho, g1, g2, hrn⟩ := both k n _ hLc hk
        cases oa with
        | row ice' ty' sz' q' fl' =>
          have hx' : Obj.row ice ty sz q fl = Obj.row ice' ty' sz' q' fl' := hx
          injection hx' with x1 x2 x3 x4 x5
          subst x1 x2 x3 x4 x5
          obtain ⟨i2, k2, f2, a1, a2, a3⟩ := q6.1 n _ _ _ _ _ hoa
          rw [ho] at a1
          injection a1 with a1
          subst a1
          refine ⟨i2, k2, f2, g1, a2, fun e => ?_⟩
          rw [g2, a3 e, ← hrn]
        | box => simp [renO] at hx
        | map => simp [renO] at hx
    · cases hLc : lk L k with
      | none =>
        obtain ⟨e1, e2⟩ := hout k hLc
        exact ⟨ice, cs, e1.trans hk, e2⟩
      | some n =>
        obtain ⟨oa, o, hoa, hx, ho, g1, g2, hrn⟩ := both k n _ hLc hk
        cases oa with
        | box ice' cs' =>
          obtain ⟨i2, c2, a1, a2⟩ := q6.2.1 n _ _ hoa
          rw [ho] at a1
          injection a1 with a1
          subst a1
          refine ⟨i2, _, g1, ?_⟩
          rw [g2, a2, ← hrn]
        | row => simp [renO] at hx
        | map => simp [renO] at hx
    · cases hLc : lk L k with
      | none =>
        obtain ⟨e1, e2⟩ := hout k hLc
        exact ⟨g, e1.trans hk, e2⟩
      | some n =>
        obtain ⟨oa, o, hoa, hx, ho, g1, g2, hrn⟩ := both k n _ hLc hk
        cases oa with
        | map ka' va' gl' =>
          have hx' : Obj.map ka va g = Obj.map ka' va' gl' := hx
          injection hx' with x1 x2 x3
          subst x1 x2 x3
          obtain ⟨g3, a1, a2⟩ := q6.2.2 n _ _ _ hoa
          rw [ho] at a1
          injection a1 with a1
          subst a1
          refine ⟨g3, g1, ?_⟩
          rw [g2, a2, ← hrn]
        | row => simp [renO] at hx
        | box => simp [renO] at hx
  have hkeep : ∀ k x g c, lk L k = none → lk m1 k = some x → μ k = some (g, c) → Zof w (fun n => μ (rn ρ n)) (lk ma) g := fun k x g c hLc hk hg => by
    refine ⟨(h1.mem.ok k x hk).lt hg, fun n o c' ho hg' => ?_⟩
    have hkn := h1.mem.inj k (rn ρ n) x _ g c c' hk (hma n o ho) hg hg'
    have : ∃ o', lk mr n = some o' := by
      cases o with
      | row ice ty sz q fl => obtain ⟨_, _, _, a1, _⟩ := q6.1 n _ _ _ _ _ ho; exact ⟨_, a1⟩
      | box ice cs => obtain ⟨_, _, a1, _⟩ := q6.2.1 n _ _ ho; exact ⟨_, a1⟩
      | map ka va gl => obtain ⟨_, a1, _⟩ := q6.2.2 n _ _ _ ho; exact ⟨_, a1⟩
    obtain ⟨o', ho'⟩ := this
    have := hL n o' ho'
    rw [← hkn, hLc] at this
    cases this
  have hRR : RR Γ U' μ3 (lk st.t) (lk (renM ρ mr ++ m1)) a w' := by
    refine h1.stepW ⟨q1.os, q1.tape, q1.output, q1.size, fun k hk => q1.block k ?_⟩ hs hm ⟨fun k o3 ho3 => ?_, fun k k' o o' g c c' ho ho' hg hg' => ?_⟩ fun k hk => ⟨(q3 k hk).1, ?_⟩
    · exact Classical.byContradiction fun hz => hnz k hz hk
    · cases hLc : lk L k with
      | none =>
        obtain ⟨e1, e2⟩ := hout k hLc
        rw [e1] at ho3
        refine (h1.mem.ok k o3 ho3).mono hs hm e2 fun g c hg => ?_
        have hz := hkeep k o3 g c hLc ho3 hg
        exact ⟨q1.block g hz, fun hu => ((q3 g hu).2).resolve_right fun h => h hz, fun hu => q2 g hu⟩
      | some n =>
        obtain ⟨hrn, o, ho⟩ := hLk k n hLc
        obtain ⟨g1, g2⟩ := hmr n o ho
        rw [hrn] at g1
        rw [g1] at ho3
        injection ho3 with ho3
        subst ho3
        rw [← hrn]
        exact (q4.ok n o ho).toCaller hmr ho (hc.clM (n, o) (lk_mem ho)) fun g c hg => hnz g ((q4.ok n o ho).notZ hg)
    · cases hLc : lk L k with
      | none =>
        obtain ⟨e1, e2⟩ := hout k hLc
        rw [e1] at ho
        rw [e2] at hg
        have hz := hkeep k o g c hLc ho hg
        cases hLc' : lk L k' with
        | none =>
          obtain ⟨e1', e2'⟩ := hout k' hLc'
          rw [e1'] at ho'
          rw [e2'] at hg'
          exact h1.mem.inj k k' o o' g c c' ho ho' hg hg'
        | some n' =>
          obtain ⟨hrn', o2, ho2⟩ := hLk k' n' hLc'
          obtain ⟨_, g2⟩ := hmr n' o2 ho2
          rw [hrn'] at g2
          rw [g2] at hg'
          exact absurd hz ((q4.ok n' o2 ho2).notZ hg')
      | some n =>
        obtain ⟨hrn, o1, ho1⟩ := hLk k n hLc
        obtain ⟨_, g2⟩ := hmr n o1 ho1
        rw [hrn] at g2
        rw [g2] at hg
        have hz := (q4.ok n o1 ho1).notZ hg
        cases hLc' : lk L k' with
        | none =>
          obtain ⟨e1', e2'⟩ := hout k' hLc'
          rw [e1'] at ho'
          rw [e2'] at hg'
          exact absurd (hkeep k' o' g c' hLc' ho' hg') hz
        | some n' =>
          obtain ⟨hrn', o2, ho2⟩ := hLk k' n' hLc'
          obtain ⟨_, g2'⟩ := hmr n' o2 ho2
          rw [hrn'] at g2'
          rw [g2'] at hg'
          rw [← hrn, ← hrn', q4.inj n n' o1 o2 g c c' ho1 ho2 hg hg']
    · rcases (q3 k hk).2 with h | h
      · exact (h1.ulim k h).2
      · exact .inr (hnz k h)
  refine R.app (e := ⟨some (renT ρ res), renM ρ mr ++ iceUp st.m ns, rd⟩) (μ := μ3) (by rw [List.append_assoc]; exact hRR) hd fun x hx => ?_
  injection hx with hx
  subst hx
  rw [List.append_assoc]
  exact q5.toCaller hmr hc.clX
end
end Go.V

/- V14: the operations of a statement in the order of the text; code; how a contract is proved. -/
set_option linter.unusedVariables false
namespace Go.V

def calleeOf : T → Option (FuncId × List T × List C)
  | .c (.d (.s (.func (.func f) first cap))) => if cap.toList = [] ∧ first.toList.all (·.oneCell') = true then some (f, first.toList.map fun v => .c (.d (.s v)), []) else none
  | .c (.clo (.func f) cs) => some (f, [], cs)
  | _ => none
/-- All arguments: what is bound, what is given, what is captured. -/
def allA (us ts : List T) (cs : List C) : List T := us ++ ts ++ cs.map T.c
@[simp] theorem allA_nil (ts : List T) : allA [] ts [] = ts := by simp [allA]
/-- The names that a call with objects looks at. -/
def rdM (ρ : List (Nm × Nm)) (ma mr : List (Nm × Obj)) (ns : List Nm) : List Nm := (mr.map fun q => rn ρ q.1) ++ (ma.map fun q => rn ρ q.1) ++ ns

/-- A call of a function whose contract is known. -/
def callE (P : Program) (st : St) (fo : Operand) (xs : List Operand) (k : Eff → Prop) : Prop :=
  match (opd st fo).bind calleeOf, opdL st xs with
  | some (f, us, cs), some ts => (match argTs st.m (allA us ts cs) with
    | some (p, ts', ns) => p ∧ ∃ args res, LeTs ts' args ∧ FSpec P f args [] res [] ∧ k ⟨some res, callUp st.m ns res, ns⟩
    | none => False) ∨ ∃ ρ ma args res mr ns, CallM P st (allA us ts cs) f ρ ma args res mr ns ∧ k ⟨some (renT ρ res), renM ρ mr ++ iceUp st.m ns, rdM ρ ma mr ns⟩
  | _, _ => False

theorem callE_ok {P : Program} {st : St} {fo : Operand} {xs : List Operand} {k : Eff → Prop} {f : FuncId} {us ts ts' : List T} {cs : List C} {p : Prop} {ns : List Nm} {args : List T} {res : T} (h1 : (opd st fo).bind calleeOf = some (f, us, cs)) (h2 : opdL st xs = some ts) (h3 : argTs st.m (allA us ts cs) = some (p, ts', ns)) (hp : p)
    (hle : LeTs ts' args) (hs : FSpec P f args [] res []) (hk : k ⟨some res, callUp st.m ns res, ns⟩) : callE P st fo xs k := by
  unfold callE
  simp only [h1, h2, h3]
  exact .inl ⟨hp, args, res, hle, hs, hk⟩

theorem callE_obj {P : Program} {st : St} {fo : Operand} {xs : List Operand} {k : Eff → Prop} {f : FuncId} {us ts : List T} {cs : List C} (ρ : List (Nm × Nm)) {ns : List Nm} {ma : List (Nm × Obj)} {args : List T} {res : T} {mr : List (Nm × Obj)} (h1 : (opd st fo).bind calleeOf = some (f, us, cs)) (h2 : opdL st xs = some ts)
    (hc : CallM P st (allA us ts cs) f ρ ma args res mr ns) (hk : k ⟨some (renT ρ res), renM ρ mr ++ iceUp st.m ns, rdM ρ ma mr ns⟩) : callE P st fo xs k := by
  unfold callE
  simp only [h1, h2]
  exact .inr ⟨ρ, ma, args, res, mr, ns, hc, hk⟩

/-- The same state, said simpler: nothing else of a call is touched. -/
@[congr] theorem callE_congr {P : Program} {st st' : St} {fo : Operand} {xs : List Operand} {k : Eff → Prop} (h : st = st') : callE P st fo xs k = callE P st' fo xs k := by rw [h]

def evK (r : Option (Prop × Eff)) (k : Eff → Prop) : Prop := match r with
  | some (p, e) => p ∧ k e
  | none => False
@[congr] theorem evK_congr {r r' : Option (Prop × Eff)} {k : Eff → Prop} (h : r = r') : evK r k = evK r' k := by rw [h]
@[simp] theorem evK_some (p : Prop) (e : Eff) (k : Eff → Prop) : evK (some (p, e)) k = (p ∧ k e) := rfl
@[simp] theorem evK_none (k : Eff → Prop) : evK none k = False := rfl
def gdK (r : Option Bool) (u : Prop) (k : Bool → Prop) : Prop := match r with
  | some b => k b
  | none => u
@[congr] theorem gdK_congr {r r' : Option Bool} {u : Prop} {k : Bool → Prop} (h : r = r') : gdK r u k = gdK r' u k := by rw [h]
@[simp] theorem gdK_some (b : Bool) (u : Prop) (k : Bool → Prop) : gdK (some b) u k = k b := rfl
@[simp] theorem gdK_none (u : Prop) (k : Bool → Prop) : gdK none u k = u := rfl

/-- What an operation leaves that is not wanted. -/
def skE : Eff := ⟨some (.tup []), [], []⟩
def isU : Option T → Bool
  | some (.tup []) => true
  | _ => false

def dstOK (N : Nat) (o : Oper) : Prop := match o.dst with | some d => d < N | none => True

def stepE (P : Program) (tab : Tab) (et : EqTab) (N : Nat) (o : Oper) (st : St) (k : Eff → Prop) : Prop :=
  dstOK N o ∧
  match o.op with
  | .call { callee := .value fo, args := args, argTypes := _ } => callE P st fo args.toList k
  | op => evK (ev tab et st o.dst op) k

/-- The value that a guard waits for. -/
def gdV (ops : List Oper) (st : St) (j : Nat) : Option Bool :=
  match (ops[j]?).bind (·.dst) with
  | some t => (lk st.t t).bind asB
  | none => none

/-- The temporary of a guard. -/
def gdT (ops : List Oper) (j : Nat) : Nat := (((ops[j]?).bind (·.dst)).getD 0)
def St.set (st : St) (t : Nat) (b : Bool) : St := ⟨(t, tB b) :: st.t, st.m⟩

/-- The guard's operation itself was not wanted. -/
def gdU (ops : List Oper) (st : St) (j : Nat) : Bool := match (ops[j]?).bind (·.dst) with
  | some t => isU (lk st.t t)
  | none => false

def vops (P : Program) (tab : Tab) (et : EqTab) (N : Nat) (ops : List Oper) (K : St → Prop) : List Oper → St → Prop
  | [], st => K st
  | o :: r, st => match o.guard with
    | none => stepE P tab et N o st fun e => vops P tab et N ops K r (st.app o.dst e)
    | some (j, true) => gdK (gdV ops st j) (gdU ops st j = true ∧ dstOK N o ∧ vops P tab et N ops K r (st.app o.dst skE)) fun b => (b = true → stepE P tab et N o (st.set (gdT ops j) true) fun e => vops P tab et N ops K r ((st.set (gdT ops j) true).app o.dst e)) ∧ (b = false → dstOK N o ∧ vops P tab et N ops K r ((st.set (gdT ops j) false).app o.dst skE))
    | some (j, false) => gdK (gdV ops st j) (gdU ops st j = true ∧ dstOK N o ∧ vops P tab et N ops K r (st.app o.dst skE)) fun b => (b = false → stepE P tab et N o (st.set (gdT ops j) false) fun e => vops P tab et N ops K r ((st.set (gdT ops j) false).app o.dst e)) ∧ (b = true → dstOK N o ∧ vops P tab et N ops K r ((st.set (gdT ops j) true).app o.dst skE))

section
variable {Γ : Ctx} {U : Nat → Prop} {μ : Mu} {m : Mem} {st : St} {a : Act} {w : World} {tab : Tab} {et : EqTab} {Q : Exit → Act → World → Prop}

theorem calleeOf_rep {x : T} {v : Value} {f : FuncId} {us : List T} {cs : List C} (hx : RepT w U μ m x v) (h : calleeOf x = some (f, us, cs)) : ∃ first cap : Array Value, v = .func (.func f) first cap ∧ AllRep w U μ m us first.toList ∧ AllRep w U μ m (cs.map T.c) cap.toList := by
  unfold calleeOf at h
  split at h
  · split at h
    case isFalse => cases h
    rename_i first cap hc
    obtain ⟨h0, hall⟩ := hc
    have : cap = #[] := by simpa using h0
    subst this
    simp only [Option.some.injEq, Prod.mk.injEq] at h
    obtain ⟨rfl, rfl, rfl⟩ := h
    cases hx with
    | c hx => cases hx with
      | d hx => cases hx with
        | s _ _ =>
          refine ⟨first, #[], rfl, ⟨by simp, fun i x hx => ?_⟩, ⟨rfl, fun i x hx => by simp at hx⟩⟩
          rw [List.getElem?_map] at hx
          obtain ⟨v, hv, rfl⟩ := Option.map_eq_some_iff.1 hx
          rw [List.getD_eq_getElem?_getD, hv]
          exact .c (.d (.s v (List.all_eq_true.1 hall v (List.mem_of_getElem? hv))))
  · simp only [Option.some.injEq, Prod.mk.injEq] at h
    obtain ⟨rfl, rfl, rfl⟩ := h
    cases hx with
    | c hx => cases hx with
      | clo hs hr =>
        refine ⟨#[], _, rfl, ⟨rfl, fun i x hx => by simp at hx⟩, ⟨by simpa using hs.symm, fun i x hx => ?_⟩⟩
        rw [List.getElem?_map] at hx
        obtain ⟨c, hc, rfl⟩ := Option.map_eq_some_iff.1 hx
        exact .c (by simpa using hr i c hc)
  · cases h

theorem AllRep.append {xs ys : List T} {us vs : List Value} (h : AllRep w U μ m xs us) (k : AllRep w U μ m ys vs) : AllRep w U μ m (xs ++ ys) (us ++ vs) := by
  refine ⟨by simp [h.1, k.1], fun i x hx => ?_⟩
  by_cases hi : i < xs.length
  · rw [List.getElem?_append_left hi] at hx
    have hi' : i < us.length := by rw [← h.1]; exact hi
    rw [List.getD_eq_getElem?_getD, List.getElem?_append_left hi', ← List.getD_eq_getElem?_getD]
    exact h.2 i x hx
  · rw [List.getElem?_append_right (by omega)] at hx
    rw [List.getD_eq_getElem?_getD, List.getElem?_append_right (by rw [← h.1]; omega), ← List.getD_eq_getElem?_getD, ← h.1]
    exact k.2 _ x hx

theorem callE_sound {k : Eff → Prop} {o : Oper} {fo : Operand} {args : Array Operand} {ats : Array TypeId} (hop : o.op = .call { callee := .value fo, args := args, argTypes := ats }) (hR : R Γ st a w) (h : callE Γ.P st fo args.toList k) (hd : ∀ d, o.dst = some d → d < Γ.N) :
    ∃ e, k e ∧ o.wp Γ.P a w (R Γ (st.app o.dst e)) Q := by
  obtain ⟨U, μ, hRR⟩ := hR
  unfold callE at h
  split at h
  case h_2 => exact h.elim
  rename_i f us cs ts hf hts
  obtain ⟨x, hx, hc⟩ := Option.bind_eq_some_iff.1 hf
  obtain ⟨first, cap, hv, hrep, hrepc⟩ := calleeOf_rep (opd_rep hRR hx) hc
  have hargs : (args.map a.eval).toList = args.toList.map a.eval := by simp
  have hall : AllRep w U μ (lk st.m) (allA us ts cs) (first ++ args.map a.eval ++ cap).toList := by
    rw [Array.toList_append, Array.toList_append, hargs]
    exact (hrep.append (opdL_rep hRR hts)).append hrepc
  have hexec : CanEnter Γ.P f → (execOp a.eval o).run Γ.P w = .ok (.enter f (first ++ args.map a.eval ++ cap)) w := fun hce => by
    simp only [execOp, hop, resolve, hv, Deferred.ofValue, Sem.run_bind, Sem.run_pure, Result.andThen, invoke]
    exact Calls.run_enter hce _ w
  rcases h with h | ⟨ρ, ma, ar, res, mr, ns, hcm, hk⟩
  · split at h
    case h_2 => exact h.elim
    rename_i p ts' ns hat
    obtain ⟨hp, ar, res, hle, hspec, hk⟩ := h
    refine ⟨_, hk, ?_⟩
    have hcall := call_pure (Q := Q) hRR hall hat hp hle hspec hd ns
    unfold Oper.wp
    rw [hexec hspec.1]
    exact hcall
  · refine ⟨_, hk, ?_⟩
    have hcall := call_obj (Q := Q) hRR hall hcm hd (rdM ρ ma mr ns)
    unfold Oper.wp
    rw [hexec hcm.spec.1]
    exact hcall

theorem stepE_sound {k : Eff → Prop} (hT : TabOK Γ.P tab) (hq : EqOK Γ.P et) {o : Oper} (hR : R Γ st a w) (h : stepE Γ.P tab et Γ.N o st k) : ∃ e, k e ∧ o.wp Γ.P a w (R Γ (st.app o.dst e)) Q := by
  obtain ⟨hdst, h⟩ := h
  have hd : ∀ d, o.dst = some d → d < Γ.N := fun d e => by unfold dstOK at hdst; rw [e] at hdst; exact hdst
  split at h
  · rename_i fo args ats hop
    exact callE_sound hop hR h hd
  · unfold evK at h
    split at h
    · rename_i p e he
      exact ⟨_, h.2, ev_sound hT hq hR he h.1 hd⟩
    · exact h.elim

theorem gdV_rep (hR : R Γ st a w) {ops : List Oper} {j : Nat} {b : Bool} (h : gdV ops st j = some b) : yielded ops.toArray a.tmps j = some b := by
  obtain ⟨U, μ, hRR⟩ := hR
  unfold gdV at h
  split at h
  · rename_i t ht
    obtain ⟨x, hx, hb⟩ := Option.bind_eq_some_iff.1 h
    have := asB_rep (hRR.tmp t x hx) hb
    unfold yielded
    have ht' : (ops.toArray[j]?).bind (·.dst) = some t := by simpa using ht
    rw [ht']
    have hlt : t < a.tmps.size := by
      rcases Nat.lt_or_ge t a.tmps.size with h1 | h1
      · exact h1
      · simp [Array.getElem?_eq_none h1, undef] at this
    have hget : a.tmps[t]? = some (.bool b) := by
      rw [Array.getD_eq_getD_getElem?] at this
      simpa [hlt] using this
    simp [hget]
  · cases h

theorem gdU_rep (hR : R Γ st a w) {ops : List Oper} {j : Nat} (h : gdU ops st j = true) : yielded ops.toArray a.tmps j = none := by
  obtain ⟨U, μ, hRR⟩ := hR
  unfold gdU at h
  split at h
  case h_2 => cases h
  rename_i t ht
  unfold isU at h
  split at h
  case h_2 => cases h
  rename_i hx
  have hv := hRR.tmp _ _ hx
  unfold yielded
  have ht' : (ops.toArray[j]?).bind (·.dst) = some t := by simpa using ht
  rw [ht']
  generalize hq : a.tmps.getD t undef = q at hv
  cases hv with
  | @tup _ vs hs h =>
    cases hg : a.tmps[t]? with
    | none => simp [hg]
    | some y =>
      have : y = .tuple vs := by simpa [Array.getD_eq_getD_getElem?, hg] using hq
      subst this
      simp [hg]

/-- A guard's temporary holds its value. -/
theorem gdV_set (hR : R Γ st a w) {ops : List Oper} {j : Nat} {b : Bool} (h : gdV ops st j = some b) : R Γ (st.set (gdT ops j) b) a w := by
  obtain ⟨U, μ, hRR⟩ := hR
  unfold gdV at h
  split at h
  · rename_i t ht
    obtain ⟨x, hx, hb⟩ := Option.bind_eq_some_iff.1 h
    have hv := asB_rep (hRR.tmp t x hx) hb
    have hgt : gdT ops j = t := by unfold gdT; rw [ht]; rfl
    rw [hgt]
    refine ⟨U, μ, hRR.pres, hRR.zlim, hRR.usub, hRR.ulim, hRR.mem, fun k y hy => ?_, hRR.size, hRR.defers, hRR.fix, hRR.hi⟩
    simp only [St.set, lk_cons] at hy
    split at hy
    · rename_i e
      subst e
      injection hy with hy
      subst hy
      rw [hv]
      exact .c (.d (.s _ rfl))
    · exact hRR.tmp k y hy
  · cases h

theorem vops_sound (hT : TabOK Γ.P tab) (hq : EqOK Γ.P et) {ops : List Oper} {K : St → Prop} (hQ : ∀ st a w, K st → R Γ st a w → Q .normal a w) : ∀ (r : List Oper) (st : St) (a : Act) (w : World), R Γ st a w → vops Γ.P tab et Γ.N ops K r st → wpList Γ.P ops.toArray Q r a w := by
  intro r
  induction r with
  | nil => intro st a w hR h; exact hQ st a w h hR
  | cons o r ih =>
    intro st a w hR h
    unfold wpList
    have run : ∀ st, R Γ st a w → (Region.wanted o (yielded ops.toArray a.tmps)) = true → (stepE Γ.P tab et Γ.N o st fun e => vops Γ.P tab et Γ.N ops K r (st.app o.dst e)) → (if Region.wanted o (yielded ops.toArray a.tmps) then (o.wp Γ.P a w (wpList Γ.P ops.toArray Q r) Q ∨ (o.asks Γ.P a w ∧ LetsOut Q)) else wpList Γ.P ops.toArray Q r (a.put o.dst undef) w) := fun st hR hw h => by
      rw [if_pos hw]
      obtain ⟨e, hk, hw⟩ := stepE_sound (Q := Q) hT hq hR h
      exact .inl (Oper.wp_mono (fun a' w' hR' => ih _ a' w' hR' hk) hw)
    have skip : ∀ st, R Γ st a w → (Region.wanted o (yielded ops.toArray a.tmps)) = false → dstOK Γ.N o ∧ vops Γ.P tab et Γ.N ops K r (st.app o.dst skE) → (if Region.wanted o (yielded ops.toArray a.tmps) then (o.wp Γ.P a w (wpList Γ.P ops.toArray Q r) Q ∨ (o.asks Γ.P a w ∧ LetsOut Q)) else wpList Γ.P ops.toArray Q r (a.put o.dst undef) w) := fun st hR hw h => by
      rw [if_neg (by simp [hw])]
      obtain ⟨hdst, h2⟩ := h
      refine ih _ _ w ?_ h2
      obtain ⟨U, μ, hRR⟩ := hR
      exact R.app (e := skE) (by simpa [skE] using hRR) (fun d e => by unfold dstOK at hdst; rw [e] at hdst; exact hdst) fun x hx => by
        injection hx with hx
        subst hx
        exact .tup rfl fun i t ht => by simp at ht
    simp only [vops] at h
    split at h
    · rename_i hg
      exact run st hR (by simp [Region.wanted, hg]) h
    · rename_i j hg
      unfold gdK at h
      split at h
      case h_2 => exact skip st hR (by simp [Region.wanted, hg, gdU_rep hR h.1]) h.2
      rename_i b hb
      have hy := gdV_rep hR hb
      have hs := gdV_set hR hb
      cases b with
      | true => exact run _ hs (by simp [Region.wanted, hg, hy]) (h.1 rfl)
      | false => exact skip _ hs (by simp [Region.wanted, hg, hy]) (h.2 rfl)
    · rename_i j hg
      unfold gdK at h
      split at h
      case h_2 => exact skip st hR (by simp [Region.wanted, hg, gdU_rep hR h.1]) h.2
      rename_i b hb
      have hy := gdV_rep hR hb
      have hs := gdV_set hR hb
      cases b with
      | false => exact run _ hs (by simp [Region.wanted, hg, hy]) (h.1 rfl)
      | true => exact skip _ hs (by simp [Region.wanted, hg, hy]) (h.2 rfl)
end

/-! ### Code -/
def AWp (P : Program) (N : Nat) (c : Code) (Q : Exit → St → Prop) (st : St) : Prop :=
  ∀ Γ : Ctx, Γ.P = P → Γ.N = N → ∀ a w, R Γ st a w → c.wp P (fun e a' w' => ∃ st', Q e st' ∧ R Γ st' a' w') a w

@[congr] theorem AWp_congr {P : Program} {N : Nat} {c : Code} {Q : Exit → St → Prop} {st st' : St} (h : st = st') : AWp P N c Q st = AWp P N c Q st' := by rw [h]

section
variable {P : Program} {N : Nat} {tab : Tab} {et : EqTab} {st : St} {Q : Exit → St → Prop}

theorem awp_mono {c : Code} {Q' : Exit → St → Prop} (h : AWp P N c Q st) (hq : ∀ e st, Q e st → Q' e st) : AWp P N c Q' st :=
  fun Γ hP hN a w hR => wp_mono (h Γ hP hN a w hR) fun e a w ⟨st', q, r⟩ => ⟨st', hq e st' q, r⟩

theorem awp_skip (h : Q .normal st) : AWp P N .skip Q st := fun Γ _ _ a w hR => wp_skip ⟨st, h, hR⟩
theorem awp_ret (h : Q .ret st) : AWp P N .ret Q st := fun Γ _ _ a w hR => wp_ret ⟨st, h, hR⟩
theorem awp_exit {i : Nat} (h : Q (.exit i) st) : AWp P N (.exit i) Q st := fun Γ _ _ a w hR => wp_exit ⟨st, h, hR⟩

theorem awp_region (hT : TabOK P tab) (hq : EqOK P et) {id : Nat} {ops : List Oper} (h : vops P tab et N ops (Q .normal) ops st) : AWp P N (.region id ops.toArray false) Q st := by
  intro Γ hP hN a w hR
  subst hP hN
  exact wp_region_lit (vops_sound hT hq (Q := fun e a' w' => ∃ st', Q e st' ∧ R Γ st' a' w') (fun st' a' w' hk hR' => ⟨st', hk, hR'⟩) ops st a w hR h)

def thenQ (Q : Exit → St → Prop) (k : St → Prop) : Exit → St → Prop
  | .normal, st => k st
  | e, st => Q e st

theorem awp_seq {x y : Code} (h : AWp P N x (thenQ Q (AWp P N y Q)) st) : AWp P N (.seq x y) Q st := by
  intro Γ hP hN a w hR
  refine wp_seq (wp_mono (h Γ hP hN a w hR) fun e a' w' hq => ?_)
  obtain ⟨st', q, r⟩ := hq
  cases e with
  | normal => exact q Γ hP hN a' w' r
  | _ => exact ⟨st', q, r⟩

theorem awp_cond {c : Operand} {x y : Code} {t : T} {b : Bool} (hc : opd st c = some t) (hb : asB t = some b) (ht : b = true → AWp P N x Q st) (hf : b = false → AWp P N y Q st) : AWp P N (.cond c x y) Q st := by
  intro Γ hP hN a w hR
  obtain ⟨U, μ, hRR⟩ := id hR
  have hv := asB_rep (opd_rep hRR hc) hb
  exact wp_cond_split hv (fun e => ht e Γ hP hN a w hR) (fun e => hf e Γ hP hN a w hR)

def blockQ (id : Nat) (Q : Exit → St → Prop) : Exit → St → Prop
  | .exit i, st => if i = id then Q .normal st else Q (.exit i) st
  | e, st => Q e st

theorem awp_block {id : Nat} {c : Code} (h : AWp P N c (blockQ id Q) st) : AWp P N (.block id c) Q st := by
  intro Γ hP hN a w hR
  refine wp_block (wp_mono (h Γ hP hN a w hR) fun e a' w' hq => ?_)
  obtain ⟨st', q, r⟩ := hq
  cases e with
  | exit i =>
    simp only [blockQ] at q
    simp only [Exit.inBlock]
    split at q
    · rename_i e; rw [if_pos e]; exact ⟨st', q, r⟩
    · rename_i e; rw [if_neg e]; exact ⟨st', q, r⟩
  | _ => exact ⟨st', q, r⟩

/-- A statement, and what it leaves, said in one way. -/
theorem awp_cut {x y : Code} (st' : St) (h : AWp P N x (thenQ (fun _ _ => False) fun s => ∀ Γ a w, R Γ s a w → R Γ st' a w) st) (k : AWp P N y Q st') : AWp P N (.seq x y) Q st := by
  refine awp_seq (awp_mono h fun e s hq => ?_)
  cases e with
  | normal => exact fun Γ hP hN a w hR => k Γ hP hN a w (hq Γ a w hR)
  | _ => exact hq.elim

/-- A loop: an invariant that bears a number, which every round lowers. -/
theorem awp_loop {c : Code} (I : Nat → St → Prop) (n0 : Nat) (h0 : I n0 st) (round : ∀ n st, I n st → AWp P N c (thenQ Q fun st' => ∃ n', n' < n ∧ I n' st') st) : AWp P N (.loop c) Q st := by
  intro Γ hP hN a w hR b k cs
  have key : ∀ n st a w, I n st → R Γ st a w →
      ∃ e a' w', (∃ st', Q e st' ∧ R Γ st' a' w') ∧ Arrives P (lone (b.at a (.code c :: .inLoop c :: k)) cs w) b k cs e a' w' := by
    intro n
    induction n using Nat.strongRecOn with
    | _ n ih =>
      intro st a w hI hR
      obtain ⟨e, a₁, w₁, ⟨st1, hq, hr⟩, harr⟩ := round n st hI Γ hP hN a w hR b (.inLoop c :: k) cs
      cases e with
      | normal =>
        obtain ⟨n', hlt, hI₁⟩ := hq
        obtain ⟨e₂, a₂, w₂, hq₂, harr₂⟩ := ih n' hlt st1 a₁ w₁ hI₁ hr
        exact ⟨e₂, a₂, w₂, hq₂, .of_steps (Steps.trans harr (.one step_inLoop)) harr₂⟩
      | exit id => exact ⟨_, a₁, w₁, ⟨st1, hq, hr⟩, .pass (x := .inLoop c) rfl (fun _ _ => .inl (by simp)) harr⟩
      | goto l => exact ⟨_, a₁, w₁, ⟨st1, hq, hr⟩, .pass (x := .inLoop c) rfl (fun _ _ => .inl (by simp)) harr⟩
      | ret => exact ⟨_, a₁, w₁, ⟨st1, hq, hr⟩, .pass (x := .inLoop c) rfl (fun _ _ => .inl (by simp)) harr⟩
      | panic ch => exact ⟨_, a₁, w₁, ⟨st1, hq, hr⟩, .pass (x := .inLoop c) rfl (fun _ _ => .inl (by simp)) harr⟩
      | outgrown => exact ⟨_, a₁, w₁, ⟨st1, hq, hr⟩, .pass (x := .inLoop c) rfl (fun _ _ => .inl (by simp)) harr⟩
  obtain ⟨e, a', w', hq, harr⟩ := key n0 st a w h0 hR
  exact ⟨e, a', w', hq, .of_steps (.one step_loop) harr⟩
end
end Go.V

/- V15: how a contract is proved; a state may be said with less, or in other words. -/
set_option linter.unusedVariables false
namespace Go.V

/-- The values of the results. -/
def resV (tab : Tab) (st : St) : List ResultVar → Option (Prop × List T)
  | [] => some (True, [])
  | .tmp t :: r => match lk st.t t, resV tab st r with
    | some x, some (p, l) => some (p, x :: l)
    | _, _ => none
  | .cell a ty :: r => match lk st.t a, resV tab st r with
    | some x, some (p, l) => match evLoad tab st ty x with
      | some (q, e) => match e.v with
        | some y => some (q ∧ p, y :: l)
        | none => none
      | none => none
    | _, _ => none

def retT (m : List (Nm × Obj)) : List T → Option (Prop × T × List Nm)
  | [x] => argT m x
  | l => (argTs m l).map fun r => (r.1, .tup r.2.1, r.2.2)

/-- Results as pure data: LeT, or part by part. -/
def LeR : T → T → Prop
  | .tup xs, .tup ys => LeTs xs ys
  | x, y => LeT x y

def initT (k : Nat) : List T → List (Nat × T)
  | [] => []
  | x :: r => (k, x) :: initT (k + 1) r

def RetOK (tab : Tab) (rs : List ResultVar) (res : T) (e : Exit) (st : St) : Prop :=
  (e = .normal ∨ e = .ret) ∧ match resV tab st rs with
    | some (p, l) => p ∧ match retT st.m l with
      | some (q, y, _) => q ∧ LeR y res
      | none => False
    | none => False

section
variable {Γ : Ctx} {U : Nat → Prop} {μ : Mu} {m : Mem} {st : St} {a : Act} {w : World} {tab : Tab}

/-- How a result variable is read. -/
structure ReadsR (f : ResultVar → Sem Value) (tmps : Array Value) : Prop where
  tmp : ∀ t, f (.tmp t) = pure (tmps.getD t undef)
  cell : ∀ q t, f (.cell q t) = (do loadVar t (← asAddr (tmps.getD q undef)))

theorem resV_rep (hT : TabOK Γ.P tab) (h : RR Γ U μ (lk st.t) (lk st.m) a w) {f : ResultVar → Sem Value} (hf : ReadsR f a.tmps) : ∀ {rs : List ResultVar} {p : Prop} {l : List T}, resV tab st rs = some (p, l) → p →
    ∃ vs : List Value, (rs.mapM f).run Γ.P w = .ok vs w ∧ AllRep w U μ (lk st.m) l vs
  | [], p, l, hr, _ => by
    simp only [resV, Option.some.injEq, Prod.mk.injEq] at hr
    obtain ⟨_, rfl⟩ := hr
    exact ⟨[], rfl, rfl, fun i x hx => by simp at hx⟩
  | .tmp t :: rs, p, l, hr, hp => by
    simp only [resV] at hr
    split at hr
    case h_2 => cases hr
    rename_i x q l' hx hl
    simp only [Option.some.injEq, Prod.mk.injEq] at hr
    obtain ⟨rfl, rfl⟩ := hr
    obtain ⟨vs, h1, h2⟩ := resV_rep hT h hf hl hp
    refine ⟨a.tmps.getD t undef :: vs, by simp only [List.mapM_cons, hf.tmp, Sem.run_bind, Sem.run_pure, Result.andThen, h1], by simp [h2.1], fun i y hy => ?_⟩
    cases i with
    | zero => simp only [List.getElem?_cons_zero, Option.some.injEq] at hy; subst hy; simpa using h.tmp t x hx
    | succ i => simpa using h2.2 i y (by simpa using hy)
  | .cell c ty :: rs, p, l, hr, hp => by
    simp only [resV] at hr
    split at hr
    case h_2 => cases hr
    rename_i x q l' hx hl
    split at hr
    case h_2 => cases hr
    rename_i q2 e he
    split at hr
    case h_2 => cases hr
    rename_i y hy
    simp only [Option.some.injEq, Prod.mk.injEq] at hr
    obtain ⟨rfl, rfl⟩ := hr
    have hp : q2 ∧ q := hp
    obtain ⟨vs, h1, h2⟩ := resV_rep hT h hf hl hp.2
    have hrx := h.tmp c x hx
    obtain ⟨ad, had⟩ := evLoad_ptr hrx he
    obtain ⟨y', v, rd, e1, e2, e3⟩ := evLoad_goodP hT h hrx he hp.1
    subst e1
    injection hy with hy
    subst hy
    have hload : (loadVar ty ad).run Γ.P w = .ok v w := by
      rw [had] at e2
      simpa [Instr.loadAt, Instr.sureAddr] using e2
    refine ⟨v :: vs, by simp only [List.mapM_cons, hf.cell, Sem.run_bind, had, asAddr, Sem.run_pure, Result.andThen, hload, h1], by simp [h2.1], fun i z hz => ?_⟩
    cases i with
    | zero => simp only [List.getElem?_cons_zero, Option.some.injEq] at hz; subst hz; simpa using e3
    | succ i => simpa using h2.2 i z (by simpa using hz)

theorem results_run {P : Program} {fn : Func} {rs : List ResultVar} (hrs : fn.results.toList = rs) {tmps : Array Value} {vs : List Value} (h : ∀ f : ResultVar → Sem Value, ReadsR f tmps → (rs.mapM f).run P w = .ok vs w) :
    ∃ v, (results fn tmps).run P w = .ok v w ∧ ((∃ u, vs = [u] ∧ v = u) ∨ (vs.length ≠ 1 ∧ v = .tuple vs.toArray)) := by
  have hr : fn.results = rs.toArray := by rw [← hrs]
  unfold results
  rw [hr, List.mapM_toArray]
  simp only [Sem.run_bind, Sem.run_map]
  rw [h _ ⟨fun _ => rfl, fun _ _ => rfl⟩]
  match vs with
  | [u] => exact ⟨u, by simp, .inl ⟨u, rfl, rfl⟩⟩
  | [] => exact ⟨.tuple #[], by simp, .inr ⟨by simp, rfl⟩⟩
  | u :: v :: r => exact ⟨.tuple (u :: v :: r).toArray, by simp, .inr ⟨by simp, rfl⟩⟩

/-- A reading of results. -/
noncomputable def readR (tmps : Array Value) : ResultVar → Sem Value
  | .tmp t => pure (tmps.getD t undef)
  | .cell q t => do loadVar t (← asAddr (tmps.getD q undef))

theorem initT_lk : ∀ {xs : List T} {k t : Nat} {x : T}, lk (initT k xs) t = some x → k ≤ t ∧ xs[t - k]? = some x
  | [], k, t, x, h => by simp [initT] at h
  | y :: ys, k, t, x, h => by
    simp only [initT, lk_cons] at h
    split at h
    · rename_i e
      subst e
      injection h with h
      subst h
      exact ⟨Nat.le_refl _, by simp⟩
    · obtain ⟨h1, h2⟩ := initT_lk h
      refine ⟨by omega, ?_⟩
      rw [show t - k = (t - (k + 1)) + 1 by omega]
      simpa using h2

/-- A contract over pure data, by the walk through the function's code. -/
theorem fspec_intro {P : Program} {f : FuncId} {fn : Func} {c : Code} {args : List T} {res : T} (hf : P.funcs[f]? = some fn) (hname : (fn.name == "runtime.NumGoroutine") = false) (hb : fn.body = some c) (hT : TabOK P tab) {rs : List ResultVar} (hrs : fn.results.toList = rs) {N : Nat} (hN : fn.ntmps = N)
    (hlen : args.length ≤ N) (h : AWp P N c (RetOK tab rs res) ⟨initT 0 args, []⟩) : FSpec P f args [] res [] := by
  refine ⟨⟨fn, hf, hname, by simp [hb]⟩, fun w U μ vals hU hRM hargs => ?_⟩
  have hsz : vals.size = args.length := by have := hargs.1; simp at this; exact this.symm
  refine calls_of_wp hf hb ?_
  let Γ : Ctx := { P := P, w0 := w, Z := Zof w μ (lk []), U0 := U, N := N, m0 := lk [], μ0 := μ }
  have hR : R Γ ⟨initT 0 args, []⟩ { tmps := vals ++ Array.replicate (fn.ntmps - vals.size) undef, defers := [] } w := by
    refine ⟨U, μ, Pres.refl _ _, fun k hk => hk.1, fun _ hk => hk, fun k hk => ⟨hU k hk, .inl hk⟩, ⟨fun n o ho => by simp at ho, fun n n' o o' g c c' ho => by simp at ho⟩, fun t x hx => ?_, ?_, rfl, MStep.refl _ _, fun n o ho => by cases ho⟩
    · obtain ⟨_, hx⟩ := initT_lk hx
      simp only [Nat.sub_zero] at hx
      have hlt : t < vals.size := by rw [hsz]; exact (List.getElem?_eq_some_iff.1 hx).1
      have := hargs.2 t x hx
      have hget : (vals ++ Array.replicate (fn.ntmps - vals.size) undef).getD t undef = vals.toList.getD t undef := by
        simp only [Array.getD_eq_getD_getElem?, List.getD_eq_getElem?_getD, Array.getElem?_append_left hlt, Array.getElem?_toList]
      rw [hget]
      exact this
    · show (vals ++ Array.replicate (fn.ntmps - vals.size) undef).size = N
      simp
      omega
  have key := h Γ rfl rfl _ w hR
  refine wp_mono key fun e a' w' hq => ?_
  obtain ⟨st', ⟨he, hq⟩, U', μ', hRR⟩ := hq
  split at hq
  case h_2 => exact hq.elim
  rename_i p l hres
  obtain ⟨hp, hq⟩ := hq
  split at hq
  case h_2 => exact hq.elim
  rename_i q y ns hret
  obtain ⟨hq, hle⟩ := hq
  have hTΓ : TabOK Γ.P tab := hT
  obtain ⟨vs, hrun0, hrep⟩ := resV_rep (f := readR a'.tmps) hTΓ hRR ⟨fun _ => rfl, fun _ _ => rfl⟩ hres hp
  have hrun : ∀ f : ResultVar → Sem Value, ReadsR f a'.tmps → (rs.mapM f).run P w' = .ok vs w' := fun f hf => by
    have hff : f = readR a'.tmps := by
      funext r
      cases r with
      | tmp t => exact hf.tmp t
      | cell q t => exact hf.cell q t
    subst hff
    exact hrun0
  obtain ⟨v, hv, hform⟩ := results_run hrs hrun
  have hfin : ∃ U2, RepT w' U2 (fun _ => none) (lk []) res v ∧ (∀ k, U' k → U2 k) ∧ ∀ k, U2 k → k < w'.heap.size ∧ (U k ∨ ¬ Zof w μ (lk []) k) := by
    obtain ⟨U2, g1, gu1, gi1⟩ := hRR.iceAll ns
    have hrep1 : AllRep w' U2 μ' (lk (iceUp st'.m ns ++ st'.m)) l vs := ⟨hrep.1, fun i x hx => (hrep.2 i x hx).mono ⟨gu1, fun _ _ => rfl⟩ (MStep.iceUp st'.m μ' ns)⟩
    refine ⟨U2, ?_, gu1, fun k hk => g1.ulim k hk⟩
    rcases hform with ⟨u, rfl, rfl⟩ | ⟨hne, rfl⟩
    · match l, hrep1 with
      | [x], hrep1 =>
        simp only [retT] at hret
        have hx := (hrep1.tail).1
        have hy := argT_rep (μ' := fun _ => none) (m0 := lk []) g1 (lk_iceUp st'.m ns) hret hq gi1 hx
        have hle' : LeT y res := by
          cases hy with
          | tup => cases x <;> simp [argT] at hret
          | _ => simpa [LeR] using hle
        exact hle'.rep hy
      | [], hrep1 => simp [AllRep] at hrep1
      | _ :: _ :: _, hrep1 => simp [AllRep] at hrep1
    · have hl1 : l.length ≠ 1 := by rw [hrep.1]; exact hne
      have hret' : (argTs st'.m l).map (fun r => (r.1, T.tup r.2.1, r.2.2)) = some (q, y, ns) := by
        match l, hl1 with
        | [], _ => simpa [retT] using hret
        | x :: z :: l, _ => simpa [retT] using hret
      obtain ⟨⟨q', ys, ns'⟩, ha, he'⟩ := Option.map_eq_some_iff.1 hret'
      simp only [Prod.mk.injEq] at he'
      obtain ⟨rfl, rfl, rfl⟩ := he'
      have hys := argTs_rep (μ' := fun _ => none) (m0 := lk []) g1 (lk_iceUp st'.m ns') ha hq gi1 hrep1
      have hleR : ∃ zs, res = .tup zs ∧ LeTs ys zs := by
        cases res with
        | tup zs => exact ⟨zs, rfl, hle⟩
        | c x => simp only [LeR] at hle; cases hle
        | agg x => simp only [LeR] at hle; cases hle
        | el n k j q => simp only [LeR] at hle; cases hle
        | rp x => simp only [LeR] at hle; cases hle
      obtain ⟨zs, rfl, hz⟩ := hleR
      have hzs := LeTs.rep hys hz
      refine .tup (by simpa using hzs.1.symm) fun i t ht => ?_
      simpa [List.getD_eq_getElem?_getD] using hzs.2 i t ht
  obtain ⟨U2, r1, r2, r3⟩ := hfin
  have hpost : a'.defers = [] ∧ ∃ v, (results fn a'.tmps).run P w' = .ok v w' ∧ (fun e w' => ∃ v U' μ', e = Ending.returned v ∧ Pres (Zof w μ (lk [])) w w' ∧ (∀ k, U k → U' k) ∧ (∀ k, U' k → k < w'.heap.size ∧ (U k ∨ ¬ Zof w μ (lk []) k)) ∧
      RM w' U' (Zof w μ (lk [])) μ' (lk []) ∧ RepT w' U' μ' (lk []) res v ∧ MStep (lk []) μ (lk []) μ') (.returned v) w' :=
    ⟨hRR.defers, v, hv, v, U2, fun _ => none, rfl, hRR.pres, fun k hk => r2 k (hRR.usub k hk), r3, ⟨fun n o ho => by simp at ho, fun n n' o o' g c c' ho => by simp at ho⟩, r1, ⟨fun n ice ty sz k f h => by simp at h, fun n ice cs h => by simp at h, fun n ka va g h => by simp at h⟩⟩
  rcases he with rfl | rfl
  · exact hpost
  · exact hpost
end
end Go.V

/- V16: a state said with less, or in other words. -/
set_option linter.unusedVariables false
namespace Go.V

def Weak (st st' : St) : Prop := ∀ Γ a w, R Γ st a w → R Γ st' a w

theorem awp_weak {P : Program} {N : Nat} {c : Code} {Q : Exit → St → Prop} {st st' : St} (hw : Weak st st') (h : AWp P N c Q st') : AWp P N c Q st :=
  fun Γ hP hN a w hR => h Γ hP hN a w (hw Γ a w hR)
theorem Weak.refl (st : St) : Weak st st := fun _ _ _ h => h
theorem Weak.trans {s1 s2 s3 : St} (h : Weak s1 s2) (k : Weak s2 s3) : Weak s1 s3 := fun Γ a w hR => k Γ a w (h Γ a w hR)

/-- The contents agree, as far as the row goes. -/
def LeF (k : Nat) (f g : Nat → List D) : Prop := LeD (.l k f) (.l k g)

def LeO (m : List (Nm × Obj)) : Obj → Obj → Prop
  | .row ice ty sz k f, .row ice' ty' sz' k' f' => ice = ice' ∧ ty = ty' ∧ sz = sz' ∧ k = k' ∧ LeF k f f'
  | .box ice cs, .box ice' cs' => ice = ice' ∧ LeT (.agg cs) (.agg cs') ∧ ∀ c ∈ cs', clC m c
  | .map ka va g, .map ka' va' g' => ka = ka' ∧ va = va' ∧ g = g'
  | _, _ => False

def wkT (st : St) (m : List (Nm × Obj)) : List (Nat × T) → Prop
  | [] => True
  | (t, x) :: r => (match lk st.t t with | some y => LeT y x ∧ clT m x | none => False) ∧ wkT st m r
def wkM (st : St) (m : List (Nm × Obj)) : List (Nm × Obj) → Prop
  | [] => True
  | (n, o) :: r => (match lk st.m n with | some o0 => LeO m o0 o | none => False) ∧ wkM st m r

/-- What was handed over is not forgotten. -/
def wkHi (m' : List (Nm × Obj)) : List (Nm × Obj) → Prop
  | [] => True
  | (n, _) :: r => (n < HI ∨ (lk m' n).isSome = true) ∧ wkHi m' r

theorem wkHi_lk {m' : List (Nm × Obj)} : ∀ {l : List (Nm × Obj)}, wkHi m' l → ∀ n o, lk l n = some o → HI ≤ n → (lk m' n).isSome = true
  | [], _, n, o, h, _ => by simp at h
  | (k, z) :: r, hw, n, o, h, hn => by
    rw [lk_cons] at h
    split at h
    · rename_i e
      subst e
      exact hw.1.resolve_left fun h1 => absurd h1 (Nat.not_lt.2 hn)
    · exact wkHi_lk hw.2 n o h hn

theorem wkT_lk {st : St} {m : List (Nm × Obj)} : ∀ {l : List (Nat × T)}, wkT st m l → ∀ t x, lk l t = some x → ∃ y, lk st.t t = some y ∧ LeT y x ∧ clT m x
  | [], _, t, x, h => by simp at h
  | (k, z) :: r, hw, t, x, h => by
    rw [lk_cons] at h
    split at h
    · rename_i e
      subst e
      injection h with h
      subst h
      have := hw.1
      split at this
      · rename_i y hy; exact ⟨y, hy, this⟩
      · exact this.elim
    · exact wkT_lk hw.2 t x h
theorem wkM_lk {st : St} {m : List (Nm × Obj)} : ∀ {l : List (Nm × Obj)}, wkM st m l → ∀ n o, lk l n = some o → ∃ o0, lk st.m n = some o0 ∧ LeO m o0 o
  | [], _, n, o, h => by simp at h
  | (k, z) :: r, hw, n, o, h => by
    rw [lk_cons] at h
    split at h
    · rename_i e
      subst e
      injection h with h
      subst h
      have := hw.1
      split at this
      · rename_i y hy; exact ⟨y, hy, this⟩
      · exact this.elim
    · exact wkM_lk hw.2 n o h

section
variable {Γ : Ctx} {U : Nat → Prop} {μ : Mu} {m : Mem} {a : Act} {w : World}

theorem MStep.weakHi {m0 m : Mem} {μ0 μ : Mu} {m' : List (Nm × Obj)} (h : MStep m0 μ0 m μ) (hhi : ∀ n o, m0 n = some o → HI ≤ n) (hM : ∀ n o, lk m' n = some o → ∃ o0, m n = some o0 ∧ LeO m' o0 o) (hk : ∀ n o, m n = some o → HI ≤ n → (lk m' n).isSome = true) : MStep m0 μ0 (lk m') μ := by
  have key : ∀ n o o0, m0 n = some o → m n = some o0 → ∃ o1, lk m' n = some o1 ∧ LeO m' o0 o1 := fun n o o0 h0 h1 => by
    obtain ⟨o1, ho1⟩ := isSome_some (hk n o0 h1 (hhi n o h0))
    obtain ⟨o2, h2, hle⟩ := hM n o1 ho1
    rw [h1] at h2
    injection h2 with h2
    subst h2
    exact ⟨o1, ho1, hle⟩
  refine ⟨fun n ice ty sz q f hn => ?_, fun n ice cs hn => ?_, fun n ka va g hn => ?_⟩
  · obtain ⟨i1, k1, f1, h1, hle1, he1⟩ := h.1 n ice ty sz q f hn
    obtain ⟨o1, ho1, hle⟩ := key n _ _ hn h1
    cases o1 with
    | row i2 ty2 sz2 k2 f2 =>
      obtain ⟨rfl, rfl, rfl, rfl, _⟩ := hle
      exact ⟨i1, k1, f2, ho1, hle1, he1⟩
    | box => exact hle.elim
    | map => exact hle.elim
  · obtain ⟨i1, c1, h1, he1⟩ := h.2.1 n ice cs hn
    obtain ⟨o1, ho1, hle⟩ := key n _ _ hn h1
    cases o1 with
    | box i2 c2 => exact ⟨i2, c2, ho1, he1⟩
    | row => exact hle.elim
    | map => exact hle.elim
  · obtain ⟨g1, h1, he1⟩ := h.2.2 n ka va g hn
    obtain ⟨o1, ho1, hle⟩ := key n _ _ hn h1
    cases o1 with
    | map ka2 va2 g2 =>
      obtain ⟨rfl, rfl, rfl⟩ := hle
      exact ⟨g1, ho1, he1⟩
    | box => exact hle.elim
    | row => exact hle.elim

/-- A reference whose object is still told. -/
theorem RepC.weak {m : Mem} {m' : List (Nm × Obj)} (hm : ∀ n o, lk m' n = some o → ∃ o0, m n = some o0 ∧ LeO m' o0 o) {c : C} {v : Value} (h : RepC w U μ m c v) : clC m' c → RepC w U μ (lk m') c v := by
  induction h with
  | d h => exact fun _ => .d h
  | row ice ty sz k f hn hk h1 hv =>
    intro hc
    obtain ⟨o, ho⟩ := isSome_some hc
    obtain ⟨o0, h0, hle⟩ := hm _ _ ho
    rw [hn] at h0
    injection h0 with h0
    subst h0
    cases o with
    | row ice' ty' sz' k' f' =>
      obtain ⟨rfl, rfl, rfl, rfl, _⟩ := hle
      exact .row _ _ _ _ f' ho hk h1 hv
    | box => exact hle.elim
    | map => exact hle.elim
  | z ad => exact fun _ => .z ad
  | ptr ice cs hn =>
    intro hc
    obtain ⟨o, ho⟩ := isSome_some hc
    obtain ⟨o0, h0, hle⟩ := hm _ _ ho
    rw [hn] at h0
    injection h0 with h0
    subst h0
    cases o with
    | box ice' cs' => exact .ptr ice' cs' ho
    | row => exact hle.elim
    | map => exact hle.elim
  | mp ka va g hn =>
    intro hc
    obtain ⟨o, ho⟩ := isSome_some hc
    obtain ⟨o0, h0, hle⟩ := hm _ _ ho
    rw [hn] at h0
    injection h0 with h0
    subst h0
    cases o with
    | map ka' va' g' =>
      obtain ⟨rfl, rfl, rfl⟩ := hle
      exact .mp _ _ _ ho
    | row => exact hle.elim
    | box => exact hle.elim
  | clo hs h ih =>
    intro hc
    refine .clo hs fun i c hi => ih i c hi ?_
    have := hc c (List.mem_of_getElem? hi)
    cases c with
    | ptr n off => exact this
    | row n len => exact this
    | mp n => exact this
    | z => trivial
    | d x => trivial
    | clo => exact this.elim

theorem RepT.weak {m : Mem} {m' : List (Nm × Obj)} (hm : ∀ n o, lk m' n = some o → ∃ o0, m n = some o0 ∧ LeO m' o0 o) {x : T} {v : Value} (h : RepT w U μ m x v) (hc : clT m' x) : RepT w U μ (lk m') x v := by
  cases h with
  | c h => exact .c (h.weak hm hc)
  | agg hs h => exact .agg hs fun i c hi => (h i c hi).weak hm (hc c (List.mem_of_getElem? hi))
  | tup hs h => exact hc.elim
  | el ice ty sz k f hn hk hj hv =>
    obtain ⟨o, ho⟩ := isSome_some hc
    obtain ⟨o0, h0, hle⟩ := hm _ _ ho
    rw [hn] at h0
    injection h0 with h0
    subst h0
    cases o with
    | row ice' ty' sz' k' f' =>
      obtain ⟨rfl, rfl, rfl, rfl, _⟩ := hle
      exact .el _ _ _ _ f' ho hk hj hv
    | box => exact hle.elim
    | map => exact hle.elim
  | rp ad vals hU h => exact .rp ad vals hU h

theorem weak_mk {st st' : St} (ht : wkT st st'.m st'.t) (hm : wkM st st'.m st'.m) (hh : wkHi st'.m st.m) : Weak st st' := by
  intro Γ a w hR
  obtain ⟨U, μ, h⟩ := hR
  have hM := fun n o ho => wkM_lk hm n o ho
  refine ⟨U, μ, h.pres, h.zlim, h.usub, h.ulim, ⟨fun n o ho => ?_, fun n n' o o' g c c' ho ho' hg hg' => ?_⟩, fun t x hx => ?_, h.size, h.defers, MStep.weakHi h.fix h.hi hM (fun n o ho hn => wkHi_lk hh n o ho hn), h.hi⟩
  · obtain ⟨o0, h0, hle⟩ := hM n o ho
    have hok := h.mem.ok n o0 h0
    cases o0 with
    | box ice cs => cases o with
      | box ice' cs' =>
        obtain ⟨rfl, hle, hcl⟩ := hle
        obtain ⟨g, cur, ty, e1, e2, e3, e4, e5⟩ := hok
        have hrep : RepT w U μ (lk st.m) (.agg cs') (.agg cur) := hle.rep (.agg e3 e4)
        cases hrep with
        | agg hs hr => exact ⟨g, cur, ty, e1, e2, hs, fun i c hc => (hr i c hc).weak hM (hcl c (List.mem_of_getElem? hc)), e5⟩
      | row => exact hle.elim
      | map => exact hle.elim
    | row ice ty sz k f => cases o with
      | row ice' ty' sz' k' f' =>
        obtain ⟨rfl, rfl, rfl, rfl, hF⟩ := hle
        obtain ⟨g0, ho⟩ := hok
        have hlen : ∀ j, j < k → (f j).length = (f' j).length := fun j hj => by
          cases hF with
          | refl => rfl
          | l hl _ => exact hl j hj
        refine ⟨fun j hj => by rw [← hlen j hj]; exact g0 j hj, ?_⟩
        rcases ho with ho | ⟨g, cap, cur, e1, e2, e3, e4, e5, e6, e7⟩
        · exact .inl ho
        · refine .inr ⟨g, cap, cur, e1, e2, e3, e4, e5, fun j q d hj hd => ?_, e7⟩
          have hq := (List.getElem?_eq_some_iff.1 hd).1
          rw [← hlen j hj] at hq
          have h6 := e6 j q _ hj (List.getElem?_eq_getElem hq)
          have hx : (f j)[q]? = some (f j)[q] := List.getElem?_eq_getElem hq
          cases hF with
          | refl => rw [hd] at hx; injection hx with hx; rw [hx]; exact h6
          | l _ hl2 => exact (hl2 j q _ d hj hx hd).rep h6
      | box => exact hle.elim
      | map => exact hle.elim
    | map ka va g => cases o with
      | map ka' va' g' =>
        obtain ⟨rfl, rfl, rfl⟩ := hle
        exact hok
      | row => exact hle.elim
      | box => exact hle.elim
  · obtain ⟨o0, h0, _⟩ := hM n o ho
    obtain ⟨o1, h1, _⟩ := hM n' o' ho'
    exact h.mem.inj n n' o0 o1 g c c' h0 h1 hg hg'
  · obtain ⟨y, hy, hle, hcl⟩ := wkT_lk ht t x hx
    exact ((hle.rep (h.tmp t y hy))).weak hM hcl

/-! ### nil, taken for an empty row of one's own -/
theorem RR.nilRow {tf : Nat → Option T} {m : Mem} (h : RR Γ U μ tf m a w) {n : Nm} (hn : m n = none) (ty sz : Nat) (f : Nat → List D) : RR Γ U (fun k => if n = k then none else μ k) tf (upd m n (.row false ty sz 0 f)) a w :=
  h.add hn _ none rfl rfl rfl (Nat.le_refl _) (fun _ _ => rfl) (fun g c e => by cases e) ⟨fun j hj => by omega, .inl ⟨by simp, rfl⟩⟩

theorem nilC_row {m : Mem} {n : Nm} {ty sz : Nat} {f : Nat → List D} (hm : m n = some (.row false ty sz 0 f)) (hμ : μ n = none) {v : Value} (hv : v = .slice none 0 0) : RepC w U μ m (.row n 0) v := by
  subst hv
  exact .row false ty sz 0 f hm (Nat.le_refl _) rfl fun _ => by rw [hμ]; exact ⟨rfl, none, rfl⟩

theorem weak_nilT {st : St} {t n ty sz : Nat} (f : Nat → List D) (ht : lk st.t t = some (.c (.d (.s (.slice none 0 0))))) (hn : lk st.m n = none) : Weak st ⟨(t, .c (.row n 0)) :: st.t, (n, .row false ty sz 0 f) :: st.m⟩ := by
  intro Γ a w hR
  obtain ⟨U, μ, h⟩ := hR
  have h2 := h.nilRow hn ty sz f
  refine ⟨U, fun k => if n = k then none else μ k, ?_⟩
  simp only
  rw [lk_cons_upd, lk_cons_upd]
  refine ⟨h2.pres, h2.zlim, h2.usub, h2.ulim, h2.mem, fun k x hx => ?_, h2.size, h2.defers, h2.fix, h2.hi⟩
  by_cases e : t = k
  · subst e
    rw [upd_same] at hx
    injection hx with hx
    subst hx
    refine .c (nilC_row (by rw [upd_same]) (by simp) ?_)
    have := h.tmp t _ ht
    generalize a.tmps.getD t undef = v at this
    cases this with
    | c hh => cases hh with
      | d hh => cases hh with
        | s _ _ => rfl
  · rw [upd_ne _ _ e] at hx
    exact h2.tmp k x hx

/-- The same for a cell of a variable in memory. -/
theorem weak_nilB {st : St} {b i n ty sz : Nat} {cs : List C} (f : Nat → List D) (hb : lk st.m b = some (.box false cs)) (hi : cs[i]? = some (.d (.s (.slice none 0 0)))) (hn : lk st.m n = none) :
    Weak st ⟨st.t, (b, .box false (cs.set i (.row n 0))) :: (n, .row false ty sz 0 f) :: st.m⟩ := by
  intro Γ a w hR
  obtain ⟨U, μ, h⟩ := hR
  have h2 := h.nilRow hn ty sz f
  have hne : n ≠ b := fun e => by rw [e, hb] at hn; cases hn
  have hb2 : upd (lk st.m) n (.row false ty sz 0 f) b = some (.box false cs) := by rw [upd_ne _ _ hne]; exact hb
  refine ⟨U, fun k => if n = k then none else μ k, ?_⟩
  simp only
  rw [lk_cons_upd, lk_cons_upd]
  have hm : MStep (upd (lk st.m) n (.row false ty sz 0 f)) (fun k => if n = k then none else μ k) (upd (upd (lk st.m) n (.row false ty sz 0 f)) b (.box false (cs.set i (.row n 0)))) (fun k => if n = k then none else μ k) := by
    refine ⟨fun k ice ty sz q f h => ?_, fun k ice cs' h => ?_, fun k ka va g h => ?_⟩
    all_goals
      by_cases e : b = k
      · subst e
        rw [hb2] at h
        first
          | exact ⟨false, _, by rw [upd_same], rfl⟩
          | (cases h; done)
      · rw [upd_ne _ _ e]
        first
          | exact ⟨ice, q, f, h, Nat.le_refl _, fun _ => rfl⟩
          | exact ⟨ice, cs', h, rfl⟩
          | exact ⟨g, h, rfl⟩
  have hs := UStep.refl w U
  refine h2.stepW (Pres.refl _ _) hs hm ⟨fun k o ho => ?_, fun k k' o o' g c c' ho ho' hg hg' => ?_⟩ h2.ulim
  · by_cases e : b = k
    · subst e
      rw [upd_same] at ho
      injection ho with ho
      subst ho
      obtain ⟨g, cur, ty', e1, e2, e3, e4, e5⟩ := h2.mem.ok b _ hb2
      refine ⟨g, cur, ty', e1, e2, by simp [e3], fun j c hc => ?_, e5⟩
      by_cases ej : i = j
      · subst ej
        have hlt : i < cs.length := (List.getElem?_eq_some_iff.1 hi).1
        rw [List.getElem?_set_self hlt] at hc
        injection hc with hc
        subst hc
        refine nilC_row (ty := ty) (sz := sz) (f := f) (by rw [upd_ne _ _ (Ne.symm hne), upd_same]) (by simp) ?_
        have := e4 i _ hi
        generalize cur.getD i undef = v at this
        cases this with
        | d hh => cases hh with
          | s _ _ => rfl
      · rw [List.getElem?_set_ne ej] at hc
        exact (e4 j c hc).mono hs hm
    · rw [upd_ne _ _ e] at ho
      exact (h2.mem.ok k o ho).mono hs hm rfl fun g c hg => ⟨rfl, Iff.rfl⟩
  · have q1 : ∃ y, upd (lk st.m) n (.row false ty sz 0 f) k = some y := by
      by_cases e : b = k
      · exact ⟨_, e ▸ hb2⟩
      · rw [upd_ne _ _ e] at ho; exact ⟨_, ho⟩
    have q2 : ∃ y, upd (lk st.m) n (.row false ty sz 0 f) k' = some y := by
      by_cases e : b = k'
      · exact ⟨_, e ▸ hb2⟩
      · rw [upd_ne _ _ e] at ho'; exact ⟨_, ho'⟩
    obtain ⟨y, hy⟩ := q1
    obtain ⟨y', hy'⟩ := q2
    exact h2.mem.inj k k' y y' g c c' hy hy' hg hg'
end
end Go.V

/- V17: what an operation looks at. -/
set_option linter.unusedVariables false
namespace Go.V

/-- The temporaries that an operation reads. -/
def tmpsIn (xs : List Operand) : List Nat := xs.filterMap fun | .tmp t => some t | _ => none

def Agree (st st' : St) (xs : List Operand) : Prop := ∀ t, Operand.tmp t ∈ xs → lk st'.t t = lk st.t t

theorem opd_local {st st' : St} {x : Operand} (h : ∀ t, x = .tmp t → lk st'.t t = lk st.t t) : opd st' x = opd st x := by
  cases x with
  | tmp t => exact h t rfl
  | _ => rfl
theorem opdL_local {st st' : St} : ∀ {xs : List Operand}, Agree st st' xs → opdL st' xs = opdL st xs
  | [], _ => rfl
  | x :: xs, h => by
    simp only [opdL]
    rw [opd_local fun t e => h t (by simp [e]), opdL_local fun t ht => h t (List.mem_cons_of_mem _ ht)]
theorem opdP_local {st st' : St} : ∀ {xs : List (Nat × Operand)}, Agree st st' (xs.map (·.2)) → opdP st' xs = opdP st xs
  | [], _ => rfl
  | (i, x) :: xs, h => by
    simp only [opdP]
    rw [opd_local fun t e => h t (by simp [e]), opdP_local fun t ht => h t (by simp only [List.map_cons]; exact List.mem_cons_of_mem _ ht)]
theorem opdO_local {st st' : St} {x : Option Operand} (h : Agree st st' x.toList) : opdO st' x = opdO st x := by
  cases x with
  | none => rfl
  | some x => simp only [opdO]; rw [opd_local fun t e => h t (by simp [e])]

section
variable {tab : Tab} {et : EqTab} {st st' : St}

def AgreeM (st st' : St) (ns : List Nm) : Prop := ∀ n ∈ ns, lk st'.m n = lk st.m n

theorem iceUp_local : ∀ {ns : List Nm}, AgreeM st st' ns → iceUp st'.m ns = iceUp st.m ns
  | [], _ => rfl
  | n :: ns, h => by
    simp only [iceUp]
    rw [h n (by simp), iceUp_local fun k hk => h k (List.mem_cons_of_mem _ hk)]

theorem toD_local {c : C} {p : Prop} {x : D} {ns : List Nm} (h : toD st.m c = some (p, x, ns)) (ha : AgreeM st st' ns) : toD st'.m c = some (p, x, ns) := by
  unfold toD at h ⊢
  split at h
  · exact h
  · rename_i n len
    split at h
    · rename_i ice ty sz k f hn
      simp only [Option.some.injEq, Prod.mk.injEq] at h
      obtain ⟨rfl, rfl, rfl⟩ := h
      try simp only
      rw [ha n (by simp), hn]
    · cases h
  · exact h
  · exact h
  · cases h

theorem toDs_local : ∀ {cs : List C} {p : Prop} {xs : List D} {ns : List Nm}, toDs st.m cs = some (p, xs, ns) → AgreeM st st' ns → toDs st'.m cs = some (p, xs, ns)
  | [], _, _, _, h, _ => h
  | c :: cs, p, xs, ns, h, ha => by
    simp only [toDs] at h ⊢
    split at h
    case h_2 => cases h
    rename_i p1 x1 n1 p2 x2 n2 h1 h2
    simp only [Option.some.injEq, Prod.mk.injEq] at h
    obtain ⟨rfl, rfl, rfl⟩ := h
    rw [toD_local h1 fun k hk => ha k (List.mem_append_left _ hk), toDs_local h2 fun k hk => ha k (List.mem_append_right _ hk)]

theorem argT_local {x y : T} {p : Prop} {ns : List Nm} (h : argT st.m x = some (p, y, ns)) (ha : AgreeM st st' ns) : argT st'.m x = some (p, y, ns) := by
  cases x with
  | c x =>
    simp only [argT] at h ⊢
    obtain ⟨⟨q, d, ns'⟩, hd, he⟩ := Option.map_eq_some_iff.1 h
    simp only [Prod.mk.injEq] at he
    obtain ⟨rfl, rfl, rfl⟩ := he
    rw [toD_local hd ha]; rfl
  | agg cs =>
    simp only [argT] at h ⊢
    obtain ⟨⟨q, d, ns'⟩, hd, he⟩ := Option.map_eq_some_iff.1 h
    simp only [Prod.mk.injEq] at he
    obtain ⟨rfl, rfl, rfl⟩ := he
    rw [toDs_local hd ha]; rfl
  | tup ts => simp [argT] at h
  | el => simp [argT] at h
  | rp => simp [argT] at h
theorem argTs_local : ∀ {xs ys : List T} {p : Prop} {ns : List Nm}, argTs st.m xs = some (p, ys, ns) → AgreeM st st' ns → argTs st'.m xs = some (p, ys, ns)
  | [], _, _, _, h, _ => h
  | x :: xs, ys, p, ns, h, ha => by
    simp only [argTs] at h ⊢
    split at h
    case h_2 => cases h
    rename_i p1 x1 n1 p2 x2 n2 h1 h2
    simp only [Option.some.injEq, Prod.mk.injEq] at h
    obtain ⟨rfl, rfl, rfl⟩ := h
    rw [argT_local h1 fun k hk => ha k (List.mem_append_left _ hk), argTs_local h2 fun k hk => ha k (List.mem_append_right _ hk)]

theorem fillD_local {sz : Nat} : ∀ {ps : List (Nat × List C)} {els els' : List (List D)} {p : Prop} {ns : List Nm}, fillD st.m sz els ps = some (p, els', ns) → AgreeM st st' ns → fillD st'.m sz els ps = some (p, els', ns)
  | [], _, _, _, _, h, _ => h
  | (i, cs) :: ps, els, els', p, ns, h, ha => by
    simp only [fillD] at h ⊢
    split at h
    case h_2 => cases h
    rename_i p1 ds n1 h1
    split at h
    case isFalse => cases h
    rename_i hc
    split at h
    case h_2 => cases h
    rename_i p2 x2 n2 h2
    simp only [Option.some.injEq, Prod.mk.injEq] at h
    obtain ⟨rfl, rfl, rfl⟩ := h
    rw [toDs_local h1 fun k hk => ha k (List.mem_append_left _ hk)]
    try simp only
    rw [if_pos hc, fillD_local h2 fun k hk => ha k (List.mem_append_right _ hk)]

theorem srcOf_local {SZ : Nat} {x : T} {r : Prop × Nat × (Nat → List D) × List Nm} (h : srcOf st.m SZ x = some r) (ha : AgreeM st st' r.2.2.2) : srcOf st'.m SZ x = some r := by
  unfold srcOf at h ⊢
  split at h
  · rename_i n len
    split at h
    case h_2 => cases h
    rename_i ice ty sz k f hn
    split at h
    case isFalse => cases h
    rename_i hsz
    injection h with h
    subst h
    try simp only
    rw [ha n (by simp), hn]
    try simp only
    rw [if_pos hsz]
  · exact h
  · exact h
  · exact h
  · cases h

theorem evLoad_local {t : Nat} {x : T} {p : Prop} {e : Eff} (h : evLoad tab st t x = some (p, e)) (ha : AgreeM st st' e.rd) : evLoad tab st' t x = some (p, e) := by
  unfold evLoad at h ⊢
  split at h
  · cases h
  rename_i ti hti
  split at h
  · rename_i n off
    split at h
    case h_2 => cases h
    rename_i ice cs hn
    split at h
    case isFalse => cases h
    rename_i hle
    obtain ⟨y, hy, he⟩ := Option.map_eq_some_iff.1 h
    simp only [Prod.mk.injEq] at he
    obtain ⟨rfl, rfl⟩ := he
    try simp only
    rw [ha n (by simp), hn]
    try simp only
    rw [if_pos hle, hy]; rfl
  · rename_i n len j q
    split at h
    case h_2 => cases h
    rename_i ice ty sz k f hn
    obtain ⟨y, hy, he⟩ := Option.map_eq_some_iff.1 h
    simp only [Prod.mk.injEq] at he
    obtain ⟨rfl, rfl⟩ := he
    try simp only
    rw [ha n (by simp), hn]
    try simp only
    rw [hy]; rfl
  · exact h
  · cases h

theorem evStore_local {t : Nat} {x y : T} {p : Prop} {e : Eff} (h : evStore tab st t x y = some (p, e)) (ha : AgreeM st st' e.rd) : evStore tab st' t x y = some (p, e) := by
  unfold evStore at h ⊢
  split at h
  case h_2 => cases h
  rename_i ti vs hti hvs
  split at h
  case isFalse => cases h
  rename_i hlen
  rw [if_pos hlen]
  split at h
  · rename_i n off
    split at h
    case h_2 => cases h
    rename_i cs hn
    split at h
    case isFalse => cases h
    rename_i hle
    simp only [Option.some.injEq, Prod.mk.injEq] at h
    obtain ⟨rfl, rfl⟩ := h
    try simp only
    rw [ha n (by simp), hn]
    try simp only
    rw [if_pos hle]
  · rename_i n len j q
    split at h
    case h_2 => cases h
    rename_i ty sz k f c ds ns hn hds
    split at h
    case isTrue => cases h
    rename_i hnot
    simp only [Option.some.injEq, Prod.mk.injEq] at h
    obtain ⟨rfl, rfl⟩ := h
    have ha' : AgreeM st st' ns := fun k hk => ha k (List.mem_cons_of_mem _ hk)
    try simp only
    rw [ha n (by simp), hn, toDs_local hds ha']
    try simp only
    rw [if_neg hnot, iceUp_local ha']
  · cases h

theorem evIndexAddr_local {t : Nat} {x y : T} {p : Prop} {e : Eff} (h : evIndexAddr tab st t x y = some (p, e)) (ha : AgreeM st st' e.rd) : evIndexAddr tab st' t x y = some (p, e) := by
  unfold evIndexAddr at h ⊢
  split at h
  case h_2 => cases h
  split at h
  · exact h
  · split at h
    case h_2 => cases h
    split at h
    · rename_i nm len
      split at h
      case h_2 => cases h
      rename_i ice ty sz k f hn
      split at h
      case isFalse => cases h
      rename_i hsz
      simp only [Option.some.injEq, Prod.mk.injEq] at h
      obtain ⟨rfl, rfl⟩ := h
      try simp only
      rw [ha nm (by simp), hn]
      try simp only
      rw [if_pos hsz]
    · exact h
    · cases h
  · cases h

theorem evBox_local {dst : Option Nat} {y : T} {p : Prop} {e : Eff} (h : evBox st dst y = some (p, e)) (ha : AgreeM st st' e.rd) : evBox st' dst y = some (p, e) := by
  unfold evBox at h ⊢
  split at h
  case h_2 => cases h
  rename_i d cs hcs
  split at h
  case h_2 => cases h
  rename_i hn
  simp only [Option.some.injEq, Prod.mk.injEq] at h
  obtain ⟨rfl, rfl⟩ := h
  try simp only
  rw [ha _ (by simp), hn]

theorem evAlloc_local {dst : Option Nat} {t : Nat} {p : Prop} {e : Eff} (h : evAlloc tab st dst t = some (p, e)) (ha : AgreeM st st' e.rd) : evAlloc tab st' dst t = some (p, e) := by
  unfold evAlloc at h ⊢
  split at h
  case h_2 => cases h
  split at h
  case h_2 => cases h
  rename_i hn
  simp only [Option.some.injEq, Prod.mk.injEq] at h
  obtain ⟨rfl, rfl⟩ := h
  rw [ha _ (by simp), hn]

theorem evBuildSlice_local {dst : Option Nat} {t len : Nat} {ys : List (Nat × T)} {p : Prop} {e : Eff} (h : evBuildSlice tab st dst t len ys = some (p, e)) (ha : AgreeM st st' e.rd) : evBuildSlice tab st' dst t len ys = some (p, e) := by
  unfold evBuildSlice at h ⊢
  split at h
  case h_2 => cases h
  split at h
  case h_2 => cases h
  split at h
  case h_2 => cases h
  split at h
  case h_2 => cases h
  rename_i pp els ns hn hfd
  split at h
  case isFalse => cases h
  rename_i hsmall
  split at h
  case isTrue => cases h
  rename_i hnot
  simp only [Option.some.injEq, Prod.mk.injEq] at h
  obtain ⟨rfl, rfl⟩ := h
  have ha' : AgreeM st st' ns := fun k hk => ha k (List.mem_cons_of_mem _ hk)
  rw [ha _ (List.mem_cons_self ..), hn, fillD_local hfd ha']
  try simp only
  rw [if_pos hsmall, if_neg hnot, iceUp_local ha']

theorem evMake_local {dst : Option Nat} {t : Nat} {x y : T} {p : Prop} {e : Eff} (h : evMake tab st dst t x y = some (p, e)) (ha : AgreeM st st' e.rd) : evMake tab st' dst t x y = some (p, e) := by
  unfold evMake at h ⊢
  split at h
  case h_2 => cases h
  split at h
  case h_2 => cases h
  split at h
  case h_2 => cases h
  rename_i te hte hn
  simp only [Option.some.injEq, Prod.mk.injEq] at h
  obtain ⟨rfl, rfl⟩ := h
  rw [ha _ (by simp), hn, hte]

theorem evAppend_local {dst : Option Nat} {t : Nat} {x y : T} {p : Prop} {e : Eff} (h : evAppend tab st dst t x y = some (p, e)) (ha : AgreeM st st' e.rd) : evAppend tab st' dst t x y = some (p, e) := by
  unfold evAppend at h ⊢
  split at h
  case h_2 => cases h
  split at h
  case h_2 => cases h
  split at h
  case h_2 => cases h
  split at h
  case isFalse => cases h
  rename_i hpos
  rw [if_pos hpos]
  split at h
  case h_2 => cases h
  rename_i pp km g ns hs
  split at h
  · rename_i n len
    split at h
    case h_2 => cases h
    rename_i ty sz k f hn
    split at h
    case isFalse => cases h
    rename_i heq
    simp only [Option.some.injEq, Prod.mk.injEq] at h
    obtain ⟨rfl, rfl⟩ := h
    rw [srcOf_local hs fun k hk => ha k (List.mem_cons_of_mem _ hk)]
    try simp only
    rw [ha n (by simp), hn]
    try simp only
    rw [if_pos heq]
  · split at h
    case h_2 => cases h
    rename_i hn
    simp only [Option.some.injEq, Prod.mk.injEq] at h
    obtain ⟨rfl, rfl⟩ := h
    rw [srcOf_local hs fun k hk => ha k (List.mem_cons_of_mem _ hk)]
    try simp only
    rw [ha _ (List.mem_cons_self ..), hn]
  · split at h
    case h_2 => cases h
    rename_i hn
    simp only [Option.some.injEq, Prod.mk.injEq] at h
    obtain ⟨rfl, rfl⟩ := h
    rw [srcOf_local hs fun k hk => ha k (List.mem_cons_of_mem _ hk)]
    try simp only
    rw [ha _ (List.mem_cons_self ..), hn]
  · cases h

theorem evSlice_local {t : Nat} {x : T} {lo hi mx : Option T} {p : Prop} {e : Eff} (h : evSlice tab st t x lo hi mx = some (p, e)) (ha : AgreeM st st' e.rd) : evSlice tab st' t x lo hi mx = some (p, e) := by
  unfold evSlice at h ⊢
  split at h
  case h_2 => cases h
  split at h
  · exact h
  · split at h
    case h_2 => cases h
    split at h
    · rename_i n len
      split at h
      case h_2 => cases h
      rename_i ice ty sz k f hn
      split at h
      case isFalse => cases h
      rename_i hsz
      split at h
      case h_2 => cases h
      rename_i l h' hl hh
      simp only [Option.some.injEq, Prod.mk.injEq] at h
      obtain ⟨rfl, rfl⟩ := h
      have ha' : AgreeM st st' [n] := ha
      try simp only
      rw [ha n (by simp), hn]
      try simp only
      rw [if_pos hsz, hl, hh]
      try simp only
      rw [iceUp_local ha']
    · exact h
    · exact h
    · cases h
  · split at h
    case h_2 => cases h
    split at h
    case h_2 => cases h
    split at h
    · rename_i n len
      split at h
      case h_2 => cases h
      rename_i ice ty sz k f hn
      simp only [Option.some.injEq, Prod.mk.injEq] at h
      obtain ⟨rfl, rfl⟩ := h
      try simp only
      rw [ha n (by simp), hn]
    · exact h
    · exact h
    · exact h
    · cases h
  · cases h

theorem evLen_local {t : Nat} {x : T} {p : Prop} {e : Eff} (h : evLen tab st t x = some (p, e)) (ha : AgreeM st st' e.rd) : evLen tab st' t x = some (p, e) := by
  unfold evLen at h ⊢
  split at h
  case h_2 => cases h
  split at h
  · split at h
    · rename_i n len
      split at h
      case h_2 => cases h
      rename_i ice ty sz k f hn
      simp only [Option.some.injEq, Prod.mk.injEq] at h
      obtain ⟨rfl, rfl⟩ := h
      try simp only
      rw [ha n (by simp), hn]
    · exact h
    · exact h
    · exact h
    · cases h
  · exact h
  · exact h
  · cases h

theorem mapAt_local {t : Nat} {x k : T} {r : Nm × MK × List (List Int × Value) × List Int} (h : mapAt et st t x k = some r) (ha : AgreeM st st' [r.1]) : mapAt et st' t x k = some r := by
  unfold mapAt at h ⊢
  split at h
  case h_2 => cases h
  rename_i n mk hmk
  split at h
  case h_2 => cases h
  rename_i kn ag l hn
  split at h
  case isFalse => cases h
  rename_i hc
  obtain ⟨xs, hxs, he⟩ := Option.map_eq_some_iff.1 h
  subst he
  try simp only
  rw [ha n (by simp), hn]
  try simp only
  rw [if_pos hc, hxs]
  rfl

theorem evMakeMap_local {dst : Option Nat} {t : Nat} {r : Option T} {p : Prop} {e : Eff} (h : evMakeMap et st dst t r = some (p, e)) (ha : AgreeM st st' e.rd) : evMakeMap et st' dst t r = some (p, e) := by
  unfold evMakeMap at h ⊢
  split at h
  case h_2 => cases h
  split at h
  case h_2 => cases h
  rename_i hn
  simp only [Option.some.injEq, Prod.mk.injEq] at h
  obtain ⟨rfl, rfl⟩ := h
  try simp only
  rw [ha _ (by simp), hn]

theorem evLookup_local {t : Nat} {ok : Bool} {x k : T} {p : Prop} {e : Eff} (h : evLookup et st t ok x k = some (p, e)) (ha : AgreeM st st' e.rd) : evLookup et st' t ok x k = some (p, e) := by
  unfold evLookup at h ⊢
  split at h
  case h_2 => cases h
  rename_i n mk l xs hm
  simp only [Option.some.injEq, Prod.mk.injEq] at h
  obtain ⟨rfl, rfl⟩ := h
  rw [mapAt_local hm ha]

theorem evMapPut_local {t : Nat} {x k v : T} {p : Prop} {e : Eff} (h : evMapPut et st t x k v = some (p, e)) (ha : AgreeM st st' e.rd) : evMapPut et st' t x k v = some (p, e) := by
  unfold evMapPut at h ⊢
  split at h
  case h_2 => cases h
  rename_i n mk l xs u hm hv
  simp only [Option.some.injEq, Prod.mk.injEq] at h
  obtain ⟨rfl, rfl⟩ := h
  rw [mapAt_local hm ha, hv]

theorem evMapEntry_local {t : Nat} {x k : T} {p : Prop} {e : Eff} (h : evMapEntry et st t x k = some (p, e)) (ha : AgreeM st st' e.rd) : evMapEntry et st' t x k = some (p, e) := by
  unfold evMapEntry at h ⊢
  split at h
  case h_2 => cases h
  rename_i n mk l xs hm
  simp only [Option.some.injEq, Prod.mk.injEq] at h
  obtain ⟨rfl, rfl⟩ := h
  rw [mapAt_local hm ha]

theorem evEntryStore_local {x s v : T} {p : Prop} {e : Eff} (h : evEntryStore st x s v = some (p, e)) (ha : AgreeM st st' e.rd) : evEntryStore st' x s v = some (p, e) := by
  unfold evEntryStore at h ⊢
  split at h
  case h_2 => cases h
  rename_i n i u hv
  split at h
  case h_2 => cases h
  rename_i kn ag l hn
  simp only [Option.some.injEq, Prod.mk.injEq] at h
  obtain ⟨rfl, rfl⟩ := h
  try simp only
  rw [ha n (by simp), hn]

theorem evSliceP_local {t n off : Nat} {lo hi mx : Option T} {p : Prop} {e : Eff} (h : evSliceP tab st t n off lo hi mx = some (p, e)) (ha : AgreeM st st' e.rd) : evSliceP tab st' t n off lo hi mx = some (p, e) := by
  unfold evSliceP at h ⊢
  split at h
  case h_2 => cases h
  split at h
  case h_2 => cases h
  rename_i te ice cs hte hn
  split at h
  case h_2 => cases h
  rename_i pp ds ns hds
  split at h
  case isFalse => cases h
  rename_i hc
  simp only [Option.some.injEq, Prod.mk.injEq] at h
  obtain ⟨rfl, rfl⟩ := h
  have ha' : AgreeM st st' (n :: ns) := ha
  try simp only
  rw [hte, ha n (List.mem_cons_self ..), hn]
  try simp only
  rw [toDs_local hds fun k hk => ha k (List.mem_cons_of_mem _ hk)]
  try simp only
  rw [if_pos hc, iceUp_local ha']

theorem evSl_local {t : Nat} {x : T} {lo hi mx : Option T} {p : Prop} {e : Eff} (h : evSl tab st t x lo hi mx = some (p, e)) (ha : AgreeM st st' e.rd) : evSl tab st' t x lo hi mx = some (p, e) := by
  unfold evSl at h ⊢
  split at h
  · exact evSliceP_local h ha
  · exact evSlice_local h ha

theorem ev3_local {f f' : T → T → T → Option (Prop × Eff)} {x y z x' y' z' : Option T} {r : Prop × Eff} (hx : x' = x) (hy : y' = y) (hz : z' = z) (hf : ∀ u v t, f u v t = some r → f' u v t = some r) (h : ev3 f x y z = some r) : ev3 f' x' y' z' = some r := by
  obtain ⟨u, v, t, hu, hv, ht, he⟩ := ev3_some h
  subst hx hy hz
  simp only [ev3, hu, hv, ht]
  exact hf u v t he

theorem ev2_local {f f' : T → T → Option (Prop × Eff)} {x y x' y' : Option T} {r : Prop × Eff} (hx : x' = x) (hy : y' = y) (hf : ∀ u v, f u v = some r → f' u v = some r) (h : ev2 f x y = some r) : ev2 f' x' y' = some r := by
  obtain ⟨u, v, hu, hv, he⟩ := ev2_some h
  subst hx hy
  simp only [ev2, hu, hv]
  exact hf u v he

theorem bind_local {f f' : T → Option (Prop × Eff)} {x x' : Option T} {r : Prop × Eff} (hx : x' = x) (hf : ∀ u, f u = some r → f' u = some r) (h : x.bind f = some r) : x'.bind f' = some r := by
  obtain ⟨u, hu, he⟩ := Option.bind_eq_some_iff.1 h
  subst hx
  rw [hu]
  exact hf u he

theorem ev_local {dst : Option Nat} {op : Op} {p : Prop} {e : Eff} (hop : Agree st st' op.operands.toList) (h : ev tab et st dst op = some (p, e)) (ha : AgreeM st st' e.rd) : ev tab et st' dst op = some (p, e) := by
  cases op <;> simp only [ev, reduceCtorEq] at h ⊢ <;> simp only [Op.operands] at hop
  case move x => rw [opd_local fun t e => hop t (by simp [e])]; exact h
  case assign x => rw [opd_local fun t e => hop t (by simp [e])]; exact h
  case pick c x y => rw [opd_local (x := c) fun t e => hop t (by simp [e]), opd_local (x := x) fun t e => hop t (by simp [e]), opd_local (x := y) fun t e => hop t (by simp [e])]; exact h
  case alloc t => exact evAlloc_local h ha
  case box t x => exact bind_local (opd_local fun t e => hop t (by simp [e])) (fun u hu => evBox_local hu ha) h
  case build t ps =>
    rw [opdP_local fun t ht => hop t (by simpa using ht)]; exact h
  case buildSlice t len ps =>
    rw [opdP_local fun t ht => hop t (by simpa using ht)]
    obtain ⟨u, hu, he⟩ := Option.bind_eq_some_iff.1 h
    rw [hu]
    exact evBuildSlice_local he ha
  case load t x => exact bind_local (opd_local fun t e => hop t (by simp [e])) (fun u hu => evLoad_local hu ha) h
  case store t x y => exact ev2_local (opd_local fun t e => hop t (by simp [e])) (opd_local fun t e => hop t (by simp [e])) (fun u v hu => evStore_local hu ha) h
  case nilCheck x => exact bind_local (opd_local fun t e => hop t (by simp [e])) (fun u hu => hu) h
  case binOp op t x y t2 => exact ev2_local (opd_local fun t e => hop t (by simp [e])) (opd_local fun t e => hop t (by simp [e])) (fun u v hu => hu) h
  case unOp op t x => exact bind_local (opd_local fun t e => hop t (by simp [e])) (fun u hu => hu) h
  case convert s t x => exact bind_local (opd_local fun t e => hop t (by simp [e])) (fun u hu => hu) h
  case makeFunc f xs ys =>
    rw [opdL_local (xs := xs.toList) fun t ht => hop t (by simp at ht ⊢; exact .inl ht), opdL_local (xs := ys.toList) fun t ht => hop t (by simp at ht ⊢; exact .inr ht)]
    exact h
  case makeSlice t x y => exact ev2_local (opd_local fun t e => hop t (by simp [e])) (opd_local fun t e => hop t (by simp [e])) (fun u v hu => evMake_local hu ha) h
  case slice t x lo hi mx =>
    rw [opd_local (x := x) fun t e => hop t (by simp [e]), opdO_local (x := lo) fun t ht => hop t (by simp at ht ⊢; simp [ht]), opdO_local (x := hi) fun t ht => hop t (by simp at ht ⊢; simp [ht]), opdO_local (x := mx) fun t ht => hop t (by simp at ht ⊢; simp [ht])]
    split at h
    · exact evSl_local h ha
    · cases h
  case fieldAddr s x i => exact bind_local (opd_local fun t e => hop t (by simp [e])) (fun u hu => hu) h
  case field t x i => exact bind_local (opd_local fun t e => hop t (by simp [e])) (fun u hu => hu) h
  case indexAddr t x y => exact ev2_local (opd_local fun t e => hop t (by simp [e])) (opd_local fun t e => hop t (by simp [e])) (fun u v hu => evIndexAddr_local hu ha) h
  case index t x y => exact ev2_local (opd_local fun t e => hop t (by simp [e])) (opd_local fun t e => hop t (by simp [e])) (fun u v hu => hu) h
  case extract x i => exact bind_local (opd_local fun t e => hop t (by simp [e])) (fun u hu => hu) h
  case makeMap t r =>
    rw [opdO_local (x := r) fun t ht => hop t (by simp at ht ⊢; simp [ht])]
    obtain ⟨u, hu, he⟩ := Option.bind_eq_some_iff.1 h
    rw [hu]
    exact evMakeMap_local he ha
  case lookup t x k ok => exact ev2_local (opd_local fun t e => hop t (by simp [e])) (opd_local fun t e => hop t (by simp [e])) (fun u v hu => evLookup_local hu ha) h
  case mapUpdate t x k v => exact ev3_local (opd_local fun t e => hop t (by simp [e])) (opd_local fun t e => hop t (by simp [e])) (opd_local fun t e => hop t (by simp [e])) (fun u v r hu => evMapPut_local hu ha) h
  case mapEntry t x k => exact ev2_local (opd_local fun t e => hop t (by simp [e])) (opd_local fun t e => hop t (by simp [e])) (fun u v hu => evMapEntry_local hu ha) h
  case insert t x k v => exact ev3_local (opd_local fun t e => hop t (by simp [e])) (opd_local fun t e => hop t (by simp [e])) (opd_local fun t e => hop t (by simp [e])) (fun u v r hu => evMapPut_local hu ha) h
  case entryStore t x i v => exact ev3_local (opd_local fun t e => hop t (by simp [e])) (opd_local fun t e => hop t (by simp [e])) (opd_local fun t e => hop t (by simp [e])) (fun u v r hu => evEntryStore_local hu ha) h
  case call c =>
    obtain ⟨callee, args, ts⟩ := c
    cases callee <;> simp only [reduceCtorEq] at h ⊢
    rename_i b
    simp only [Call.operands] at hop
    rw [opdL_local fun t ht => hop t (by simpa using ht)]
    obtain ⟨us, hus, he⟩ := Option.bind_eq_some_iff.1 h
    rw [hus]
    show evB tab st' dst b ts.toList us = some (p, e)
    unfold evB at he ⊢
    split at he
    · split at he
      case isFalse => cases he
      rename_i heq
      try simp only
      rw [if_pos heq]
      exact evAppend_local he ha
    · exact evLen_local he ha
    · exact he
    · exact he
    · cases he
end
end Go.V
