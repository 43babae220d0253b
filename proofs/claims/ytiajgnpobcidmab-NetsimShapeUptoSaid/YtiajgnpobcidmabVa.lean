/- V1: an own separation logic over the kit's walks: abstract values, objects, and the relation to the model's world. -/
import Derived.Orders
import GoSem.ClaimData
import Derived.Laws.AppendOwn
import Derived.Laws.Rows
import Derived.Laws.World
import Derived.Laws.Sem
import Derived.Laws.Cells
import Derived.Laws.Tables
import Derived.Laws.CopyRow
import Derived.Laws.MakeOwn
import Derived.Maps.AppendAt
import Derived.Laws.OwnMore
import Derived.Laws.Slices
import Derived.Laws.Small
import Derived.Laws.Cover1
import Derived.Laws.Cover3
import Derived.MapKept
set_option linter.unusedSimpArgs false
set_option linter.unusedVariables false

set_option linter.unusedVariables false
namespace Go.V

/-- Pure data: a plain value, or a slice of n elements, each a list of cells. -/
inductive D where
  | s (v : Value)
  | l (n : Nat) (f : Nat → List D)

instance : Inhabited D := ⟨.s (.int .i64 0)⟩

abbrev Nm := Nat

/-- One cell: pure data, or a reference to an object. -/
inductive C where
  | d (x : D)
  | row (n : Nm) (len : Nat)
  | z
  | ptr (n : Nm) (off : Nat)
  | mp (n : Nm)
  | clo (f : Fn) (cap : List C)

instance : Inhabited C := ⟨.d default⟩

/-- The value of a temporary. -/
inductive T where
  | c (x : C)
  | agg (cs : List C)
  | tup (ts : List T)
  | el (n : Nm) (len j q : Nat)
  | rp (cs : List D)

instance : Inhabited T := ⟨.c default⟩

/-- Objects: a variable in memory; a row of elements of one's own; a map. 'ice': nobody writes it any more. -/
inductive Obj where
  | box (ice : Bool) (cs : List C)
  | row (ice : Bool) (ty sz n : Nat) (f : Nat → List D)
  | map (kn : Nat) (ag : Bool) (l : List (List Int × Value))

abbrev Mem := Nm → Option Obj
abbrev Mu := Nm → Option (Nat × Nat)

def lk {α : Type} : List (Nat × α) → Nat → Option α
  | [], _ => none
  | (k, v) :: r, n => if k = n then some v else lk r n

@[simp] theorem lk_nil {α : Type} (n : Nat) : lk ([] : List (Nat × α)) n = none := rfl
theorem lk_cons {α : Type} (k : Nat) (v : α) (r : List (Nat × α)) (n : Nat) : lk ((k, v) :: r) n = if k = n then some v else lk r n := rfl
@[simp] theorem lk_same {α : Type} (k : Nat) (v : α) (r : List (Nat × α)) : lk ((k, v) :: r) k = some v := by simp [lk]
theorem lk_ne {α : Type} {k n : Nat} (v : α) (r : List (Nat × α)) (h : k ≠ n) : lk ((k, v) :: r) n = lk r n := by simp [lk, h]

def del {α : Type} (l : List (Nat × α)) (k : Nat) : List (Nat × α) := l.filter fun p => !(p.1 == k)
theorem lk_del {α : Type} (l : List (Nat × α)) (k n : Nat) : lk (del l k) n = if k = n then none else lk l n := by
  induction l with
  | nil => simp [del]
  | cons p r ih =>
    obtain ⟨q, v⟩ := p
    by_cases h : q = k
    · subst h
      have h1 : del ((q, v) :: r) q = del r q := by simp [del]
      rw [h1, ih]
      by_cases hn : q = n
      · simp [hn]
      · simp [hn, lk_ne v r hn]
    · have h1 : del ((q, v) :: r) k = (q, v) :: del r k := by simp [del, h]
      rw [h1, lk_cons, ih, lk_cons]
      by_cases hn : k = n
      · subst hn; simp [h]
      · simp [hn]

/-! ### Representation -/

def blk (x : Option (Nat × Nat)) : Nat := (x.getD (0, 0)).1

/-- The value of a row of k elements at its place; where it has none (k = 0), any slice without capacity. -/
def rowIs : Option (Nat × Nat) → Nat → Value → Prop
  | none, k, v => k = 0 ∧ ∃ a, v = .slice a 0 0
  | some (g, cap), k, v => v = .slice (some ⟨g, 0, none⟩) k cap

inductive RepD (w : World) (U : Nat → Prop) : D → Value → Prop
  | s (v : Value) (h1 : v.oneCell' = true) : RepD w U (.s v) v
  | l (n : Nat) (f : Nat → List D) (a : Option Addr) (cap sz : Nat) (vals : Nat → Nat → Value) (hn : n ≤ cap) (hc : cap ≤ maxLen)
      (hsz : ∀ j, j < n → (f j).length = sz)
      (ha : 0 < n → ∃ ad, a = some ad ∧ U ad.block ∧ ∀ j q, j < n → q < sz → w.cell? (ad.add (j * sz + q)) = some (vals j q))
      (hv : ∀ j q d, j < n → (f j)[q]? = some d → RepD w U d (vals j q)) : RepD w U (.l n f) (.slice a n cap)

inductive RepC (w : World) (U : Nat → Prop) (μ : Mu) (m : Mem) : C → Value → Prop
  | d {x : D} {v : Value} (h : RepD w U x v) : RepC w U μ m (.d x) v
  | row {n : Nm} {len : Nat} {v : Value} (ice : Bool) (ty sz k : Nat) (f : Nat → List D) (hm : m n = some (.row ice ty sz k f)) (hk : len ≤ k) (h1 : v.oneCell' = true) (hv : len = k → rowIs (μ n) k v) : RepC w U μ m (.row n len) v
  | z (a : Option Addr) : RepC w U μ m .z (.slice a 0 0)
  | ptr {n : Nm} {off : Nat} (ice : Bool) (cs : List C) (hm : m n = some (.box ice cs)) : RepC w U μ m (.ptr n off) (.pointer (some ⟨blk (μ n), off, none⟩))
  | mp {n : Nm} (ka : Nat) (va : Bool) (g : List (List Int × Value)) (hm : m n = some (.map ka va g)) : RepC w U μ m (.mp n) (.map (some (blk (μ n))))
  | clo {f : Fn} {cap : List C} {vs : Array Value} (hs : vs.size = cap.length) (h : ∀ i c, cap[i]? = some c → RepC w U μ m c (vs.getD i undef)) : RepC w U μ m (.clo f cap) (.func f #[] vs)

inductive RepT (w : World) (U : Nat → Prop) (μ : Mu) (m : Mem) : T → Value → Prop
  | c {x : C} {v : Value} (h : RepC w U μ m x v) : RepT w U μ m (.c x) v
  | agg {cs : List C} {vs : Array Value} (hs : vs.size = cs.length) (h : ∀ i c, cs[i]? = some c → RepC w U μ m c (vs.getD i undef)) : RepT w U μ m (.agg cs) (.agg vs)
  | tup {ts : List T} {vs : Array Value} (hs : vs.size = ts.length) (h : ∀ i t, ts[i]? = some t → RepT w U μ m t (vs.getD i undef)) : RepT w U μ m (.tup ts) (.tuple vs)
  | el {n : Nm} {len j q : Nat} {ad : Addr} (ice : Bool) (ty sz k : Nat) (f : Nat → List D) (hm : m n = some (.row ice ty sz k f)) (hk : len ≤ k) (hj : j < len) (hv : len = k → ad = ⟨blk (μ n), j * sz + q, none⟩) : RepT w U μ m (.el n len j q) (.pointer (some ad))
  | rp {cs : List D} (ad : Addr) (vals : Nat → Value) (hU : U ad.block) (h : ∀ q d, cs[q]? = some d → w.cell? (ad.add q) = some (vals q) ∧ RepD w U d (vals q)) : RepT w U μ m (.rp cs) (.pointer (some ad))

theorem RepD.one {w : World} {U : Nat → Prop} {x : D} {v : Value} (h : RepD w U x v) : v.oneCell' = true := by
  cases h with
  | s v h1 => exact h1
  | l => rfl
theorem RepC.one {w : World} {U : Nat → Prop} {μ : Mu} {m : Mem} {x : C} {v : Value} (h : RepC w U μ m x v) : v.oneCell' = true := by
  cases h with
  | d h => exact h.one
  | row ice ty sz k f hm hk h1 hv => exact h1
  | _ => rfl

/-! ### Monotonicity -/

/-- The frozen blocks stay frozen and are as they were. -/
structure UStep (w : World) (U : Nat → Prop) (w' : World) (U' : Nat → Prop) : Prop where
  sub : ∀ k, U k → U' k
  same : ∀ k, U k → w'.heap[k]? = w.heap[k]?

theorem UStep.refl (w : World) (U : Nat → Prop) : UStep w U w U := ⟨fun _ h => h, fun _ _ => rfl⟩
theorem UStep.trans {w w1 w2 : World} {U U1 U2 : Nat → Prop} (h : UStep w U w1 U1) (k : UStep w1 U1 w2 U2) : UStep w U w2 U2 :=
  ⟨fun x hx => k.sub x (h.sub x hx), fun x hx => (k.same x (h.sub x hx)).trans (h.same x hx)⟩

theorem cell_same {w w' : World} {a : Addr} (h : w'.heap[a.block]? = w.heap[a.block]?) : w'.cell? a = w.cell? a := by simp [World.cell?, h]

theorem RepD.mono {w w' : World} {U U' : Nat → Prop} (hs : UStep w U w' U') {x : D} {v : Value} (h : RepD w U x v) : RepD w' U' x v := by
  induction h with
  | s v h1 => exact .s v h1
  | l n f a cap sz vals hn hc hsz ha hv ih =>
    refine .l n f a cap sz vals hn hc hsz (fun h0 => ?_) ih
    obtain ⟨ad, e, hu, hcell⟩ := ha h0
    refine ⟨ad, e, hs.sub _ hu, fun j q hj hq => ?_⟩
    have hb : (ad.add (j * sz + q)).block = ad.block := by unfold Addr.add; split <;> rfl
    rw [cell_same (w := w) (w' := w') (by rw [hb, hs.same _ hu])]
    exact hcell j q hj hq

/-- Objects that are referred to live on; a row may grow (and move). -/
def MStep (m : Mem) (μ : Mu) (m' : Mem) (μ' : Mu) : Prop :=
  (∀ n ice ty sz k f, m n = some (.row ice ty sz k f) → ∃ ice' k' f', m' n = some (.row ice' ty sz k' f') ∧ k ≤ k' ∧ (k' = k → μ' n = μ n)) ∧
  (∀ n ice cs, m n = some (.box ice cs) → ∃ ice' cs', m' n = some (.box ice' cs') ∧ μ' n = μ n) ∧
  (∀ n ka va g, m n = some (.map ka va g) → ∃ g', m' n = some (.map ka va g') ∧ μ' n = μ n)

theorem MStep.refl (m : Mem) (μ : Mu) : MStep m μ m μ :=
  ⟨fun _ ice _ _ k f h => ⟨ice, k, f, h, Nat.le_refl _, fun _ => rfl⟩, fun _ ice cs h => ⟨ice, cs, h, rfl⟩, fun _ _ _ g h => ⟨g, h, rfl⟩⟩

theorem MStep.trans {m m1 m2 : Mem} {μ μ1 μ2 : Mu} (h : MStep m μ m1 μ1) (k : MStep m1 μ1 m2 μ2) : MStep m μ m2 μ2 := by
  refine ⟨fun n ice ty sz q f hn => ?_, fun n ice cs hn => ?_, fun n ka va g hn => ?_⟩
  · obtain ⟨i1, k1, f1, h1, hle1, he1⟩ := h.1 n ice ty sz q f hn
    obtain ⟨i2, k2, f2, h2, hle2, he2⟩ := k.1 n i1 ty sz k1 f1 h1
    refine ⟨i2, k2, f2, h2, Nat.le_trans hle1 hle2, fun e => ?_⟩
    have e1 : k1 = q := by omega
    have e2 : k2 = k1 := by omega
    exact (he2 e2).trans (he1 e1)
  · obtain ⟨i1, c1, h1, he1⟩ := h.2.1 n ice cs hn
    obtain ⟨i2, c2, h2, he2⟩ := k.2.1 n i1 c1 h1
    exact ⟨i2, c2, h2, he2.trans he1⟩
  · obtain ⟨g1, h1, he1⟩ := h.2.2 n ka va g hn
    obtain ⟨g2, h2, he2⟩ := k.2.2 n ka va g1 h1
    exact ⟨g2, h2, he2.trans he1⟩

theorem RepC.mono {w w' : World} {U U' : Nat → Prop} {μ μ' : Mu} {m m' : Mem} (hs : UStep w U w' U') (hm : MStep m μ m' μ') {x : C} {v : Value}
    (h : RepC w U μ m x v) : RepC w' U' μ' m' x v := by
  induction h with
  | d h => exact .d (h.mono hs)
  | row ice ty sz k f h hk h1 hv =>
    obtain ⟨ice', k', f', h', hle, he⟩ := hm.1 _ _ _ _ _ _ h
    refine .row ice' ty sz k' f' h' (by omega) h1 (fun e => ?_)
    have : k' = k := by omega
    rw [he this, this]
    exact hv (by omega)
  | z a => exact .z a
  | ptr ice cs h =>
    obtain ⟨ice', cs', h', he⟩ := hm.2.1 _ _ _ h
    rw [← he]
    exact .ptr ice' cs' h'
  | mp ka va g h =>
    obtain ⟨g', h', he⟩ := hm.2.2 _ _ _ _ h
    rw [← he]
    exact .mp ka va g' h'
  | clo hsz h ih => exact .clo hsz ih

theorem RepT.mono {w w' : World} {U U' : Nat → Prop} {μ μ' : Mu} {m m' : Mem} (hs : UStep w U w' U') (hm : MStep m μ m' μ') {x : T} {v : Value}
    (h : RepT w U μ m x v) : RepT w' U' μ' m' x v := by
  induction h with
  | c h => exact .c (h.mono hs hm)
  | agg hsz h => exact .agg hsz fun i c hc => (h i c hc).mono hs hm
  | tup hsz h ih => exact .tup hsz ih
  | el ice ty sz k f h hk hj hv =>
    obtain ⟨ice', k', f', h', hle, he⟩ := hm.1 _ _ _ _ _ _ h
    refine .el ice' ty sz k' f' h' (by omega) hj (fun e => ?_)
    have : k' = k := by omega
    rw [he this]
    exact hv (by omega)
  | rp ad vals hU h =>
    refine .rp ad vals (hs.sub _ hU) fun q d hd => ?_
    obtain ⟨h1, h2⟩ := h q d hd
    have hb : (ad.add q).block = ad.block := by unfold Addr.add; split <;> rfl
    exact ⟨by rw [cell_same (w := w) (w' := w') (by rw [hb, hs.same _ hU])]; exact h1, h2.mono hs⟩

/-! ### Objects in the world, and the whole relation -/

/-- A map's keys are numbers, one or (a struct, an array) some. -/
def keyV (ag : Bool) (xs : List Int) : Value := if ag then .agg (xs.map fun n => Value.int .i64 n).toArray else .int .i64 (xs.headD 0)
/-- A map's entries in the order of their births. -/
def ents (ag : Bool) : Nat → List (List Int × Value) → List MapEntry
  | _, [] => []
  | i, p :: r => ⟨keyV ag p.1, p.2, i⟩ :: ents ag (i + 1) r

structure MapRep (kn : Nat) (ag : Bool) (es : Array MapEntry) (clock : Nat) (l : List (List Int × Value)) : Prop where
  es : es = (ents ag 0 l).toArray
  clock : clock = l.length
  ok : ∀ p ∈ l, p.1.length = kn ∧ p.2.oneCell' = true

def ObjOK (w : World) (U Z : Nat → Prop) (μ : Mu) (m : Mem) (n : Nm) : Obj → Prop
  | .box ice cs => ∃ g cur ty, μ n = some (g, 0) ∧ w.heap[g]? = some (.cells cur ty (0, 0)) ∧ cur.size = cs.length ∧
      (∀ i c, cs[i]? = some c → RepC w U μ m c (cur.getD i undef)) ∧ ¬ Z g ∧ (ice = true → U g) ∧ (ice = false → ¬ U g)
  | .row ice ty sz k f => (∀ j, j < k → (f j).length = sz) ∧ ((μ n = none ∧ k = 0) ∨ ∃ g cap cur, μ n = some (g, cap) ∧ w.heap[g]? = some (.cells cur ty (0, 0)) ∧ cur.size = cap * sz ∧
      k ≤ cap ∧ cap ≤ maxLen ∧ (∀ j q d, j < k → (f j)[q]? = some d → RepD w U d (cur.getD (j * sz + q) undef)) ∧ ¬ Z g ∧ (ice = true → U g) ∧ (ice = false → ¬ U g))
  | .map ka va look => ∃ g es clock, μ n = some (g, 0) ∧ w.heap[g]? = some (.map es clock) ∧ MapRep ka va es clock look ∧ ¬ Z g ∧ ¬ U g

/-- What of the world is kept. -/
structure Pres (Z : Nat → Prop) (w w' : World) : Prop where
  os : w'.os = w.os
  tape : w'.tape = w.tape
  output : w'.output = w.output
  size : w.heap.size ≤ w'.heap.size
  block : ∀ k, Z k → w'.heap[k]? = w.heap[k]?

theorem Pres.refl (Z : Nat → Prop) (w : World) : Pres Z w w := ⟨rfl, rfl, rfl, Nat.le_refl _, fun _ _ => rfl⟩
theorem Pres.trans {Z : Nat → Prop} {w w1 w2 : World} (h : Pres Z w w1) (k : Pres Z w1 w2) : Pres Z w w2 :=
  ⟨k.os.trans h.os, k.tape.trans h.tape, k.output.trans h.output, Nat.le_trans h.size k.size, fun x hx => (k.block x hx).trans (h.block x hx)⟩

structure RM (w : World) (U Z : Nat → Prop) (μ : Mu) (m : Mem) : Prop where
  ok : ∀ n o, m n = some o → ObjOK w U Z μ m n o
  inj : ∀ n n' o o' g c c', m n = some o → m n' = some o' → μ n = some (g, c) → μ n' = some (g, c') → n = n'

/-- The names of the objects that a function is handed begin here. -/
abbrev HI : Nat := 1000000

structure Ctx where
  P : Program
  w0 : World
  Z : Nat → Prop
  U0 : Nat → Prop
  N : Nat
  m0 : Mem
  μ0 : Mu

structure RR (Γ : Ctx) (U : Nat → Prop) (μ : Mu) (tf : Nat → Option T) (m : Mem) (a : Act) (w : World) : Prop where
  pres : Pres Γ.Z Γ.w0 w
  zlim : ∀ k, Γ.Z k → k < Γ.w0.heap.size
  usub : ∀ k, Γ.U0 k → U k
  ulim : ∀ k, U k → k < w.heap.size ∧ (Γ.U0 k ∨ ¬ Γ.Z k)
  mem : RM w U Γ.Z μ m
  tmp : ∀ t x, tf t = some x → RepT w U μ m x (a.tmps.getD t undef)
  size : a.tmps.size = Γ.N
  defers : a.defers = []
  fix : MStep Γ.m0 Γ.μ0 m μ
  hi : ∀ n o, Γ.m0 n = some o → HI ≤ n

structure St where
  t : List (Nat × T)
  m : List (Nm × Obj)

def R (Γ : Ctx) (st : St) (a : Act) (w : World) : Prop := ∃ U μ, RR Γ U μ (lk st.t) (lk st.m) a w

end Go.V

/- V2: how the relation goes on: a temporary is written; an object is made, changed, frozen; what is not wanted is dropped. -/
set_option linter.unusedVariables false
namespace Go.V

def upd {α : Type} (f : Nat → Option α) (n : Nat) (x : α) : Nat → Option α := fun k => if n = k then some x else f k
theorem lk_cons_upd {α : Type} (k : Nat) (v : α) (r : List (Nat × α)) : lk ((k, v) :: r) = upd (lk r) k v := by funext n; exact lk_cons k v r n
@[simp] theorem upd_same {α : Type} (f : Nat → Option α) (n : Nat) (x : α) : upd f n x n = some x := by simp [upd]
theorem upd_ne {α : Type} (f : Nat → Option α) {n k : Nat} (x : α) (h : n ≠ k) : upd f n x k = f k := by simp [upd, h]

theorem put_getD (a : Act) (d t : Nat) (v : Value) (h : d < a.tmps.size) : (a.put (some d) v).tmps.getD t undef = if d = t then v else a.tmps.getD t undef := by
  unfold Act.put
  simp only [Array.getD_eq_getD_getElem?]
  by_cases e : d = t
  · subst e; simp [h]
  · simp [Array.getElem?_setIfInBounds_ne e, e]

theorem put_size (a : Act) (d : Option Nat) (v : Value) : (a.put d v).tmps.size = a.tmps.size := by cases d <;> simp [Act.put]
theorem put_defers (a : Act) (d : Option Nat) (v : Value) : (a.put d v).defers = a.defers := by cases d <;> simp [Act.put]

section
variable {Γ : Ctx} {U U' : Nat → Prop} {μ μ' : Mu} {tf : Nat → Option T} {m m' : Mem} {a : Act} {w w' : World}

theorem RR.put (h : RR Γ U μ tf m a w) {d : Nat} (hd : d < Γ.N) {x : T} {v : Value} (hx : RepT w U μ m x v) : RR Γ U μ (upd tf d x) m (a.put (some d) v) w := by
  refine ⟨h.pres, h.zlim, h.usub, h.ulim, h.mem, fun t y hy => ?_, by rw [put_size, h.size], by rw [put_defers, h.defers], h.fix, h.hi⟩
  rw [put_getD _ _ _ _ (by rw [h.size]; exact hd)]
  by_cases e : d = t
  · subst e
    rw [upd_same] at hy
    injection hy with hy
    subst hy
    simpa using hx
  · rw [upd_ne _ _ e] at hy
    simp only [e, if_false]
    exact h.tmp t y hy

/-- A temporary of which nothing is known any more. -/
theorem RR.lose (h : RR Γ U μ tf m a w) {d : Nat} (hd : d < Γ.N) {tf' : Nat → Option T} (ht : ∀ t, tf' t = if d = t then none else tf t) (v : Value) : RR Γ U μ tf' m (a.put (some d) v) w := by
  refine ⟨h.pres, h.zlim, h.usub, h.ulim, h.mem, fun t y hy => ?_, by rw [put_size, h.size], by rw [put_defers, h.defers], h.fix, h.hi⟩
  rw [put_getD _ _ _ _ (by rw [h.size]; exact hd)]
  rw [ht] at hy
  by_cases e : d = t
  · simp [e] at hy
  · simp only [e, if_false] at hy ⊢
    exact h.tmp t y hy

theorem RR.congr (h : RR Γ U μ tf m a w) {tf' : Nat → Option T} (ht : ∀ t x, tf' t = some x → tf t = some x) : RR Γ U μ tf' m a w :=
  ⟨h.pres, h.zlim, h.usub, h.ulim, h.mem, fun t x hx => h.tmp t x (ht t x hx), h.size, h.defers, h.fix, h.hi⟩

theorem RR.stepW (h : RR Γ U μ tf m a w) (hp : Pres Γ.Z w w') (hs : UStep w U w' U') (hm : MStep m μ m' μ') (hM : RM w' U' Γ.Z μ' m')
    (hu : ∀ k, U' k → k < w'.heap.size ∧ (Γ.U0 k ∨ ¬ Γ.Z k)) : RR Γ U' μ' tf m' a w' :=
  ⟨h.pres.trans hp, h.zlim, fun k hk => hs.sub k (h.usub k hk), hu, hM, fun t x hx => (h.tmp t x hx).mono hs hm, h.size, h.defers, h.fix.trans hm, h.hi⟩

theorem ObjOK.mono {Z : Nat → Prop} {n : Nm} {o : Obj} (h : ObjOK w U Z μ m n o) (hs : UStep w U w' U') (hm : MStep m μ m' μ') (hμ : μ' n = μ n)
    (hb : ∀ g c, μ n = some (g, c) → w'.heap[g]? = w.heap[g]? ∧ (U' g ↔ U g)) : ObjOK w' U' Z μ' m' n o := by
  cases o with
  | box ice cs =>
    obtain ⟨g, cur, ty, h1, h2, h3, h4, h5, h6, h7⟩ := h
    obtain ⟨b1, b2⟩ := hb g 0 h1
    exact ⟨g, cur, ty, hμ.trans h1, b1.trans h2, h3, fun i c hc => (h4 i c hc).mono hs hm, h5, fun e => b2.2 (h6 e), fun e hu => h7 e (b2.1 hu)⟩
  | row ice ty sz k f =>
    obtain ⟨h0, h⟩ := h
    refine ⟨h0, ?_⟩
    rcases h with ⟨h1, h2⟩ | ⟨g, cap, cur, h1, h2, h3, h4, h5, h6, h7, h8, h9⟩
    · exact .inl ⟨hμ.trans h1, h2⟩
    · obtain ⟨b1, b2⟩ := hb g cap h1
      exact .inr ⟨g, cap, cur, hμ.trans h1, b1.trans h2, h3, h4, h5, fun j q d hj hd => (h6 j q d hj hd).mono hs, h7, fun e => b2.2 (h8 e), fun e hu => h9 e (b2.1 hu)⟩
  | map ka va g =>
    obtain ⟨g, es, clock, h1, h2, h3, h4, h5⟩ := h
    obtain ⟨b1, b2⟩ := hb g 0 h1
    exact ⟨g, es, clock, hμ.trans h1, b1.trans h2, h3, h4, fun hu => h5 (b2.1 hu)⟩

theorem ObjOK.lt {Z : Nat → Prop} {n : Nm} {o : Obj} (h : ObjOK w U Z μ m n o) {g c : Nat} (hg : μ n = some (g, c)) : g < w.heap.size := by
  cases o with
  | box ice cs =>
    obtain ⟨g', cur, ty, h1, h2, _⟩ := h
    rw [hg] at h1
    injection h1 with h1
    injection h1 with h1 h1'
    subst h1
    exact (Array.getElem?_eq_some_iff.1 h2).1
  | row ice ty sz k f =>
    rcases h.2 with ⟨h1, _⟩ | ⟨g', cap, cur, h1, h2, _⟩
    · rw [hg] at h1; cases h1
    · rw [hg] at h1
      injection h1 with h1
      injection h1 with h1 h1'
      subst h1
      exact (Array.getElem?_eq_some_iff.1 h2).1
  | map ka va g =>
    obtain ⟨g', es, clock, h1, h2, _⟩ := h
    rw [hg] at h1
    injection h1 with h1
    injection h1 with h1 h1'
    subst h1
    exact (Array.getElem?_eq_some_iff.1 h2).1

theorem ObjOK.notZ {Z : Nat → Prop} {n : Nm} {o : Obj} (h : ObjOK w U Z μ m n o) {g c : Nat} (hg : μ n = some (g, c)) : ¬ Z g := by
  cases o with
  | box ice cs =>
    obtain ⟨g', cur, ty, h1, h2, _, _, h3, _⟩ := h
    rw [hg] at h1; injection h1 with h1; injection h1 with h1 _; subst h1; exact h3
  | row ice ty sz k f =>
    rcases h.2 with ⟨h1, _⟩ | ⟨g', cap, cur, h1, _, _, _, _, _, h3, _⟩
    · rw [hg] at h1; cases h1
    · rw [hg] at h1; injection h1 with h1; injection h1 with h1 _; subst h1; exact h3
  | map ka va g =>
    obtain ⟨g', es, clock, h1, _, _, h3, _⟩ := h
    rw [hg] at h1; injection h1 with h1; injection h1 with h1 _; subst h1; exact h3

/-- Nothing but the count of draws has changed, or blocks that nobody knows were made. -/
theorem RR.grown (h : RR Γ U μ tf m a w) (h1 : w'.os = w.os) (h2 : w'.tape = w.tape) (h3 : w'.output = w.output) (h4 : w.heap.size ≤ w'.heap.size) (h5 : ∀ k, k < w.heap.size → w'.heap[k]? = w.heap[k]?) : RR Γ U μ tf m a w' := by
  have hs : UStep w U w' U := ⟨fun _ h => h, fun k hk => h5 k (h.ulim k hk).1⟩
  refine h.stepW ⟨h1, h2, h3, h4, fun k hk => h5 k (Nat.lt_of_lt_of_le (h.zlim k hk) h.pres.size)⟩ hs (MStep.refl _ _) ⟨fun n o ho => (h.mem.ok n o ho).mono hs (MStep.refl _ _) rfl fun g c hg => ⟨h5 g ((h.mem.ok n o ho).lt hg), Iff.rfl⟩, h.mem.inj⟩ fun k hk => ⟨Nat.lt_of_lt_of_le (h.ulim k hk).1 h4, (h.ulim k hk).2⟩

theorem RR.drew (h : RR Γ U μ tf m a w) : RR Γ U μ tf m a w.drew := h.grown rfl rfl rfl (Nat.le_refl _) fun _ _ => rfl

theorem MStep.add (m : Mem) (μ : Mu) {n : Nm} (hn : m n = none) (o : Obj) (y : Option (Nat × Nat)) : MStep m μ (upd m n o) (fun k => if n = k then y else μ k) := by
  refine ⟨fun k ice ty sz q f h => ?_, fun k ice cs h => ?_, fun k ka va g h => ?_⟩
  all_goals
    have hne : n ≠ k := fun e => by subst e; rw [hn] at h; cases h
  · exact ⟨ice, q, f, by rw [upd_ne _ _ hne]; exact h, Nat.le_refl _, fun _ => by simp [hne]⟩
  · exact ⟨ice, cs, by rw [upd_ne _ _ hne]; exact h, by simp [hne]⟩
  · exact ⟨g, by rw [upd_ne _ _ hne]; exact h, by simp [hne]⟩

/-- A new object under a name that is free: its block is new, or it has none. -/
theorem RR.add (h : RR Γ U μ tf m a w) {n : Nm} (hn : m n = none) (o : Obj) (y : Option (Nat × Nat)) (h1 : w'.os = w.os) (h2 : w'.tape = w.tape) (h3 : w'.output = w.output) (h4 : w.heap.size ≤ w'.heap.size)
    (h5 : ∀ k, k < w.heap.size → w'.heap[k]? = w.heap[k]?) (hy : ∀ g c, y = some (g, c) → w.heap.size ≤ g)
    (ho : ObjOK w' U Γ.Z (fun k => if n = k then y else μ k) (upd m n o) n o) : RR Γ U (fun k => if n = k then y else μ k) tf (upd m n o) a w' := by
  have hs : UStep w U w' U := ⟨fun _ h => h, fun k hk => h5 k (h.ulim k hk).1⟩
  have hm := MStep.add m μ hn o y
  refine h.stepW ⟨h1, h2, h3, h4, fun k hk => h5 k (Nat.lt_of_lt_of_le (h.zlim k hk) h.pres.size)⟩ hs hm ⟨fun k x hx => ?_, fun k k' x x' g c c' hx hx' hg hg' => ?_⟩ fun k hk => ⟨Nat.lt_of_lt_of_le (h.ulim k hk).1 h4, (h.ulim k hk).2⟩
  · by_cases e : n = k
    · subst e
      rw [upd_same] at hx
      injection hx with hx
      subst hx
      exact ho
    · rw [upd_ne _ _ e] at hx
      exact (h.mem.ok k x hx).mono hs hm (by simp [e]) fun g c hg => ⟨h5 g ((h.mem.ok k x hx).lt hg), Iff.rfl⟩
  · by_cases e : n = k <;> by_cases e' : n = k'
    · exact e.symm.trans e'
    · simp only [e, if_true] at hg
      simp only [e', if_false] at hg'
      rw [upd_ne _ _ e'] at hx'
      have := (h.mem.ok k' x' hx').lt hg'
      have := hy g c hg
      omega
    · simp only [e, if_false] at hg
      simp only [e', if_true] at hg'
      rw [upd_ne _ _ e] at hx
      have := (h.mem.ok k x hx).lt hg
      have := hy g c' hg'
      omega
    · simp only [e, if_false] at hg
      simp only [e', if_false] at hg'
      rw [upd_ne _ _ e] at hx
      rw [upd_ne _ _ e'] at hx'
      exact h.mem.inj k k' x x' g c c' hx hx' hg hg'

/-- An object changes: only its own block, or a new one, is written. -/
theorem RR.change (h : RR Γ U μ tf m a w) {n : Nm} {o : Obj} (hn : m n = some o) (o' : Obj) (y : Option (Nat × Nat)) (h1 : w'.os = w.os) (h2 : w'.tape = w.tape) (h3 : w'.output = w.output) (h4 : w.heap.size ≤ w'.heap.size)
    (hU : ∀ g c, μ n = some (g, c) → ¬ U g)
    (h5 : ∀ k, k < w.heap.size → (∀ c, μ n ≠ some (k, c)) → w'.heap[k]? = w.heap[k]?) (hy : ∀ g c, y = some (g, c) → (∃ c', μ n = some (g, c')) ∨ w.heap.size ≤ g)
    (hm : MStep m μ (upd m n o') (fun k => if n = k then y else μ k))
    (ho : ObjOK w' U Γ.Z (fun k => if n = k then y else μ k) (upd m n o') n o') : RR Γ U (fun k => if n = k then y else μ k) tf (upd m n o') a w' := by
  have hs : UStep w U w' U := ⟨fun _ h => h, fun k hk => h5 k (h.ulim k hk).1 fun c hc => hU k c hc hk⟩
  refine h.stepW ⟨h1, h2, h3, h4, fun k hk => h5 k (Nat.lt_of_lt_of_le (h.zlim k hk) h.pres.size) fun c hc => (h.mem.ok n o hn).notZ hc hk⟩ hs hm ⟨fun k x hx => ?_, fun k k' x x' g c c' hx hx' hg hg' => ?_⟩ fun k hk => ⟨Nat.lt_of_lt_of_le (h.ulim k hk).1 h4, (h.ulim k hk).2⟩
  · by_cases e : n = k
    · subst e
      rw [upd_same] at hx
      injection hx with hx
      subst hx
      exact ho
    · rw [upd_ne _ _ e] at hx
      refine (h.mem.ok k x hx).mono hs hm (by simp [e]) fun g c hg => ⟨h5 g ((h.mem.ok k x hx).lt hg) fun c' hc' => e (h.mem.inj n k o x g c' c hn hx hc' hg), Iff.rfl⟩
  · by_cases e : n = k <;> by_cases e' : n = k'
    · exact e.symm.trans e'
    · simp only [e, if_true] at hg
      simp only [e', if_false] at hg'
      rw [upd_ne _ _ e'] at hx'
      rcases hy g c hg with ⟨c2, hc2⟩ | hlt
      · exact e ▸ h.mem.inj n k' o x' g c2 c' hn hx' hc2 hg'
      · have := (h.mem.ok k' x' hx').lt hg'
        omega
    · simp only [e, if_false] at hg
      simp only [e', if_true] at hg'
      rw [upd_ne _ _ e] at hx
      rcases hy g c' hg' with ⟨c2, hc2⟩ | hlt
      · exact e' ▸ h.mem.inj k n x o g c c2 hx hn hg hc2
      · have := (h.mem.ok k x hx).lt hg
        omega
    · simp only [e, if_false] at hg
      simp only [e', if_false] at hg'
      rw [upd_ne _ _ e] at hx
      rw [upd_ne _ _ e'] at hx'
      exact h.mem.inj k k' x x' g c c' hx hx' hg hg'
end
end Go.V

/- V3: a table of types; loads and stores; what an operation without a call does to an abstract state. -/
set_option linter.unusedVariables false
namespace Go.V

/-! ### Types -/
inductive TK where
  | int (k : IntKind) | bool | str | slice (e : Nat) | struct (fs : List (Nat × Nat)) | array (n e : Nat) | map (k v : Nat) | pointer (e : Nat) | func | other
  deriving DecidableEq

def kindOf : TypeDesc → TK
  | .int k => .int k
  | .bool => .bool
  | .string => .str
  | .slice e => .slice e
  | .struct fs => .struct (fs.toList.map fun f => (f.offset, f.type))
  | .array n e => .array n e
  | .map k v => .map k v
  | .pointer e => .pointer e
  | .func _ _ _ => .func
  | _ => .other

def TK.agg : TK → Bool
  | .struct _ | .array _ _ => true
  | _ => false

structure TI where
  k : TK
  sz : Nat
  bytes : Nat
  zero : List Value

structure Ent (P : Program) (t : Nat) (ti : TI) : Prop where
  i : (P.info? t).map (fun i => (i.size, i.bytes, i.zero.map fun z => z.cells.toList)) = some (ti.sz, ti.bytes, some ti.zero)
  d : (P.underlying t).map kindOf = some ti.k
  zs : ti.zero.length = ti.sz
  z1 : ∀ v ∈ ti.zero, v.oneCell' = true
  a1 : ti.k.agg = false → ti.sz = 1

abbrev Tab := List (Nat × TI)
def TabOK (P : Program) (tab : Tab) : Prop := ∀ t ti, lk tab t = some ti → Ent P t ti

section
variable {P : Program} {t : Nat} {ti : TI} (w : World)

theorem Ent.info (h : Ent P t ti) : ∃ i z, P.info? t = some i ∧ i.size = ti.sz ∧ i.bytes = ti.bytes ∧ i.zero = some z ∧ z.cells.toList = ti.zero := by
  obtain ⟨i, hi, he⟩ := Option.map_eq_some_iff.1 h.i
  simp only [Prod.mk.injEq] at he
  obtain ⟨h1, h2, h3⟩ := he
  obtain ⟨z, hz, hc⟩ := Option.map_eq_some_iff.1 h3
  exact ⟨i, z, hi, h1, h2, hz, hc⟩
theorem Ent.desc (h : Ent P t ti) : ∃ d, P.underlying t = some d ∧ kindOf d = ti.k := Option.map_eq_some_iff.1 h.d

theorem Ent.typeInfo (h : Ent P t ti) : ∃ i, (typeInfo t).run P w = .ok i w ∧ i.size = ti.sz ∧ i.bytes = ti.bytes ∧ ∃ z, i.zero = some z ∧ z.cells.toList = ti.zero := by
  obtain ⟨i, z, h1, h2, h3, h4, h5⟩ := h.info
  exact ⟨i, by simp [Go.typeInfo, h1], h2, h3, z, h4, h5⟩
theorem Ent.size (h : Ent P t ti) : (sizeOf t).run P w = .ok ti.sz w := by
  obtain ⟨i, h1, h2, _⟩ := h.typeInfo w
  simp [sizeOf, h1, h2]
theorem Ent.und (h : Ent P t ti) : ∃ d, (underlying t).run P w = .ok d w ∧ kindOf d = ti.k := by
  obtain ⟨d, h1, h2⟩ := h.desc
  exact ⟨d, by simp [underlying, h1], h2⟩
theorem Ent.isAgg (h : Ent P t ti) : (isAgg t).run P w = .ok ti.k.agg w := by
  obtain ⟨d, h1, h2⟩ := h.und w
  rw [← h2]
  cases d <;> simp [Go.isAgg, h1, kindOf, TK.agg]
theorem Ent.zero (h : Ent P t ti) : ∃ z, (zeroValue t).run P w = .ok z w ∧ z.cells.toList = ti.zero := by
  obtain ⟨i, h1, _, _, z, h4, h5⟩ := h.typeInfo w
  exact ⟨z, by simp [zeroValue, h1, h4], h5⟩
theorem Ent.slice {e : Nat} (h : Ent P t ti) (hk : ti.k = .slice e) : P.underlying t = some (.slice e) := by
  obtain ⟨d, h1, h2⟩ := h.desc
  rw [hk] at h2
  cases d <;> simp [kindOf] at h2
  rw [h1, h2]
theorem Ent.array {n e : Nat} (h : Ent P t ti) (hk : ti.k = .array n e) : P.underlying t = some (.array n e) := by
  obtain ⟨d, h1, h2⟩ := h.desc
  rw [hk] at h2
  cases d <;> simp [kindOf] at h2
  rw [h1, h2.1, h2.2]
theorem Ent.struct {fs : List (Nat × Nat)} (h : Ent P t ti) (hk : ti.k = .struct fs) : ∃ fields, P.underlying t = some (.struct fields) ∧ fields.toList.map (fun f => (f.offset, f.type)) = fs := by
  obtain ⟨d, h1, h2⟩ := h.desc
  rw [hk] at h2
  cases d <;> simp [kindOf] at h2
  exact ⟨_, h1, h2⟩
theorem Ent.int {k : IntKind} (h : Ent P t ti) (hk : ti.k = .int k) : P.underlying t = some (.int k) := by
  obtain ⟨d, h1, h2⟩ := h.desc
  rw [hk] at h2
  cases d <;> simp [kindOf] at h2
  rw [h1, h2]
theorem Ent.bool (h : Ent P t ti) (hk : ti.k = .bool) : P.underlying t = some .bool := by
  obtain ⟨d, h1, h2⟩ := h.desc
  rw [hk] at h2
  cases d <;> simp [kindOf] at h2
  rw [h1]

/-! ### Loads and stores -/
/-- The value of cells. -/
def valOf (agg : Bool) (vs : List Value) : Value := if agg then .agg vs.toArray else vs.headD undef

theorem run_loadVar (h : Ent P t ti) (ad : Addr) (vs : List Value) (hl : vs.length = ti.sz) (hc : ∀ j v, vs[j]? = some v → w.cell? (ad.add j) = some v) :
    (loadVar t ad).run P w = .ok (valOf ti.k.agg vs) w := by
  unfold loadVar
  simp only [Sem.run_bind, h.isAgg w, Result.andThen]
  cases ha : ti.k.agg with
  | true =>
    simp only [if_true, Sem.run_bind, h.size w, Result.andThen]
    rw [← hl, run_loadCells_list w ad vs hc]
    simp [valOf]
  | false =>
    have hs := h.a1 ha
    obtain ⟨v, rfl⟩ : ∃ v, vs = [v] := by
      match vs, hl with
      | [v], _ => exact ⟨v, rfl⟩
      | [], hl => simp at hl; omega
      | _ :: _ :: _, hl => simp at hl; omega
    have h0 := hc 0 v rfl
    have : ad.add 0 = ad := by simp [Addr.add]
    rw [this] at h0
    simp [valOf, h0]

/-- The cells of a row from o on, some of them replaced. -/
def setFrom {α : Type} (cs : List α) (o : Nat) (vs : List α) : List α := cs.take o ++ vs ++ cs.drop (o + vs.length)

theorem length_setFrom {α : Type} (cs : List α) (o : Nat) (vs : List α) (h : o + vs.length ≤ cs.length) : (setFrom cs o vs).length = cs.length := by
  simp [setFrom]; omega
theorem getElem_setFrom {α : Type} (cs : List α) (o : Nat) (vs : List α) (h : o + vs.length ≤ cs.length) (i : Nat) :
    (setFrom cs o vs)[i]? = if o ≤ i ∧ i < o + vs.length then vs[i - o]? else cs[i]? := by
  unfold setFrom
  by_cases h1 : i < o
  · rw [List.append_assoc, List.getElem?_append_left (by simp; omega), List.getElem?_take, if_pos h1, if_neg (by omega)]
  · by_cases h2 : i < o + vs.length
    · rw [List.getElem?_append_left (by simp; omega), List.getElem?_append_right (by simp; omega), if_pos ⟨by omega, h2⟩]
      congr 1
      simp
      omega
    · rw [List.getElem?_append_right (by simp; omega), if_neg (by omega), List.getElem?_drop]
      congr 1
      simp
      omega

theorem run_storeVar (h : Ent P t ti) (g o : Nat) (cur : Array Value) (ty : TypeId) (hg : w.heap[g]? = some (.cells cur ty (0, 0))) (v : Value) (hl : v.cells.size = ti.sz) (h1 : ∀ u ∈ v.cells.toList, u.oneCell' = true)
    (hf : o + ti.sz ≤ cur.size) : (storeVar t ⟨g, o, none⟩ v).run P w = .ok () (w.setRow g (setFrom cur.toList o v.cells.toList).toArray) := by
  have := run_storeCells_at P g o ty v.cells.toList 0 cur w hg (by simp; omega) h1
  unfold storeVar
  simp only [Sem.run_bind, h.size w, Result.andThen, hl]
  simp only [ne_eq, not_true_eq_false, if_false]
  rw [this]
  simp [setFrom]

theorem heap_setRow_same (w : World) (g : Nat) (old cs : Array Value) (t : TypeId) (fr : Nat × Nat) (hg : w.heap[g]? = some (.cells old t fr)) : (w.setRow g cs).heap[g]? = some (.cells cs t fr) := setRow_heap w g old cs t fr hg
theorem heap_setRow_ne (w : World) (g k : Nat) (cs : Array Value) (h : k ≠ g) : (w.setRow g cs).heap[k]? = w.heap[k]? := by
  simp only [World.setRow, Array.getElem?_modify]
  rw [if_neg (by omega)]
end
end Go.V

/- V4: operands; effects; freezing rows; pure data out of cells. -/
set_option linter.unusedVariables false
namespace Go.V

def ofConst : Value → Option T
  | .agg cs => if cs.all (·.oneCell') then some (.agg (cs.toList.map fun v => .d (.s v))) else none
  | .tuple _ => none
  | v => some (.c (.d (.s v)))

def opd (st : St) : Operand → Option T
  | .tmp t => lk st.t t
  | .const v => ofConst v
  | .func f => some (.c (.d (.s (.func (.func f) #[] #[]))))
  | .global _ => none

theorem ofConst_rep {w : World} {U : Nat → Prop} {μ : Mu} {m : Mem} {v : Value} {x : T} (h : ofConst v = some x) : RepT w U μ m x v := by
  cases v with
  | agg cs =>
    simp only [ofConst] at h
    split at h
    · rename_i ha
      injection h with h
      subst h
      refine .agg (by simp) fun i c hc => ?_
      simp only [List.getElem?_map] at hc
      obtain ⟨v, hv, rfl⟩ := Option.map_eq_some_iff.1 hc
      have hv' : cs[i]? = some v := by simpa using hv
      have : cs.getD i undef = v := by simp [hv']
      rw [this]
      exact .d (.s v ((Array.all_eq_true_iff_forall_mem.1 ha) v (Array.mem_of_getElem? hv')))
    · cases h
  | tuple vs => simp [ofConst] at h
  | _ => simp only [ofConst, Option.some.injEq] at h; subst h; exact .c (.d (.s _ rfl))

section
variable {Γ : Ctx} {U : Nat → Prop} {μ : Mu} {st : St} {a : Act} {w : World}

theorem opd_rep {m : Mem} (h : RR Γ U μ (lk st.t) m a w) {o : Operand} {x : T} (hx : opd st o = some x) : RepT w U μ m x (a.eval o) := by
  cases o with
  | tmp t => exact h.tmp t x hx
  | const v => exact ofConst_rep hx
  | func f => simp only [opd, Option.some.injEq] at hx; subst hx; exact .c (.d (.s _ rfl))
  | global g => simp [opd] at hx
end

/-! ### Effects -/
structure Eff where
  v : Option T
  up : List (Nm × Obj)
  rd : List Nm

def St.app (st : St) (dst : Option Nat) (e : Eff) : St :=
  { t := match dst, e.v with
      | some d, some x => (d, x) :: st.t
      | some d, none => del st.t d
      | none, _ => st.t
    m := e.up ++ st.m }

theorem R.app {Γ : Ctx} {U : Nat → Prop} {μ : Mu} {st : St} {a : Act} {w : World} {e : Eff} {dst : Option Nat} {v : Value}
    (h : RR Γ U μ (lk st.t) (lk (e.up ++ st.m)) a w) (hd : ∀ d, dst = some d → d < Γ.N) (hv : ∀ x, e.v = some x → RepT w U μ (lk (e.up ++ st.m)) x v) : R Γ (st.app dst e) (a.put dst v) w := by
  refine ⟨U, μ, ?_⟩
  cases dst with
  | none => exact h
  | some d =>
    cases hx : e.v with
    | none =>
      simp only [St.app, hx]
      exact h.lose (hd d rfl) (fun t => lk_del _ _ _) v
    | some x =>
      simp only [St.app, hx, lk_cons_upd]
      exact h.put (hd d rfl) (hv x hx)

/-- What an operation's run comes to. -/
def Good (Γ : Ctx) (st : St) (a : Act) (e : Eff) (r : Result Value) : Prop :=
  ∃ v w' U' μ', r = .ok v w' ∧ RR Γ U' μ' (lk st.t) (lk (e.up ++ st.m)) a w' ∧ ∀ x, e.v = some x → RepT w' U' μ' (lk (e.up ++ st.m)) x v

theorem Good.pure {Γ : Ctx} {U : Nat → Prop} {μ : Mu} {st : St} {a : Act} {w : World} (h : RR Γ U μ (lk st.t) (lk st.m) a w) {x : T} {v : Value} (hx : RepT w U μ (lk st.m) x v) {rd : List Nm} {r : Result Value} (hr : r = .ok v w) :
    Good Γ st a ⟨some x, [], rd⟩ r := ⟨v, w, U, μ, hr, h, fun y hy => by injection hy with hy; subst hy; exact hx⟩

/-- The same, where nothing changes. -/
def GoodP (U : Nat → Prop) (μ : Mu) (st : St) (w : World) (e : Eff) (r : Result Value) : Prop :=
  ∃ y v rd, e = ⟨some y, [], rd⟩ ∧ r = .ok v w ∧ RepT w U μ (lk st.m) y v
theorem GoodP.pure {Γ : Ctx} {U : Nat → Prop} {μ : Mu} {st : St} {a : Act} {w : World} (h : RR Γ U μ (lk st.t) (lk st.m) a w) {x : T} {v : Value} (hx : RepT w U μ (lk st.m) x v) {rd : List Nm} {r : Result Value} (hr : r = .ok v w) :
    GoodP U μ st w ⟨some x, [], rd⟩ r := ⟨x, v, rd, rfl, hr, hx⟩
theorem GoodP.good {Γ : Ctx} {U : Nat → Prop} {μ : Mu} {st : St} {a : Act} {w : World} (h : RR Γ U μ (lk st.t) (lk st.m) a w) {e : Eff} {r : Result Value} (hg : GoodP U μ st w e r) : Good Γ st a e r := by
  obtain ⟨y, v, rd, rfl, hr, hx⟩ := hg
  exact Good.pure h hx hr

/-! ### Freezing -/
def Obj.ice : Obj → Obj
  | .box _ cs => .box true cs
  | .row _ ty sz k f => .row true ty sz k f
  | o => o

def iceUp (m : List (Nm × Obj)) : List Nm → List (Nm × Obj)
  | [] => []
  | n :: ns => match lk m n with
    | some (.row _ ty sz k f) => (n, .row true ty sz k f) :: iceUp m ns
    | some (.box _ cs) => (n, .box true cs) :: iceUp m ns
    | _ => iceUp m ns

theorem lk_append {α : Type} (l r : List (Nat × α)) (n : Nat) : lk (l ++ r) n = (lk l n).or (lk r n) := by
  induction l with
  | nil => simp
  | cons p l ih =>
    obtain ⟨k, v⟩ := p
    simp only [List.cons_append, lk_cons, ih]
    split <;> simp

theorem lk_iceUp (m : List (Nm × Obj)) (ns : List Nm) (n : Nm) : lk (iceUp m ns ++ m) n = lk m n ∨ ∃ o, lk m n = some o ∧ lk (iceUp m ns ++ m) n = some o.ice := by
  induction ns with
  | nil => exact .inl rfl
  | cons k ns ih =>
    simp only [iceUp]
    split
    · rename_i ice ty sz q f hk
      by_cases e : k = n
      · subst e
        refine .inr ⟨_, hk, ?_⟩
        simp [Obj.ice]
      · simpa [lk_cons, e] using ih
    · rename_i ice cs hk
      by_cases e : k = n
      · subst e
        refine .inr ⟨_, hk, ?_⟩
        simp [Obj.ice]
      · simpa [lk_cons, e] using ih
    · exact ih

section
variable {Γ : Ctx} {U : Nat → Prop} {μ : Mu} {tf : Nat → Option T} {m : Mem} {a : Act} {w : World}

theorem MStep.ice {n : Nm} {o : Obj} (hn : m n = some o) : MStep m μ (upd m n o.ice) μ := by
  refine ⟨fun k ice ty sz q f h => ?_, fun k ice cs h => ?_, fun k ka va g h => ?_⟩
  all_goals
    by_cases e : n = k
    · subst e
      rw [hn] at h
      injection h with h
      subst h
      rw [upd_same]
      first
        | exact ⟨true, q, f, rfl, Nat.le_refl _, fun _ => rfl⟩
        | exact ⟨true, cs, rfl, rfl⟩
        | exact ⟨g, rfl, rfl⟩
    · rw [upd_ne _ _ e]
      first
        | exact ⟨ice, q, f, h, Nat.le_refl _, fun _ => rfl⟩
        | exact ⟨ice, cs, h, rfl⟩
        | exact ⟨g, h, rfl⟩

/-- A row or a variable is frozen: its block may be read for good. -/
theorem RR.ice (h : RR Γ U μ tf m a w) {n : Nm} {o : Obj} (hn : m n = some o) (hmap : ∀ ka va g, o ≠ .map ka va g) :
    ∃ U', RR Γ U' μ tf (upd m n o.ice) a w ∧ (∀ k, U k → U' k) ∧ (∀ g c, μ n = some (g, c) → U' g) := by
  have hu0 : ∀ g c, μ n = some (g, c) → g < w.heap.size ∧ ¬ Γ.Z g := fun g c hg => ⟨(h.mem.ok n o hn).lt hg, (h.mem.ok n o hn).notZ hg⟩
  refine ⟨fun k => U k ∨ ∃ c, μ n = some (k, c), ?_, fun k hk => .inl hk, fun g c hg => .inr ⟨c, hg⟩⟩
  have hs : UStep w U w (fun k => U k ∨ ∃ c, μ n = some (k, c)) := ⟨fun k hk => .inl hk, fun _ _ => rfl⟩
  have hm : MStep m μ (upd m n o.ice) μ := MStep.ice hn
  refine h.stepW (Pres.refl _ _) hs hm ⟨fun k x hx => ?_, fun k k' x x' g c c' hx hx' hg hg' => ?_⟩ fun k hk => ?_
  · by_cases e : n = k
    · subst e
      rw [upd_same] at hx
      injection hx with hx
      subst hx
      have ho := h.mem.ok n o hn
      cases o with
      | box ice cs =>
        obtain ⟨g, cur, ty, h1, h2, h3, h4, h5, h6, h7⟩ := ho
        exact ⟨g, cur, ty, h1, h2, h3, fun i c hc => (h4 i c hc).mono hs hm, h5, fun _ => .inr ⟨0, h1⟩, fun e => by cases e⟩
      | row ice ty sz k f =>
        obtain ⟨h0, ho⟩ := ho
        refine ⟨h0, ?_⟩
        rcases ho with ho | ⟨g, cap, cur, h1, h2, h3, h4, h5, h6, h7, h8, h9⟩
        · exact .inl ho
        · exact .inr ⟨g, cap, cur, h1, h2, h3, h4, h5, fun j q d hj hd => (h6 j q d hj hd).mono hs, h7, fun _ => .inr ⟨cap, h1⟩, fun e => by cases e⟩
      | map ka va g => exact absurd rfl (hmap ka va g)
    · rw [upd_ne _ _ e] at hx
      refine (h.mem.ok k x hx).mono hs hm rfl fun g c hg => ⟨rfl, ?_⟩
      constructor
      · rintro (hu | ⟨c', hc'⟩)
        · exact hu
        · exact absurd (h.mem.inj n k o x g c' c hn hx hc' hg) e
      · exact fun hu => .inl hu
  · have hx1 : ∃ y, m k = some y := by
      by_cases e : n = k
      · exact e ▸ ⟨o, hn⟩
      · rw [upd_ne _ _ e] at hx; exact ⟨x, hx⟩
    have hx2 : ∃ y, m k' = some y := by
      by_cases e : n = k'
      · exact e ▸ ⟨o, hn⟩
      · rw [upd_ne _ _ e] at hx'; exact ⟨x', hx'⟩
    obtain ⟨y, hy⟩ := hx1
    obtain ⟨y', hy'⟩ := hx2
    exact h.mem.inj k k' y y' g c c' hy hy' hg hg'
  · rcases hk with hk | ⟨c, hc⟩
    · exact h.ulim k hk
    · exact ⟨(hu0 k c hc).1, .inr (hu0 k c hc).2⟩
end

theorem RR.iceAll {Γ : Ctx} {μ : Mu} {tf : Nat → Option T} {a : Act} {w : World} {m : List (Nm × Obj)} (ns : List Nm) : ∀ {U : Nat → Prop}, RR Γ U μ tf (lk m) a w →
    ∃ U', RR Γ U' μ tf (lk (iceUp m ns ++ m)) a w ∧ (∀ k, U k → U' k) ∧ (∀ n ∈ ns, ∀ o, lk m n = some o → (∀ ka va g, o ≠ .map ka va g) → ∀ g c, μ n = some (g, c) → U' g) := by
  induction ns with
  | nil => exact fun {U} h => ⟨U, h, fun _ hk => hk, fun n hn => by cases hn⟩
  | cons n ns ih =>
    intro U h
    obtain ⟨U1, h1, hu1, hi1⟩ := ih h
    simp only [iceUp]
    split
    · rename_i ice ty sz k f hn
      have hn1 : ∃ ice', lk (iceUp m ns ++ m) n = some (.row ice' ty sz k f) := by
        rcases lk_iceUp m ns n with e | ⟨o, ho, e⟩
        · exact ⟨ice, e.trans hn⟩
        · rw [hn] at ho; injection ho with ho; subst ho; exact ⟨true, e⟩
      obtain ⟨ice', hn1⟩ := hn1
      obtain ⟨U2, h2, hu2, hi2⟩ := h1.ice hn1 (fun _ _ _ => by simp)
      refine ⟨U2, ?_, fun x hx => hu2 x (hu1 x hx), fun x hx o ho hmap g c hg => ?_⟩
      · rw [List.cons_append, lk_cons_upd]; exact h2
      · rcases List.mem_cons.1 hx with rfl | hx
        · exact hi2 g c hg
        · exact hu2 g (hi1 x hx o ho hmap g c hg)
    · rename_i ice cs hn
      have hn1 : ∃ ice', lk (iceUp m ns ++ m) n = some (.box ice' cs) := by
        rcases lk_iceUp m ns n with e | ⟨o, ho, e⟩
        · exact ⟨ice, e.trans hn⟩
        · rw [hn] at ho; injection ho with ho; subst ho; exact ⟨true, e⟩
      obtain ⟨ice', hn1⟩ := hn1
      obtain ⟨U2, h2, hu2, hi2⟩ := h1.ice hn1 (fun _ _ _ => by simp)
      refine ⟨U2, ?_, fun x hx => hu2 x (hu1 x hx), fun x hx o ho hmap g c hg => ?_⟩
      · rw [List.cons_append, lk_cons_upd]; exact h2
      · rcases List.mem_cons.1 hx with rfl | hx
        · exact hi2 g c hg
        · exact hu2 g (hi1 x hx o ho hmap g c hg)
    · rename_i hno1 hno2
      refine ⟨U1, h1, hu1, fun x hx o ho hmap g c hg => ?_⟩
      rcases List.mem_cons.1 hx with rfl | hx
      · cases o with
        | box ice cs => exact absurd ho (hno2 ice cs)
        | row ice ty sz k f => exact absurd ho (hno1 ice ty sz k f)
        | map ka va g => exact absurd rfl (hmap ka va g)
      · exact hi1 x hx o ho hmap g c hg

/-! ### Pure data out of cells: rows that are met are frozen -/
def toD (m : List (Nm × Obj)) : C → Option (Prop × D × List Nm)
  | .d x => some (True, x, [])
  | .row n len => match lk m n with
    | some (.row _ _ _ k f) => some (len = k, .l k f, [n])
    | _ => none
  | .z => some (True, .l 0 fun _ => [], [])
  | .clo f [] => some (True, .s (.func f #[] #[]), [])
  | _ => none

def toDs (m : List (Nm × Obj)) : List C → Option (Prop × List D × List Nm)
  | [] => some (True, [], [])
  | c :: cs => match toD m c, toDs m cs with
    | some (p, x, ns), some (q, xs, ns') => some (p ∧ q, x :: xs, ns ++ ns')
    | _, _ => none

theorem rowIs_rep {w : World} {U Z : Nat → Prop} {μ : Mu} {m : Mem} {n : Nm} {ice : Bool} {ty sz k : Nat} {f : Nat → List D} (ho : ObjOK w U Z μ m n (.row ice ty sz k f)) (hU : ∀ g c, μ n = some (g, c) → U g) {v : Value} (hv : rowIs (μ n) k v) : RepD w U (.l k f) v := by
  obtain ⟨h0, ho⟩ := ho
  rcases ho with ⟨h1, h2⟩ | ⟨g, cap, cur, h1, h2, h3, h4, h5, h6, h7, h8, h9⟩
  · rw [h1] at hv
    obtain ⟨_, ad, rfl⟩ := hv
    subst h2
    exact .l 0 f ad 0 sz (fun _ _ => undef) (Nat.le_refl _) (Nat.zero_le _) (fun j hj => by omega) (fun h => by omega) (fun j q d hj => by omega)
  · rw [h1] at hv
    have hv : v = .slice (some ⟨g, 0, none⟩) k cap := hv
    subst hv
    refine .l k f _ cap sz (fun j q => cur.getD (j * sz + q) undef) h4 h5 h0 (fun _ => ⟨⟨g, 0, none⟩, rfl, hU g cap h1, fun j q hj hq => ?_⟩) h6
    have hadd : (⟨g, 0, none⟩ : Addr).add (j * sz + q) = ⟨g, j * sz + q, none⟩ := by unfold Addr.add; split <;> simp_all
    have hlt : j * sz + q < cur.size := by
      rw [h3]
      calc j * sz + q < j * sz + sz := by omega
        _ = (j + 1) * sz := by rw [Nat.add_mul, Nat.one_mul]
        _ ≤ cap * sz := Nat.mul_le_mul_right _ (by omega)
    rw [hadd, cell_of_row w g _ cur ty (0, 0) h2]
    simp [hlt]

theorem toD_rep {Γ : Ctx} {μ : Mu} {tf : Nat → Option T} {a : Act} {w : World} {m m' : List (Nm × Obj)} {U' : Nat → Prop} (h : RR Γ U' μ tf (lk m') a w)
    (hm : ∀ n, lk m' n = lk m n ∨ ∃ o, lk m n = some o ∧ lk m' n = some o.ice) {c : C} {p : Prop} {x : D} {ns : List Nm} (hx : toD m c = some (p, x, ns)) (hp : p)
    (hU : ∀ n ∈ ns, ∀ o, lk m n = some o → (∀ ka va g, o ≠ .map ka va g) → ∀ g c, μ n = some (g, c) → U' g) {v : Value} (hv : RepC w U' μ (lk m') c v) : RepD w U' x v := by
  cases hv with
  | d hv => simp only [toD, Option.some.injEq, Prod.mk.injEq] at hx; obtain ⟨_, rfl, _⟩ := hx; exact hv
  | @row n len v ice ty sz k f hn hk h1 hv =>
    simp only [toD] at hx
    split at hx
    · rename_i ice' ty' sz' k' f' hn'
      simp only [Option.some.injEq, Prod.mk.injEq] at hx
      obtain ⟨rfl, rfl, rfl⟩ := hx
      have hp' : len = k' := hp
      have ho : ∃ ice2, lk m' n = some (.row ice2 ty' sz' k' f') := by
        rcases hm n with e | ⟨o, ho, e⟩
        · exact ⟨ice', e.trans hn'⟩
        · rw [hn'] at ho; injection ho with ho; subst ho; exact ⟨true, e⟩
      obtain ⟨ice2, ho⟩ := ho
      rw [ho] at hn
      injection hn with hn
      injection hn with e1 e2 e3 e4 e5
      subst e4
      exact rowIs_rep (h.mem.ok _ _ ho) (fun g c hg => hU n (by simp) _ hn' (fun _ _ _ => by simp) g c hg) (hv hp')
    · cases hx
  | z ad =>
    simp only [toD, Option.some.injEq, Prod.mk.injEq] at hx
    obtain ⟨_, rfl, _⟩ := hx
    exact .l 0 _ ad 0 0 (fun _ _ => undef) (Nat.le_refl _) (Nat.zero_le _) (fun j hj => by omega) (fun h => by omega) (fun j q d hj => by omega)
  | ptr ice cs hn => simp [toD] at hx
  | mp ka va g hn => simp [toD] at hx
  | @clo f cap vs hs hcl =>
    cases cap with
    | nil =>
      simp only [toD, Option.some.injEq, Prod.mk.injEq] at hx
      obtain ⟨_, rfl, _⟩ := hx
      have : vs = #[] := by simpa using hs
      subst this
      exact .s _ rfl
    | cons c cs => simp [toD] at hx

theorem toDs_rep {Γ : Ctx} {μ : Mu} {tf : Nat → Option T} {a : Act} {w : World} {m m' : List (Nm × Obj)} {U' : Nat → Prop} (h : RR Γ U' μ tf (lk m') a w)
    (hm : ∀ n, lk m' n = lk m n ∨ ∃ o, lk m n = some o ∧ lk m' n = some o.ice) {cs : List C} : ∀ {p : Prop} {xs : List D} {ns : List Nm}, toDs m cs = some (p, xs, ns) → p →
    (∀ n ∈ ns, ∀ o, lk m n = some o → (∀ ka va g, o ≠ .map ka va g) → ∀ g c, μ n = some (g, c) → U' g) → ∀ {vs : List Value}, (∀ (i : Nat) c, cs[i]? = some c → RepC w U' μ (lk m') c (vs.getD i undef)) →
    xs.length = cs.length ∧ ∀ (i : Nat) x, xs[i]? = some x → RepD w U' x (vs.getD i undef) := by
  induction cs with
  | nil =>
    intro p xs ns hx _ _ vs _
    simp only [toDs, Option.some.injEq, Prod.mk.injEq] at hx
    obtain ⟨_, rfl, _⟩ := hx
    exact ⟨rfl, fun i x hx => by simp at hx⟩
  | cons c cs ih =>
    intro p xs ns hx hp hU vs hv
    simp only [toDs] at hx
    split at hx
    · rename_i p1 x1 ns1 p2 xs2 ns2 h1 h2
      simp only [Option.some.injEq, Prod.mk.injEq] at hx
      obtain ⟨rfl, rfl, rfl⟩ := hx
      have hp' : p1 ∧ p2 := hp
      have hr1 := toD_rep h hm h1 hp'.1 (fun n hn => hU n (List.mem_append_left _ hn)) (hv 0 c rfl)
      obtain ⟨e, hr2⟩ := ih h2 hp'.2 (fun n hn => hU n (List.mem_append_right _ hn)) (vs := vs.drop 1) (fun i c hc => by
        have := hv (i + 1) c (by simpa using hc)
        simpa [List.getD_eq_getElem?_getD, Nat.add_comm] using this)
      refine ⟨by simp [e], fun i x hx => ?_⟩
      cases i with
      | zero => simp only [List.getElem?_cons_zero, Option.some.injEq] at hx; subst hx; exact hr1
      | succ i =>
        have := hr2 i x (by simpa using hx)
        simpa [List.getD_eq_getElem?_getD, Nat.add_comm] using this
    · cases hx
end Go.V

/- V5: loads, stores, addresses, parts. -/
set_option linter.unusedVariables false
namespace Go.V

def cellsOf : T → Option (List C)
  | .c x => some [x]
  | .agg cs => some cs
  | _ => none

theorem cellsOf_rep {w : World} {U : Nat → Prop} {μ : Mu} {m : Mem} {x : T} {v : Value} {cs : List C} (h : RepT w U μ m x v) (hc : cellsOf x = some cs) :
    v.cells.size = cs.length ∧ (∀ i c, cs[i]? = some c → RepC w U μ m c (v.cells.getD i undef)) ∧ ∀ u ∈ v.cells.toList, u.oneCell' = true := by
  cases h with
  | @c x v h =>
    simp only [cellsOf, Option.some.injEq] at hc
    subst hc
    have h1 := h.one
    have hv : v.cells = #[v] := by cases v <;> first | rfl | simp [Value.oneCell'] at h1
    rw [hv]
    refine ⟨rfl, fun i c hi => ?_, by simp [h1]⟩
    cases i with
    | zero => simp at hi; subst hi; simpa using h
    | succ i => simp at hi
  | @agg cs' vs hs h =>
    simp only [cellsOf, Option.some.injEq] at hc
    subst hc
    refine ⟨hs, h, fun u hu => ?_⟩
    obtain ⟨i, hi, rfl⟩ := List.mem_iff_getElem.1 hu
    have hi' : i < vs.size := by simpa [Value.cells] using hi
    have hlt : i < cs'.length := by omega
    have := (h i _ (List.getElem?_eq_getElem hlt)).one
    simpa [Value.cells, hi'] using this
  | tup => simp [cellsOf] at hc
  | el => simp [cellsOf] at hc
  | rp => simp [cellsOf] at hc

/-- A value of a type out of its cells. -/
def ofCells (agg : Bool) (cs : List C) : Option T :=
  if agg then some (.agg cs) else match cs with
    | [x] => some (.c x)
    | _ => none

theorem ofCells_rep {w : World} {U : Nat → Prop} {μ : Mu} {m : Mem} {agg : Bool} {cs : List C} {x : T} (h : ofCells agg cs = some x) {vs : List Value} (hl : vs.length = cs.length) (hr : ∀ (i : Nat) c, cs[i]? = some c → RepC w U μ m c (vs.getD i undef)) :
    RepT w U μ m x (valOf agg vs) := by
  unfold ofCells at h
  cases agg with
  | true =>
    simp only [if_true, Option.some.injEq] at h
    subst h
    refine .agg (by simpa using hl) fun i c hc => ?_
    simpa [List.getD_eq_getElem?_getD] using hr i c hc
  | false =>
    simp only [Bool.false_eq_true, if_false] at h
    split at h
    · rename_i x
      injection h with h
      subst h
      have := hr 0 x rfl
      refine .c ?_
      simp only [valOf, Bool.false_eq_true, if_false]
      match vs, hl with
      | [v], _ => simpa using this
    · cases h

def evLoad (tab : Tab) (st : St) (t : Nat) (x : T) : Option (Prop × Eff) :=
  match lk tab t with
  | none => none
  | some ti => match x with
    | .c (.ptr n off) => match lk st.m n with
      | some (.box _ cs) => if off + ti.sz ≤ cs.length then (ofCells ti.k.agg ((cs.drop off).take ti.sz)).map fun y => (True, ⟨some y, [], [n]⟩) else none
      | _ => none
    | .el n len j q => match lk st.m n with
      | some (.row _ _ sz k f) => (ofCells ti.k.agg ((((f j).drop q).take ti.sz).map .d)).map fun y => (len = k ∧ q + ti.sz ≤ sz, ⟨some y, [], [n]⟩)
      | _ => none
    | .rp cs => (ofCells ti.k.agg ((cs.take ti.sz).map .d)).map fun y => (ti.sz ≤ cs.length, ⟨some y, [], []⟩)
    | _ => none

theorem add_zero_off (g o : Nat) : (⟨g, 0, none⟩ : Addr).add o = ⟨g, o, none⟩ := by unfold Addr.add; split <;> simp_all
theorem add_off (g o i : Nat) : (⟨g, o, none⟩ : Addr).add i = ⟨g, o + i, none⟩ := by unfold Addr.add; split <;> simp_all

theorem getD_take_drop {α : Type} (cs : List α) (o n i : Nat) (d : α) (h : i < n) : ((cs.drop o).take n).getD i d = cs.getD (o + i) d := by
  simp [List.getD_eq_getElem?_getD, h]

section
variable {Γ : Ctx} {U : Nat → Prop} {μ : Mu} {st : St} {a : Act} {w : World} {tab : Tab}

theorem row_lt {cap k j q sz : Nat} (hj : j < k) (hk : k ≤ cap) (hq : q < sz) : j * sz + q < cap * sz := by
  calc j * sz + q < j * sz + sz := by omega
    _ = (j + 1) * sz := by rw [Nat.add_mul, Nat.one_mul]
    _ ≤ cap * sz := Nat.mul_le_mul_right _ (by omega)

theorem evLoad_goodP (hT : TabOK Γ.P tab) (h : RR Γ U μ (lk st.t) (lk st.m) a w) {t : Nat} {x : T} {v : Value} (hx : RepT w U μ (lk st.m) x v) {p : Prop} {e : Eff} (he : evLoad tab st t x = some (p, e)) (hp : p) :
    GoodP U μ st w e ((Instr.loadAt t v).run Γ.P w) := by
  unfold evLoad at he
  split at he
  · cases he
  rename_i ti hti
  have hE := hT t ti hti
  split at he
  · rename_i n off
    split at he
    · rename_i ice cs hn
      split at he
      · rename_i hle
        obtain ⟨y, hy, he⟩ := Option.map_eq_some_iff.1 he
        simp only [Prod.mk.injEq] at he
        obtain ⟨_, rfl⟩ := he
        cases hx with
        | c hx =>
          cases hx with
          | ptr ice' cs' hn' =>
            obtain ⟨g, cur, ty, h1, h2, h3, h4, _⟩ := h.mem.ok n _ hn
            have hb : blk (μ n) = g := by simp [blk, h1]
            rw [hb]
            have hrun := run_loadVar w hE ⟨g, off, none⟩ ((cur.toList.drop off).take ti.sz) (by simp; omega) (fun j u hj => by
              rw [add_off, cell_of_row w g _ cur ty (0, 0) h2]
              have hjs : j < ti.sz := by
                have := (List.getElem?_eq_some_iff.1 hj).1
                simp at this
                omega
              rw [List.getElem?_take, if_pos hjs, List.getElem?_drop] at hj
              simpa using hj)
            refine GoodP.pure h (ofCells_rep (vs := (cur.toList.drop off).take ti.sz) hy (by simp; omega) fun i c hc => ?_) (by simp only [Instr.loadAt, Instr.sureAddr, Sem.run_bind, Sem.run_pure, Result.andThen, hrun])
            have his : i < ti.sz := by
              have := (List.getElem?_eq_some_iff.1 hc).1
              simp at this
              omega
            rw [List.getElem?_take, if_pos his, List.getElem?_drop] at hc
            have := h4 _ c hc
            rw [getD_take_drop _ _ _ _ _ his]
            simpa [List.getD_eq_getElem?_getD] using this
      · cases he
    · cases he
  · rename_i n len j q
    split at he
    · rename_i ice ty sz k f hn
      obtain ⟨y, hy, he⟩ := Option.map_eq_some_iff.1 he
      simp only [Prod.mk.injEq] at he
      obtain ⟨rfl, rfl⟩ := he
      obtain ⟨hlen, hq⟩ := hp
      cases hx with
      | el ice' ty' sz' k' f' hn' hk hj hv =>
        rw [hn] at hn'
        injection hn' with hn'
        injection hn' with e1 e2 e3 e4 e5
        subst e1 e2 e3 e4 e5
        obtain ⟨h0, ho⟩ := h.mem.ok n _ hn
        rcases ho with ⟨h1, h2⟩ | ⟨g, cap, cur, h1, h2, h3, h4, h5, h6, h7, h8, h9⟩
        · omega
        · have hb : blk (μ n) = g := by simp [blk, h1]
          have hv := hv hlen
          rw [hb] at hv
          subst hv
          have hjk : j < k := by omega
          have hlt : ∀ i, i < sz → j * sz + i < cur.size := fun i hi => by rw [h3]; exact row_lt hjk h4 hi
          have hrun := run_loadVar w hE ⟨g, j * sz + q, none⟩ ((cur.toList.drop (j * sz + q)).take ti.sz) (by
              rcases Nat.eq_zero_or_pos ti.sz with hz | hz
              · simp [hz]
              · have := hlt (q + ti.sz - 1) (by omega)
                simp; omega) (fun i u hi => by
              rw [add_off, cell_of_row w g _ cur ty (0, 0) h2]
              have his : i < ti.sz := by
                have := (List.getElem?_eq_some_iff.1 hi).1
                simp at this
                omega
              rw [List.getElem?_take, if_pos his, List.getElem?_drop] at hi
              simpa using hi)
          refine GoodP.pure h (ofCells_rep (vs := (cur.toList.drop (j * sz + q)).take ti.sz) hy (by
              rcases Nat.eq_zero_or_pos ti.sz with hz | hz
              · simp [hz]
              · have := hlt (q + ti.sz - 1) (by omega)
                simp [h0 j hjk]; omega) fun i c hc => ?_) (by simp only [Instr.loadAt, Instr.sureAddr, Sem.run_bind, Sem.run_pure, Result.andThen, hrun])
          have his : i < ti.sz := by
            have := (List.getElem?_eq_some_iff.1 hc).1
            simp at this
            omega
          rw [List.getElem?_map, List.getElem?_take, if_pos his, List.getElem?_drop] at hc
          obtain ⟨d, hd, rfl⟩ := Option.map_eq_some_iff.1 hc
          have := h6 j _ d hjk hd
          rw [getD_take_drop _ _ _ _ _ his]
          refine .d ?_
          simpa [List.getD_eq_getElem?_getD, Nat.add_assoc] using this
    · cases he
  · rename_i cs
    obtain ⟨y, hy, he⟩ := Option.map_eq_some_iff.1 he
    simp only [Prod.mk.injEq] at he
    obtain ⟨rfl, rfl⟩ := he
    cases hx with
    | rp ad vals hU hv =>
      have hle : ti.sz ≤ cs.length := hp
      have hrun := run_loadVar w hE ad ((List.range ti.sz).map vals) (by simp) (fun i u hi => by
        have his : i < ti.sz := by
          have := (List.getElem?_eq_some_iff.1 hi).1
          simp at this
          omega
        have hcs : cs[i]? = some cs[i] := List.getElem?_eq_getElem (by omega)
        rw [(hv i _ hcs).1, ← hi]
        simp [his])
      refine GoodP.pure h (ofCells_rep (vs := (List.range ti.sz).map vals) hy (by simp; omega) fun i c hc => ?_) (by simp only [Instr.loadAt, Instr.sureAddr, Sem.run_bind, Sem.run_pure, Result.andThen, hrun])
      have his : i < ti.sz := by
        have := (List.getElem?_eq_some_iff.1 hc).1
        simp at this
        omega
      rw [List.getElem?_map, List.getElem?_take, if_pos his] at hc
      obtain ⟨d, hd, rfl⟩ := Option.map_eq_some_iff.1 hc
      refine .d ?_
      have := (hv i d hd).2
      simpa [List.getD_eq_getElem?_getD, his] using this
  · cases he

theorem evLoad_good (hT : TabOK Γ.P tab) (h : RR Γ U μ (lk st.t) (lk st.m) a w) {t : Nat} {x : T} {v : Value} (hx : RepT w U μ (lk st.m) x v) {p : Prop} {e : Eff} (he : evLoad tab st t x = some (p, e)) (hp : p) :
    Good Γ st a e ((Instr.loadAt t v).run Γ.P w) := (evLoad_goodP hT h hx he hp).good h

theorem evLoad_ptr {t : Nat} {x : T} {v : Value} (hx : RepT w U μ (lk st.m) x v) {r : Prop × Eff} (he : evLoad tab st t x = some r) : ∃ ad, v = .pointer (some ad) := by
  unfold evLoad at he
  split at he
  · cases he
  split at he
  · cases hx with
    | c hx => cases hx with
      | ptr ice cs hm => exact ⟨_, rfl⟩
  · cases hx with
    | el ice ty sz k f hm hk hj hv => exact ⟨_, rfl⟩
  · cases hx with
    | rp ad vals hU h => exact ⟨_, rfl⟩
  · cases he

/-! ### Addresses -/
def nz (tab : Tab) (t : Nat) : Bool := match lk tab t with
  | some ti => ti.sz != 0
  | none => false

def evFieldAddr (tab : Tab) (s : Nat) (x : T) (i : Nat) : Option (Prop × Eff) :=
  match lk tab s with
  | some ti => match ti.k with
    | .struct fs => match fs[i]? with
      | some (off, ft) => if nz tab ft then match x with
        | .c (.ptr n o) => some (True, ⟨some (.c (.ptr n (o + off))), [], []⟩)
        | .el n len j q => some (True, ⟨some (.el n len j (q + off)), [], []⟩)
        | .rp cs => some (True, ⟨some (.rp (cs.drop off)), [], []⟩)
        | _ => none
        else none
      | none => none
    | _ => none
  | none => none

theorem nz_size (hT : TabOK Γ.P tab) {t : Nat} (h : nz tab t = true) (w : World) : ∃ k, (sizeOf t).run Γ.P w = .ok k w ∧ k ≠ 0 ∧ ∃ ti, lk tab t = some ti ∧ k = ti.sz := by
  unfold nz at h
  split at h
  · rename_i ti hti
    exact ⟨ti.sz, (hT t ti hti).size w, by simpa using h, ti, hti, rfl⟩
  · cases h

theorem rp_add {μ : Mu} {m : Mem} {cs : List D} {ad : Addr} {vals : Nat → Value} (off : Nat) (hU : U ad.block) (h : ∀ (q : Nat) d, cs[q]? = some d → w.cell? (ad.add q) = some (vals q) ∧ RepD w U d (vals q)) :
    RepT w U μ m (.rp (cs.drop off)) (.pointer (some (ad.add off))) := by
  have hb : (ad.add off).block = ad.block := by unfold Addr.add; split <;> rfl
  refine .rp _ (fun q => vals (off + q)) (by rw [hb]; exact hU) fun q d hd => ?_
  rw [List.getElem?_drop] at hd
  have := h _ d hd
  have he : (ad.add off).add q = ad.add (off + q) := by
    unfold Addr.add
    by_cases h0 : off = 0 <;> by_cases h1 : q = 0 <;> simp [h0, h1, Nat.add_assoc]
  rw [he]
  exact this

theorem evFieldAddr_good (hT : TabOK Γ.P tab) (h : RR Γ U μ (lk st.t) (lk st.m) a w) {s i : Nat} {x : T} {v : Value} (hx : RepT w U μ (lk st.m) x v) {p : Prop} {e : Eff} (he : evFieldAddr tab s x i = some (p, e)) (hp : p) :
    Good Γ st a e ((Instr.fieldAt s v i).run Γ.P w) := by
  unfold evFieldAddr at he
  split at he
  · rename_i ti hti
    split at he
    · rename_i fs hfs
      split at he
      · rename_i off ft hi
        split at he
        · rename_i hnz
          obtain ⟨fields, hu, hmap⟩ := (hT s ti hti).struct hfs
          obtain ⟨sz, hsz, hne, _⟩ := nz_size hT hnz w
          rw [← hmap, List.getElem?_map] at hi
          obtain ⟨fd, hfd, hfe⟩ := Option.map_eq_some_iff.1 hi
          have hfd' : fields[i]? = some fd := by simpa using hfd
          injection hfe with hf1 hf2
          subst hf1 hf2
          have hrun : ∀ ad : Addr, (Instr.fieldAt s (.pointer (some ad)) i).run Γ.P w = .ok (.pointer (some (ad.add fd.offset))) w := fun ad => by
            simp [Instr.fieldAt, underlying, hu, hfd', Instr.sureAddr, fieldPlace, hsz, hne]
          split at he
          · simp only [Option.some.injEq, Prod.mk.injEq] at he
            obtain ⟨_, rfl⟩ := he
            cases hx with
            | c hx =>
              cases hx with
              | ptr ice cs hn =>
                refine Good.pure h ?_ (hrun _)
                rw [add_off]
                exact .c (.ptr ice cs hn)
          · simp only [Option.some.injEq, Prod.mk.injEq] at he
            obtain ⟨_, rfl⟩ := he
            cases hx with
            | el ice ty sz' k f hm hk hj hv =>
              refine Good.pure h (.el ice ty sz' k f hm hk hj fun e => ?_) (hrun _)
              rw [hv e, add_off, Nat.add_assoc]
          · simp only [Option.some.injEq, Prod.mk.injEq] at he
            obtain ⟨_, rfl⟩ := he
            cases hx with
            | rp ad vals hU hv => exact Good.pure h (rp_add _ hU hv) (hrun _)
          · cases he
        · cases he
      · cases he
    · cases he
  · cases he
end
end Go.V

/- V6: places of elements; stores; new variables; parts of values. -/
set_option linter.unusedVariables false
namespace Go.V

def asI : T → Option (IntKind × Int)
  | .c (.d (.s (.int k n))) => some (k, n)
  | _ => none
def asB : T → Option Bool
  | .c (.d (.s (.bool b))) => some b
  | _ => none

section
variable {Γ : Ctx} {U : Nat → Prop} {μ : Mu} {st : St} {a : Act} {w : World} {tab : Tab}

theorem asI_rep {m : Mem} {x : T} {v : Value} {k : IntKind} {n : Int} (h : RepT w U μ m x v) (hx : asI x = some (k, n)) : v = .int k n := by
  unfold asI at hx
  split at hx
  · simp only [Option.some.injEq, Prod.mk.injEq] at hx
    obtain ⟨rfl, rfl⟩ := hx
    cases h with
    | c h => cases h with
      | d h => cases h with
        | s v h1 => rfl
  · cases hx
theorem asB_rep {m : Mem} {x : T} {v : Value} {b : Bool} (h : RepT w U μ m x v) (hx : asB x = some b) : v = .bool b := by
  unfold asB at hx
  split at hx
  · simp only [Option.some.injEq] at hx
    subst hx
    cases h with
    | c h => cases h with
      | d h => cases h with
        | s v h1 => rfl
  · cases hx

def evIndexAddr (tab : Tab) (st : St) (t : Nat) (x y : T) : Option (Prop × Eff) :=
  match lk tab t, asI y with
  | some ti, some (_, i) => match ti.k with
    | .array n e => match lk tab e with
      | some te => match x with
        | .c (.ptr nm o) => some (0 ≤ i ∧ i < n, ⟨some (.c (.ptr nm (o + i.toNat * te.sz))), [], []⟩)
        | .el nm len j q => some (0 ≤ i ∧ i < n, ⟨some (.el nm len j (q + i.toNat * te.sz)), [], []⟩)
        | .rp cs => some (0 ≤ i ∧ i < n, ⟨some (.rp (cs.drop (i.toNat * te.sz))), [], []⟩)
        | _ => none
      | none => none
    | .slice e => match lk tab e with
      | some te => match x with
        | .c (.row nm len) => match lk st.m nm with
          | some (.row _ _ sz k _) => if sz = te.sz then some ((0 ≤ i ∧ i < len) ∧ len = k, ⟨some (.el nm len i.toNat 0), [], [nm]⟩) else none
          | _ => none
        | .c (.d (.l n f)) => some ((0 ≤ i ∧ i < n) ∧ (f i.toNat).length = te.sz, ⟨some (.rp (f i.toNat)), [], []⟩)
        | _ => none
      | none => none
    | _ => none
  | _, _ => none

theorem evIndexAddr_good (hT : TabOK Γ.P tab) (h : RR Γ U μ (lk st.t) (lk st.m) a w) {t : Nat} {x y : T} {v u : Value} (hx : RepT w U μ (lk st.m) x v) (hy : RepT w U μ (lk st.m) y u) {p : Prop} {e : Eff} (he : evIndexAddr tab st t x y = some (p, e)) (hp : p) :
    Good Γ st a e ((Instr.indexAt t v u).run Γ.P w) := by
  unfold evIndexAddr at he
  split at he
  case h_2 => cases he
  rename_i ti ky i hti hi
  have hu := asI_rep hy hi
  subst hu
  have hE := hT t ti hti
  split at he
  · rename_i n e0 hk
    split at he
    case h_2 => cases he
    rename_i te hte
    have hsz := (hT e0 te hte).size w
    have hund := hE.array hk
    have hrun : 0 ≤ i ∧ i < n → ∀ ad : Addr, (Instr.indexAt t (.pointer (some ad)) (.int ky i)).run Γ.P w = .ok (.pointer (some (ad.add (i.toNat * te.sz)))) w := fun hin ad => by
      simp [Instr.indexAt, asIntOf, underlying, hund, Instr.sureAddr, hin, hsz]
    split at he
    · simp only [Option.some.injEq, Prod.mk.injEq] at he
      obtain ⟨rfl, rfl⟩ := he
      cases hx with
      | c hx =>
        cases hx with
        | ptr ice cs hn =>
          refine Good.pure h ?_ (hrun hp _)
          rw [add_off]
          exact .c (.ptr ice cs hn)
    · simp only [Option.some.injEq, Prod.mk.injEq] at he
      obtain ⟨rfl, rfl⟩ := he
      cases hx with
      | el ice ty sz' k f hm hk' hj hv =>
        refine Good.pure h (.el ice ty sz' k f hm hk' hj fun e => ?_) (hrun hp _)
        rw [hv e, add_off, Nat.add_assoc]
    · simp only [Option.some.injEq, Prod.mk.injEq] at he
      obtain ⟨rfl, rfl⟩ := he
      cases hx with
      | rp ad vals hU hv => exact Good.pure h (rp_add _ hU hv) (hrun hp _)
    · cases he
  · rename_i e0 hk
    split at he
    case h_2 => cases he
    rename_i te hte
    have hsz := (hT e0 te hte).size w
    have hund := hE.slice hk
    split at he
    · rename_i nm len
      split at he
      case h_2 => cases he
      rename_i ice ty sz k f hn
      split at he
      case isFalse => cases he
      rename_i hszeq
      simp only [Option.some.injEq, Prod.mk.injEq] at he
      obtain ⟨rfl, rfl⟩ := he
      obtain ⟨hin, hlen⟩ := hp
      cases hx with
      | c hx =>
        cases hx with
        | row ice' ty' sz' k' f' hn' hk' h1 hv =>
          rw [hn] at hn'
          injection hn' with hn'
          injection hn' with e1 e2 e3 e4 e5
          subst e1 e2 e3 e4 e5
          have hv := hv hlen
          obtain ⟨h0, ho⟩ := h.mem.ok nm _ hn
          rcases ho with ⟨g1, g2⟩ | ⟨g, cap, cur, g1, g2, g3, g4, g5, g6, g7, g8, g9⟩
          · omega
          · rw [g1] at hv
            have hv : v = .slice (some ⟨g, 0, none⟩) k cap := hv
            subst hv
            have hin' : 0 ≤ i ∧ i < (k : Int) := ⟨hin.1, by omega⟩
            have hrun : (Instr.indexAt t (.slice (some ⟨g, 0, none⟩) k cap) (.int ky i)).run Γ.P w = .ok (.pointer (some ((⟨g, 0, none⟩ : Addr).add (i.toNat * te.sz)))) w := by
              simp [Instr.indexAt, asIntOf, underlying, hund, hin', hsz]
            refine Good.pure h (.el ice ty sz k f hn hk' (by omega) fun _ => ?_) hrun
            rw [add_zero_off, hszeq]
            simp [blk, g1]
    · rename_i n f
      simp only [Option.some.injEq, Prod.mk.injEq] at he
      obtain ⟨rfl, rfl⟩ := he
      obtain ⟨hin, hlen⟩ := hp
      cases hx with
      | c hx =>
        cases hx with
        | d hx =>
          cases hx with
          | l _ _ ao cap sz vals hnc hcm hs ha hv =>
            have hjn : i.toNat < n := by omega
            obtain ⟨ad, rfl, hU, hc⟩ := ha (by omega)
            have hrun : (Instr.indexAt t (.slice (some ad) n cap) (.int ky i)).run Γ.P w = .ok (.pointer (some (ad.add (i.toNat * te.sz)))) w := by
              simp [Instr.indexAt, asIntOf, underlying, hund, hin, hsz]
            have hszeq : sz = te.sz := by rw [← hlen]; exact (hs _ hjn).symm
            have hb : ∀ o, (ad.add o).block = ad.block := fun o => by unfold Addr.add; split <;> rfl
            refine Good.pure h (.rp _ (fun q => vals i.toNat q) (by rw [hb]; exact hU) fun q d hd => ?_) hrun
            have hq : q < te.sz := by rw [← hlen]; exact (List.getElem?_eq_some_iff.1 hd).1
            have he : (ad.add (i.toNat * te.sz)).add q = ad.add (i.toNat * te.sz + q) := by
              unfold Addr.add
              by_cases h0 : i.toNat * te.sz = 0 <;> by_cases h1 : q = 0 <;> simp [h0, h1, Nat.add_assoc]
            rw [he, ← hszeq]
            exact ⟨hc _ _ hjn (by omega), hv _ _ d hjn hd⟩
    · cases he
  · cases he

/-! ### Stores -/
def evStore (tab : Tab) (st : St) (t : Nat) (x y : T) : Option (Prop × Eff) :=
  match lk tab t, cellsOf y with
  | some ti, some vs => if vs.length = ti.sz then match x with
    | .c (.ptr n off) => match lk st.m n with
      | some (.box false cs) => if off + ti.sz ≤ cs.length then some (True, ⟨none, [(n, .box false (setFrom cs off vs))], [n]⟩) else none
      | _ => none
    | .el n len j q => match lk st.m n, toDs st.m vs with
      | some (.row false ty sz k f), some (c, ds, ns) => if ns.contains n then none else
        some (c ∧ len = k ∧ q + ti.sz ≤ sz, ⟨none, (n, .row false ty sz k fun i => if i = j then setFrom (f j) q ds else f i) :: iceUp st.m ns, n :: ns⟩)
      | _, _ => none
    | _ => none
    else none
  | _, _ => none

/-- Another cell of a row: where it lies. -/
theorem row_inj {sz j q i r : Nat} (hq : q < sz) (hr : r < sz) (h : j * sz + q = i * sz + r) : j = i ∧ q = r := by
  have h1 : (j * sz + q) / sz = j := by rw [Nat.mul_comm, Nat.mul_add_div (by omega), Nat.div_eq_of_lt hq]; omega
  have h2 : (i * sz + r) / sz = i := by rw [Nat.mul_comm, Nat.mul_add_div (by omega), Nat.div_eq_of_lt hr]; omega
  have : j = i := by rw [← h1, ← h2, h]
  subst this
  omega

theorem RR.setBox (h : RR Γ U μ (lk st.t) (lk st.m) a w) {n : Nm} {cs : List C} (hn : lk st.m n = some (.box false cs)) {off : Nat} {vs : List C} {v : Value} (hvs : v.cells.size = vs.length)
    (hv : ∀ i c, vs[i]? = some c → RepC w U μ (lk st.m) c (v.cells.getD i undef)) (hle : off + vs.length ≤ cs.length) {g : Nat} {cur : Array Value} {ty : TypeId} (hg : μ n = some (g, 0)) (hc : w.heap[g]? = some (.cells cur ty (0, 0))) :
    RR Γ U μ (lk st.t) (upd (lk st.m) n (.box false (setFrom cs off vs))) a (w.setRow g (setFrom cur.toList off v.cells.toList).toArray) := by
  obtain ⟨g', cur', ty', h1, h2, h3, h4, h5, h6, h7⟩ := h.mem.ok n _ hn
  rw [hg] at h1
  injection h1 with h1
  injection h1 with h1 _
  subst h1
  rw [hc] at h2
  injection h2 with h2
  injection h2 with e1 e2
  subst e1 e2
  have hμ : (fun k => if n = k then some (g, 0) else μ k) = μ := by
    funext k
    by_cases e : n = k
    · subst e; simp [hg]
    · simp [e]
  have hm : MStep (lk st.m) μ (upd (lk st.m) n (.box false (setFrom cs off vs))) μ := by
    refine ⟨fun k ice ty sz q f hk => ?_, fun k ice bs hk => ?_, fun k ka va f hk => ?_⟩
    all_goals
      by_cases e : n = k
      · subst e
        rw [hn] at hk
        first
          | exact ⟨false, _, by rw [upd_same], rfl⟩
          | (cases hk; done)
      · rw [upd_ne _ _ e]
        first
          | exact ⟨ice, q, f, hk, Nat.le_refl _, fun _ => rfl⟩
          | exact ⟨ice, bs, hk, rfl⟩
          | exact ⟨f, hk, rfl⟩
  have hstep : UStep w U (w.setRow g (setFrom cur.toList off v.cells.toList).toArray) U := ⟨fun _ hk => hk, fun k hk => heap_setRow_ne w g k _ (fun e => h7 rfl (e ▸ hk))⟩
  have key := h.change (w' := w.setRow g (setFrom cur.toList off v.cells.toList).toArray) hn (.box false (setFrom cs off vs)) (some (g, 0)) rfl rfl rfl (by simp) (fun g' c hg' hu => by
      rw [hg] at hg'; injection hg' with hg'; injection hg' with hg' _; exact h7 rfl (hg' ▸ hu)) (fun k _ hk => heap_setRow_ne w g k _ (fun e => hk 0 (by rw [e]; exact hg))) (fun g' c hg' => .inl ⟨0, by injection hg' with hg'; injection hg' with hg' _; rw [← hg']; exact hg⟩)
      (by rw [hμ]; exact hm) ?_
  · rw [hμ] at key; exact key
  · rw [hμ]
    refine ⟨g, _, ty, hg, heap_setRow_same w g cur _ ty _ hc, ?_, fun i c hi => ?_, h5, (fun e => by cases e), fun _ => h7 rfl⟩
    · rw [length_setFrom _ _ _ hle, List.size_toArray, length_setFrom _ _ _ (by simp; omega)]; simpa using h3
    · rw [getElem_setFrom _ _ _ hle] at hi
      have hget : (setFrom cur.toList off v.cells.toList).toArray.getD i undef = if off ≤ i ∧ i < off + vs.length then v.cells.getD (i - off) undef else cur.getD i undef := by
        have := getElem_setFrom cur.toList off v.cells.toList (by simp; omega) i
        simp only [Array.getD_eq_getD_getElem?, List.getElem?_toArray, this]
        have hl : v.cells.toList.length = vs.length := by simpa using hvs
        rw [hl]
        split <;> simp
      rw [hget]
      split at hi
      · rename_i hin
        rw [if_pos hin]
        exact (hv _ c hi).mono hstep hm
      · rename_i hin
        rw [if_neg hin]
        exact (h4 i c hi).mono hstep hm
theorem lk_iceUp_not (m : List (Nm × Obj)) (ns : List Nm) (n : Nm) (h : n ∉ ns) : lk (iceUp m ns ++ m) n = lk m n := by
  induction ns with
  | nil => rfl
  | cons k ns ih =>
    have hne : k ≠ n := fun e => h (by simp [e])
    have ih := ih (fun hm => h (List.mem_cons_of_mem _ hm))
    simp only [iceUp]
    split
    · rw [List.cons_append, lk_ne _ _ hne]; exact ih
    · rw [List.cons_append, lk_ne _ _ hne]; exact ih
    · exact ih

theorem RR.setEl {m : Mem} {tf : Nat → Option T} (h : RR Γ U μ tf m a w) {n : Nm} {ty sz k : Nat} {f : Nat → List D} (hn : m n = some (.row false ty sz k f)) {j q : Nat} (hj : j < k) {ds : List D} {v : Value} (hvs : v.cells.size = ds.length)
    (hv : ∀ (i : Nat) d, ds[i]? = some d → RepD w U d (v.cells.getD i undef)) (hle : q + ds.length ≤ sz) {g cap : Nat} {cur : Array Value} (hg : μ n = some (g, cap)) (hc : w.heap[g]? = some (.cells cur ty (0, 0))) (hlt : j * sz + q + ds.length ≤ cur.size) :
    RR Γ U μ tf (upd m n (.row false ty sz k fun i => if i = j then setFrom (f j) q ds else f i)) a (w.setRow g (setFrom cur.toList (j * sz + q) v.cells.toList).toArray) := by
  obtain ⟨h0, ho⟩ := h.mem.ok n _ hn
  rcases ho with ⟨h1, h2⟩ | ⟨g', cap', cur', h1, h2, h3, h4, h5, h6, h7, h8, h9⟩
  · omega
  rw [hg] at h1
  injection h1 with h1
  injection h1 with h1 h1'
  subst h1 h1'
  rw [hc] at h2
  injection h2 with h2
  injection h2 with e1 e2
  subst e1
  have hμ : (fun x => if n = x then some (g, cap) else μ x) = μ := by
    funext x
    by_cases e : n = x
    · subst e; simp [hg]
    · simp [e]
  have hm : MStep m μ (upd m n (.row false ty sz k fun i => if i = j then setFrom (f j) q ds else f i)) μ := by
    refine ⟨fun x ice ty sz q f hk => ?_, fun x ice bs hk => ?_, fun x ka va f hk => ?_⟩
    all_goals
      by_cases e : n = x
      · subst e
        rw [hn] at hk
        first
          | (injection hk with hk; injection hk with e1 e2 e3 e4 e5; subst e1 e2 e3 e4; exact ⟨false, _, _, by rw [upd_same], Nat.le_refl _, fun _ => rfl⟩)
          | (cases hk; done)
      · rw [upd_ne _ _ e]
        first
          | exact ⟨ice, q, f, hk, Nat.le_refl _, fun _ => rfl⟩
          | exact ⟨ice, bs, hk, rfl⟩
          | exact ⟨f, hk, rfl⟩
  have hstep : UStep w U (w.setRow g (setFrom cur.toList (j * sz + q) v.cells.toList).toArray) U := ⟨fun _ hk => hk, fun k hk => heap_setRow_ne w g k _ (fun e => h9 rfl (e ▸ hk))⟩
  have hl : v.cells.toList.length = ds.length := by simpa using hvs
  have key := h.change (w' := w.setRow g (setFrom cur.toList (j * sz + q) v.cells.toList).toArray) hn (.row false ty sz k fun i => if i = j then setFrom (f j) q ds else f i) (some (g, cap)) rfl rfl rfl (by simp) (fun g' c hg' hu => by
      rw [hg] at hg'; injection hg' with hg'; injection hg' with hg' _; exact h9 rfl (hg' ▸ hu)) (fun k _ hk => heap_setRow_ne w g k _ (fun e => hk cap (by rw [e]; exact hg))) (fun g' c hg' => .inl ⟨cap, by injection hg' with hg'; injection hg' with hg' _; rw [← hg']; exact hg⟩)
      (by rw [hμ]; exact hm) ?_
  · rw [hμ] at key; exact key
  · rw [hμ]
    refine ⟨fun i hi => ?_, .inr ⟨g, cap, _, hg, heap_setRow_same w g cur _ ty _ hc, ?_, h4, h5, fun i r d hi hd => ?_, h7, (fun e => by cases e), fun _ => h9 rfl⟩⟩
    · by_cases e : i = j
      · simp only [e, if_true]; rw [length_setFrom _ _ _ (by rw [h0 j hj]; exact hle)]; exact h0 j hj
      · simp only [e, if_false]; exact h0 i hi
    · rw [List.size_toArray, length_setFrom _ _ _ (by rw [hl]; simpa using hlt)]; simpa using h3
    · have hget : (setFrom cur.toList (j * sz + q) v.cells.toList).toArray.getD (i * sz + r) undef = if j * sz + q ≤ i * sz + r ∧ i * sz + r < j * sz + q + ds.length then v.cells.getD (i * sz + r - (j * sz + q)) undef else cur.getD (i * sz + r) undef := by
        have := getElem_setFrom cur.toList (j * sz + q) v.cells.toList (by rw [hl]; simpa using hlt) (i * sz + r)
        simp only [Array.getD_eq_getD_getElem?, List.getElem?_toArray, this]
        rw [hl]
        split <;> simp
      rw [hget]
      by_cases e : i = j
      · subst e
        simp only [if_true] at hd
        rw [getElem_setFrom _ _ _ (by rw [h0 i hi]; exact hle)] at hd
        by_cases hin : q ≤ r ∧ r < q + ds.length
        · rw [if_pos hin] at hd
          rw [if_pos (by omega)]
          have := hv _ d hd
          rw [show i * sz + r - (i * sz + q) = r - q by omega]
          exact this.mono hstep
        · rw [if_neg hin] at hd
          rw [if_neg (by omega)]
          exact (h6 i r d hi hd).mono hstep
      · simp only [e, if_false] at hd
        have hr : r < sz := by rw [← h0 i hi]; exact (List.getElem?_eq_some_iff.1 hd).1
        rw [if_neg ?_]
        · exact (h6 i r d hi hd).mono hstep
        · rintro ⟨ha, hb⟩
          have : i * sz + r = j * sz + (q + (i * sz + r - (j * sz + q))) := by omega
          exact e (row_inj hr (by omega) this).1

theorem evStore_good (hT : TabOK Γ.P tab) (h : RR Γ U μ (lk st.t) (lk st.m) a w) {t : Nat} {x y : T} {v u : Value} (hx : RepT w U μ (lk st.m) x v) (hy : RepT w U μ (lk st.m) y u) {p : Prop} {e : Eff} (he : evStore tab st t x y = some (p, e)) (hp : p) :
    ∃ w' U' μ', (Instr.storeAt t v u).run Γ.P w = .ok () w' ∧ RR Γ U' μ' (lk st.t) (lk (e.up ++ st.m)) a w' ∧ e.v = none := by
  unfold evStore at he
  split at he
  case h_2 => cases he
  rename_i ti vs hti hvs
  have hE := hT t ti hti
  obtain ⟨c1, c2, c3⟩ := cellsOf_rep hy hvs
  split at he
  case isFalse => cases he
  rename_i hlen
  split at he
  · rename_i n off
    split at he
    case h_2 => cases he
    rename_i cs hn
    split at he
    case isFalse => cases he
    rename_i hle
    simp only [Option.some.injEq, Prod.mk.injEq] at he
    obtain ⟨rfl, rfl⟩ := he
    cases hx with
    | c hx =>
      cases hx with
      | ptr ice' cs' hn' =>
        obtain ⟨g, cur, ty, h1, h2, h3, _⟩ := h.mem.ok n _ hn
        have hb : blk (μ n) = g := by simp [blk, h1]
        rw [hb]
        refine ⟨w.setRow g (setFrom cur.toList off u.cells.toList).toArray, U, μ, ?_, ?_, rfl⟩
        rotate_left
        · simp only [List.cons_append, List.nil_append]
          rw [lk_cons_upd]
          exact h.setBox hn c1 c2 (by omega) h1 h2
        · simp only [Instr.storeAt, Instr.sureAddr, Sem.run_bind, Sem.run_pure, Result.andThen]
          exact run_storeVar w hE g off cur ty h2 u (by omega) c3 (by omega)
  · rename_i n len j q
    split at he
    case h_2 => cases he
    rename_i ty sz k f c ds ns hn hds
    split at he
    case isTrue => cases he
    rename_i hnot
    simp only [Option.some.injEq, Prod.mk.injEq] at he
    obtain ⟨rfl, rfl⟩ := he
    obtain ⟨hc, hlk, hq⟩ := hp
    have hnot' : n ∉ ns := by simpa using hnot
    obtain ⟨U1, h1, hu1, hi1⟩ := h.iceAll ns
    have hstep : UStep w U w U1 := ⟨hu1, fun _ _ => rfl⟩
    have hmst : MStep (lk st.m) μ (lk (iceUp st.m ns ++ st.m)) μ := by
      refine ⟨fun x ice ty sz q f hk => ?_, fun x ice bs hk => ?_, fun x ka va f hk => ?_⟩
      all_goals
        rcases lk_iceUp st.m ns x with e | ⟨o, ho, e⟩
        · rw [e]
          first
            | exact ⟨ice, q, f, hk, Nat.le_refl _, fun _ => rfl⟩
            | exact ⟨ice, bs, hk, rfl⟩
            | exact ⟨f, hk, rfl⟩
        · rw [hk] at ho
          injection ho with ho
          subst ho
          first
            | exact ⟨true, q, f, e, Nat.le_refl _, fun _ => rfl⟩
            | exact ⟨true, bs, e, rfl⟩
            | exact ⟨f, e, rfl⟩
    have hy1 := hy.mono hstep hmst
    obtain ⟨d1, d2, d3⟩ := cellsOf_rep hy1 hvs
    obtain ⟨l1, l2⟩ := toDs_rep h1 (lk_iceUp st.m ns) hds hc (fun n hn o ho hmap g c hg => hi1 n hn o ho hmap g c hg) (vs := u.cells.toList) (fun i c hc => by
      have := d2 i c hc
      simpa [List.getD_eq_getElem?_getD] using this)
    cases hx with
    | @el n len j q ad ice' ty' sz' k' f' hm hk hj hv =>
      rw [hn] at hm
      injection hm with hm
      injection hm with e1 e2 e3 e4 e5
      subst e2 e3 e4 e5
      have hv := hv hlk
      subst hv
      have hn1 : lk (iceUp st.m ns ++ st.m) n = some (.row false ty sz k f) := (lk_iceUp_not _ _ _ hnot').trans hn
      obtain ⟨g0, go⟩ := h1.mem.ok n _ hn1
      rcases go with ⟨g1, g2⟩ | ⟨g, cap, cur, g1, g2, g3, g4, g5, g6, g7, g8, g9⟩
      · omega
      have hb : blk (μ n) = g := by simp [blk, g1]
      rw [hb]
      have hjk : j < k := by omega
      have hfit : j * sz + q + ti.sz ≤ cur.size := by
        rw [g3]
        calc j * sz + q + ti.sz ≤ j * sz + sz := by omega
          _ = (j + 1) * sz := by rw [Nat.add_mul, Nat.one_mul]
          _ ≤ cap * sz := Nat.mul_le_mul_right _ (by omega)
      refine ⟨w.setRow g (setFrom cur.toList (j * sz + q) u.cells.toList).toArray, U1, μ, ?_, ?_, rfl⟩
      rotate_left
      · simp only [List.cons_append]
        rw [lk_cons_upd]
        exact h1.setEl hn1 hjk (v := u) (by omega) (fun i d hd => by simpa [List.getD_eq_getElem?_getD] using l2 i d hd) (by omega) g1 g2 (by omega)
      · simp only [Instr.storeAt, Instr.sureAddr, Sem.run_bind, Sem.run_pure, Result.andThen]
        exact run_storeVar w hE g (j * sz + q) cur ty g2 u (by omega) c3 (by omega)
  · cases he
end
end Go.V

/- V7: new variables; parts; built values. -/
set_option linter.unusedVariables false
namespace Go.V

theorem fold_setFrom (l : List Value) : ∀ (i off : Nat) (cells : Array Value), off + i + l.length ≤ cells.size →
    ((l.zipIdx i).foldl (fun (cs : Array Value) (x : Value × Nat) => cs.setIfInBounds (off + x.2) x.1) cells).toList = setFrom cells.toList (off + i) l := by
  induction l with
  | nil => intro i off cells _; simp [setFrom]
  | cons v l ih =>
    intro i off cells h
    simp only [List.length_cons] at h
    simp only [List.zipIdx_cons, List.foldl_cons]
    rw [ih (i + 1) off _ (by simp; omega)]
    apply List.ext_getElem?
    intro k
    have hl : (cells.setIfInBounds (off + i) v).toList = cells.toList.set (off + i) v := by simp
    rw [hl, getElem_setFrom _ _ _ (by simp; omega), getElem_setFrom _ _ _ (by simp; omega)]
    by_cases h1 : off + i + 1 ≤ k ∧ k < off + i + 1 + l.length
    · rw [if_pos (by omega), if_pos (by simp; omega)]
      obtain ⟨r, rfl⟩ : ∃ r, k = off + i + 1 + r := ⟨k - (off + i + 1), by omega⟩
      rw [show off + i + 1 + r - (off + (i + 1)) = r by omega, show off + i + 1 + r - (off + i) = r + 1 by omega]
      simp
    · rw [if_neg (by omega)]
      by_cases h2 : k = off + i
      · subst h2
        rw [if_pos (by simp)]
        simp [show off + i < cells.size by omega]
      · rw [if_neg (by simp; omega), List.getElem?_set_ne (by omega)]

def fillC (place : Nat → Option (Nat × Nat)) (cs : List C) : List (Nat × List C) → Option (List C)
  | [] => some cs
  | (i, vs) :: r => match place i with
    | some (off, sz) => if vs.length = sz ∧ off + sz ≤ cs.length then fillC place (setFrom cs off vs) r else none
    | none => none

section
variable {Γ : Ctx} {U : Nat → Prop} {μ : Mu} {m : Mem} {st : St} {a : Act} {w : World} {tab : Tab}

theorem fillC_rep {place : Nat → Option (Nat × Nat)} (ps : List (Nat × Value)) : ∀ (ys : List (Nat × List C)) (cs cs' : List C) (cur : Array Value), fillC place cs ys = some cs' →
    ps.length = ys.length → (∀ (j : Nat) i v i' vs, ps[j]? = some (i, v) → ys[j]? = some (i', vs) → i = i' ∧ v.cells.size = vs.length ∧ ∀ k c, vs[k]? = some c → RepC w U μ m c (v.cells.getD k undef)) →
    cur.size = cs.length → (∀ k c, cs[k]? = some c → RepC w U μ m c (cur.getD k undef)) →
    ∃ cur', Instr.fill place cur ps = some cur' ∧ cur'.size = cs'.length ∧ cs'.length = cs.length ∧ ∀ k c, cs'[k]? = some c → RepC w U μ m c (cur'.getD k undef) := by
  induction ps with
  | nil =>
    intro ys cs cs' cur hf hl _ hs hr
    match ys, hl with
    | [], _ =>
      simp only [fillC, Option.some.injEq] at hf
      subst hf
      exact ⟨cur, rfl, hs, rfl, hr⟩
  | cons p ps ih =>
    intro ys cs cs' cur hf hl hp hs hr
    match ys, hl with
    | (i', vs) :: ys, hl =>
      obtain ⟨i, v⟩ := p
      obtain ⟨rfl, hvs, hv⟩ := hp 0 i v i' vs rfl rfl
      simp only [fillC] at hf
      split at hf
      case h_2 => cases hf
      rename_i off sz hpl
      split at hf
      case isFalse => cases hf
      rename_i hcond
      obtain ⟨hc1, hc2⟩ := hcond
      have hfold : (v.cells.zipIdx.foldl (fun (cs : Array Value) (x : Value × Nat) => cs.setIfInBounds (off + x.2) x.1) cur).toList = setFrom cur.toList off v.cells.toList := by
        have := fold_setFrom v.cells.toList 0 off cur (by simp; omega)
        rw [Nat.add_zero] at this
        rw [← this, ← Array.foldl_toList]
        simp
      obtain ⟨cur', e1, e2, e3, e4⟩ := ih ys (setFrom cs off vs) cs' (v.cells.zipIdx.foldl (fun (cs : Array Value) (x : Value × Nat) => cs.setIfInBounds (off + x.2) x.1) cur) hf (by simpa using hl)
        (fun j i v i' vs h1 h2 => hp (j + 1) i v i' vs (by simpa using h1) (by simpa using h2))
        (by rw [← Array.length_toList, hfold, length_setFrom _ _ _ (by simp; omega), length_setFrom _ _ _ (by omega)]; simpa using hs)
        (fun k c hc => by
          rw [getElem_setFrom _ _ _ (by omega)] at hc
          have hg : (v.cells.zipIdx.foldl (fun (cs : Array Value) (x : Value × Nat) => cs.setIfInBounds (off + x.2) x.1) cur).getD k undef = if off ≤ k ∧ k < off + vs.length then v.cells.getD (k - off) undef else cur.getD k undef := by
            rw [Array.getD_eq_getD_getElem?, ← Array.getElem?_toList, hfold, getElem_setFrom _ _ _ (by simp; omega)]
            have : v.cells.toList.length = vs.length := by simpa using hvs
            rw [this]
            split <;> simp
          rw [hg]
          split at hc
          · rename_i hin; rw [if_pos hin]; exact hv _ c hc
          · rename_i hin; rw [if_neg hin]; exact hr _ c hc)
      refine ⟨cur', ?_, e2, ?_, e4⟩
      · simp only [Instr.fill, hpl]
        rw [if_neg (by simp; omega)]
        exact e1
      · rw [e3, length_setFrom _ _ _ (by omega)]

/-! ### New variables -/
def nm (d i : Nat) : Nm := 16 * d + i

theorem RR.newBox {tf : Nat → Option T} (h : RR Γ U μ tf m a w) {n : Nm} (hn : m n = none) {cs : List C} {cur : Array Value} (ty : Nat) (hs : cur.size = cs.length) (hr : ∀ k c, cs[k]? = some c → RepC w U μ m c (cur.getD k undef)) :
    ∃ μ', RR Γ U μ' tf (upd m n (.box false cs)) a (w.alloc (.cells cur ty)) ∧ μ' n = some (w.heap.size, 0) := by
  have hu : ¬ U w.heap.size := fun hu => by have := (h.ulim _ hu).1; omega
  have hz : ¬ Γ.Z w.heap.size := fun hz => by have := h.zlim _ hz; have := h.pres.size; omega
  have hold : ∀ k, k < w.heap.size → (w.alloc (.cells cur ty)).heap[k]? = w.heap[k]? := fun k hk => heap_alloc_old w _ k hk
  have hs' : UStep w U (w.alloc (.cells cur ty)) U := ⟨fun _ hk => hk, fun k hk => hold k (h.ulim k hk).1⟩
  refine ⟨fun k => if n = k then some (w.heap.size, 0) else μ k, h.add hn _ _ rfl rfl rfl (by simp) hold (fun g c e => by injection e with e; injection e with e _; omega) ?_, by simp⟩
  exact ⟨w.heap.size, cur, ty, by simp, heap_alloc_new w _, hs, fun k c hc => (hr k c hc).mono hs' (MStep.add m μ hn _ _), hz, (fun e => by cases e), fun _ => hu⟩

def evBox (st : St) (dst : Option Nat) (y : T) : Option (Prop × Eff) :=
  match dst, cellsOf y with
  | some d, some cs => match lk st.m (nm d 0) with
    | none => some (True, ⟨some (.c (.ptr (nm d 0) 0)), [(nm d 0, .box false cs)], [nm d 0]⟩)
    | some _ => none
  | _, _ => none

theorem evBox_good (h : RR Γ U μ (lk st.t) (lk st.m) a w) {dst : Option Nat} {ty : Nat} {y : T} {v : Value} (hy : RepT w U μ (lk st.m) y v) {p : Prop} {e : Eff} (he : evBox st dst y = some (p, e)) : Good Γ st a e ((Instr.box ty v).run Γ.P w) := by
  unfold evBox at he
  split at he
  case h_2 => cases he
  rename_i d cs hcs
  split at he
  case h_2 => cases he
  rename_i hn
  simp only [Option.some.injEq, Prod.mk.injEq] at he
  obtain ⟨_, rfl⟩ := he
  obtain ⟨c1, c2, c3⟩ := cellsOf_rep hy hcs
  obtain ⟨μ', h1, h2⟩ := h.newBox hn ty c1 c2
  refine ⟨.pointer (some ⟨w.heap.size, 0, none⟩), w.alloc (.cells v.cells ty), U, μ', by simp [Instr.box, newVar, newRow], ?_, fun x hx => ?_⟩
  · simp only [List.cons_append, List.nil_append]; rw [lk_cons_upd]; exact h1
  · injection hx with hx
    subst hx
    simp only [List.cons_append, List.nil_append]
    rw [lk_cons_upd]
    have hb : blk (μ' (nm d 0)) = w.heap.size := by simp [blk, h2]
    rw [← hb]
    exact .c (.ptr false cs (by simp))

def evAlloc (tab : Tab) (st : St) (dst : Option Nat) (t : Nat) : Option (Prop × Eff) :=
  match dst, lk tab t with
  | some d, some ti => match lk st.m (nm d 0) with
    | none => some (True, ⟨some (.c (.ptr (nm d 0) 0)), [(nm d 0, .box false (ti.zero.map fun v => .d (.s v)))], [nm d 0]⟩)
    | some _ => none
  | _, _ => none

theorem zero_rep {ti : TI} {t : Nat} (hE : Ent Γ.P t ti) : ∀ (k : Nat) (c : C), (ti.zero.map fun v => C.d (.s v))[k]? = some c → RepC w U μ m c (ti.zero.getD k undef) := fun k c hc => by
  rw [List.getElem?_map] at hc
  obtain ⟨v, hv, rfl⟩ := Option.map_eq_some_iff.1 hc
  rw [List.getD_eq_getElem?_getD, hv]
  exact .d (.s v (hE.z1 v (List.mem_of_getElem? hv)))

theorem evAlloc_good (hT : TabOK Γ.P tab) (h : RR Γ U μ (lk st.t) (lk st.m) a w) {dst : Option Nat} {t : Nat} {p : Prop} {e : Eff} (he : evAlloc tab st dst t = some (p, e)) : Good Γ st a e ((Instr.alloc t true (.tuple #[])).run Γ.P w) := by
  unfold evAlloc at he
  split at he
  case h_2 => cases he
  rename_i d ti hti
  split at he
  case h_2 => cases he
  rename_i hn
  simp only [Option.some.injEq, Prod.mk.injEq] at he
  obtain ⟨_, rfl⟩ := he
  have hE := hT t ti hti
  obtain ⟨z, hz, hzc⟩ := hE.zero w
  obtain ⟨μ', h1, h2⟩ := h.newBox hn (cs := ti.zero.map fun v => .d (.s v)) (cur := z.cells) t (by rw [← Array.length_toList, hzc]; simp) (fun k c hc => by
    have := zero_rep (Γ := Γ) (w := w) (U := U) (μ := μ) (m := lk st.m) hE k c hc
    rw [← hzc] at this
    simpa [List.getD_eq_getElem?_getD] using this)
  refine ⟨.pointer (some ⟨w.heap.size, 0, none⟩), w.alloc (.cells z.cells t), U, μ', by simp [Instr.alloc, hz, newVar, newRow], ?_, fun x hx => ?_⟩
  · simp only [List.cons_append, List.nil_append]; rw [lk_cons_upd]; exact h1
  · injection hx with hx
    subst hx
    simp only [List.cons_append, List.nil_append]
    rw [lk_cons_upd]
    have hb : blk (μ' (nm d 0)) = w.heap.size := by simp [blk, h2]
    rw [← hb]
    exact .c (.ptr false (ti.zero.map fun v => .d (.s v)) (by simp))

/-! ### Parts -/
def evField (tab : Tab) (t : Nat) (x : T) (i : Nat) : Option (Prop × Eff) :=
  match lk tab t, x with
  | some ti, .agg cs => match ti.k with
    | .struct fs => match fs[i]? with
      | some (off, ft) => match lk tab ft with
        | some tf => if off + tf.sz ≤ cs.length then (ofCells tf.k.agg ((cs.drop off).take tf.sz)).map fun y => (True, ⟨some y, [], []⟩) else none
        | none => none
      | none => none
    | _ => none
  | _, _ => none

theorem run_part {t : Nat} {ti : TI} (hE : Ent Γ.P t ti) {cs : Array Value} {off : Nat} (hl : off + ti.sz ≤ cs.size) : (part t cs off).run Γ.P w = .ok (valOf ti.k.agg ((cs.toList.drop off).take ti.sz)) w := by
  unfold part
  simp only [Sem.run_bind, hE.isAgg w, Result.andThen]
  cases ha : ti.k.agg with
  | true =>
    simp only [if_true, Sem.run_bind, hE.size w, Result.andThen, Sem.run_pure]
    have he : cs.extract off (off + ti.sz) = ((cs.toList.drop off).take ti.sz).toArray := by
      apply Array.ext'
      simp [Array.toList_extract, List.extract_eq_take_drop]
    rw [he]
    simp [valOf]
  | false =>
    have hs := hE.a1 ha
    have : off < cs.size := by omega
    have hd : cs.toList.drop off = cs[off] :: cs.toList.drop (off + 1) := by
      rw [List.drop_eq_getElem_cons (by simpa using this)]; simp
    simp only [Bool.false_eq_true, if_false, valOf, hd, hs]
    simp [this]

theorem part_rep {ti : TI} {cs : List C} {vs : Array Value} (hs : vs.size = cs.length) (hr : ∀ i c, cs[i]? = some c → RepC w U μ m c (vs.getD i undef)) {off : Nat} {y : T} (hy : ofCells ti.k.agg ((cs.drop off).take ti.sz) = some y) :
    RepT w U μ m y (valOf ti.k.agg ((vs.toList.drop off).take ti.sz)) := by
  refine ofCells_rep hy (by simp; omega) fun i c hc => ?_
  have his : i < ti.sz := by
    have := (List.getElem?_eq_some_iff.1 hc).1
    simp at this
    omega
  rw [List.getElem?_take, if_pos his, List.getElem?_drop] at hc
  rw [getD_take_drop _ _ _ _ _ his]
  simpa [List.getD_eq_getElem?_getD] using hr _ c hc

theorem evField_good (hT : TabOK Γ.P tab) (h : RR Γ U μ (lk st.t) (lk st.m) a w) {t i : Nat} {x : T} {v : Value} (hx : RepT w U μ (lk st.m) x v) {p : Prop} {e : Eff} (he : evField tab t x i = some (p, e)) : Good Γ st a e ((Instr.field t v i).run Γ.P w) := by
  unfold evField at he
  split at he
  case h_2 => cases he
  rename_i ti cs hti
  split at he
  case h_2 => cases he
  rename_i fs hfs
  split at he
  case h_2 => cases he
  rename_i off ft hi
  split at he
  case h_2 => cases he
  rename_i tf htf
  split at he
  case isFalse => cases he
  rename_i hle
  obtain ⟨y, hy, he⟩ := Option.map_eq_some_iff.1 he
  simp only [Prod.mk.injEq] at he
  obtain ⟨_, rfl⟩ := he
  obtain ⟨fields, hu, hmap⟩ := (hT t ti hti).struct hfs
  rw [← hmap, List.getElem?_map] at hi
  obtain ⟨fd, hfd, hfe⟩ := Option.map_eq_some_iff.1 hi
  have hfd' : fields[i]? = some fd := by simpa using hfd
  injection hfe with hf1 hf2
  subst hf1 hf2
  cases hx with
  | @agg _ vs hs hr =>
    refine Good.pure h (part_rep hs hr hy) ?_
    have := run_part (w := w) (hT fd.type tf htf) (cs := vs) (off := fd.offset) (by omega)
    simp [Instr.field, underlying, hu, hfd', asAgg, this]

def evIndex (tab : Tab) (t : Nat) (x y : T) : Option (Prop × Eff) :=
  match lk tab t, x, asI y with
  | some ti, .agg cs, some (_, i) => match ti.k with
    | .array n e => match lk tab e with
      | some te => if 0 ≤ i ∧ i < n then (ofCells te.k.agg ((cs.drop (i.toNat * te.sz)).take te.sz)).map fun y => (i.toNat * te.sz + te.sz ≤ cs.length, ⟨some y, [], []⟩) else none
      | none => none
    | _ => none
  | _, _, _ => none

theorem evIndex_good (hT : TabOK Γ.P tab) (h : RR Γ U μ (lk st.t) (lk st.m) a w) {t : Nat} {x y : T} {v u : Value} (hx : RepT w U μ (lk st.m) x v) (hy : RepT w U μ (lk st.m) y u) {p : Prop} {e : Eff} (he : evIndex tab t x y = some (p, e)) (hp : p) : Good Γ st a e ((Instr.index t v u).run Γ.P w) := by
  unfold evIndex at he
  split at he
  case h_2 => cases he
  rename_i ti cs ky i hti hi
  have hu := asI_rep hy hi
  subst hu
  split at he
  case h_2 => cases he
  rename_i n e0 hk
  split at he
  case h_2 => cases he
  rename_i te hte
  split at he
  case isFalse => cases he
  rename_i hin
  obtain ⟨z, hz, he⟩ := Option.map_eq_some_iff.1 he
  simp only [Prod.mk.injEq] at he
  obtain ⟨rfl, rfl⟩ := he
  have hund := (hT t ti hti).array hk
  cases hx with
  | @agg _ vs hs hr =>
    refine Good.pure h (part_rep hs hr hz) ?_
    have hp' : i.toNat * te.sz + te.sz ≤ cs.length := hp
    have := run_part (w := w) (hT e0 te hte) (cs := vs) (off := i.toNat * te.sz) (by omega)
    simp [Instr.index, asIntOf, underlying, hund, hin, (hT e0 te hte).size w, this]

def evExtract (x : T) (i : Nat) : Option (Prop × Eff) :=
  match x with
  | .tup ts => (ts[i]?).map fun y => (True, ⟨some y, [], []⟩)
  | _ => none

theorem evExtract_good (h : RR Γ U μ (lk st.t) (lk st.m) a w) {i : Nat} {x : T} {v : Value} (hx : RepT w U μ (lk st.m) x v) {p : Prop} {e : Eff} (he : evExtract x i = some (p, e)) : Good Γ st a e ((Instr.extract v i).run Γ.P w) := by
  unfold evExtract at he
  split at he
  case h_2 => cases he
  rename_i ts
  obtain ⟨y, hy, he⟩ := Option.map_eq_some_iff.1 he
  simp only [Prod.mk.injEq] at he
  obtain ⟨_, rfl⟩ := he
  cases hx with
  | @tup _ vs hs hr =>
    have hlt : i < vs.size := by rw [hs]; exact (List.getElem?_eq_some_iff.1 hy).1
    have := hr i y hy
    refine Good.pure h (v := vs[i]) (by simpa [hlt] using this) (by simp [Instr.extract, hlt])
end
end Go.V

/- V8: built structs, arrays and slices; made slices. -/
set_option linter.unusedVariables false
namespace Go.V

def placesOf (tab : Tab) : List (Nat × Nat) → Option (List (Nat × Nat))
  | [] => some []
  | (off, ft) :: r => match lk tab ft, placesOf tab r with
    | some tf, some l => some ((off, tf.sz) :: l)
    | _, _ => none

def partsC : List (Nat × T) → Option (List (Nat × List C))
  | [] => some []
  | (i, y) :: r => match cellsOf y, partsC r with
    | some cs, some l => some ((i, cs) :: l)
    | _, _ => none

def evBuild (tab : Tab) (t : Nat) (ys : List (Nat × T)) : Option (Prop × Eff) :=
  match lk tab t, partsC ys with
  | some ti, some ps => match ti.k with
    | .struct fs => match placesOf tab fs with
      | some pl => (fillC (pl[·]?) (ti.zero.map fun v => .d (.s v)) ps).map fun cs => (True, ⟨some (.agg cs), [], []⟩)
      | none => none
    | .array _ e => match lk tab e with
      | some te => (fillC (fun i => some (i * te.sz, te.sz)) (ti.zero.map fun v => .d (.s v)) ps).map fun cs => (True, ⟨some (.agg cs), [], []⟩)
      | none => none
    | _ => none
  | _, _ => none

/-- The parts as values. -/
def PartsRep (w : World) (U : Nat → Prop) (μ : Mu) (m : Mem) (ys : List (Nat × T)) (ps : List (Nat × Value)) : Prop :=
  ys.length = ps.length ∧ ∀ (j : Nat) i y i' v, ys[j]? = some (i, y) → ps[j]? = some (i', v) → i = i' ∧ RepT w U μ m y v

section
variable {Γ : Ctx} {U : Nat → Prop} {μ : Mu} {m : Mem} {st : St} {a : Act} {w : World} {tab : Tab}

theorem partsC_rep : ∀ {ys : List (Nat × T)} {ps : List (Nat × Value)} {cs : List (Nat × List C)}, PartsRep w U μ m ys ps → partsC ys = some cs →
    ps.length = cs.length ∧ ∀ (j : Nat) i v i' vs, ps[j]? = some (i, v) → cs[j]? = some (i', vs) → i = i' ∧ v.cells.size = vs.length ∧ (∀ k c, vs[k]? = some c → RepC w U μ m c (v.cells.getD k undef)) ∧ ∀ u ∈ v.cells.toList, u.oneCell' = true
  | [], ps, cs, h, hc => by
    simp only [partsC, Option.some.injEq] at hc
    subst hc
    have := h.1
    exact ⟨by simpa using this.symm, fun j i v i' vs _ h2 => by simp at h2⟩
  | (i0, y) :: ys, ps, cs, h, hc => by
    match ps, h with
    | [], h => simp [PartsRep] at h
    | (i1, v1) :: ps, h =>
      simp only [partsC] at hc
      split at hc
      case h_2 => cases hc
      rename_i c0 l hc0 hl
      injection hc with hc
      subst hc
      have h' : PartsRep w U μ m ys ps := ⟨by simpa using h.1, fun j i y i' v h1 h2 => h.2 (j + 1) i y i' v (by simpa using h1) (by simpa using h2)⟩
      obtain ⟨e1, e2⟩ := partsC_rep h' hl
      obtain ⟨e3, e4⟩ := h.2 0 i0 y i1 v1 rfl rfl
      obtain ⟨g1, g2, g3⟩ := cellsOf_rep e4 hc0
      refine ⟨by simp [e1], fun j i v i' vs h1 h2 => ?_⟩
      cases j with
      | zero =>
        simp only [List.getElem?_cons_zero, Option.some.injEq, Prod.mk.injEq] at h1 h2
        obtain ⟨rfl, rfl⟩ := h1
        obtain ⟨rfl, rfl⟩ := h2
        exact ⟨e3.symm, g1, g2, g3⟩
      | succ j => exact e2 j i v i' vs (by simpa using h1) (by simpa using h2)

theorem places_run (hT : TabOK Γ.P tab) : ∀ (fs : List Field) (pl : List (Nat × Nat)), placesOf tab (fs.map fun f => (f.offset, f.type)) = some pl →
    (fs.mapM fun f => (do pure (f.offset, ← sizeOf f.type) : Sem (Nat × Nat))).run Γ.P w = .ok pl w
  | [], pl, h => by simp only [List.map_nil, placesOf, Option.some.injEq] at h; subst h; rfl
  | f :: fs, pl, h => by
    simp only [List.map_cons, placesOf] at h
    split at h
    case h_2 => cases h
    rename_i tf l htf hl
    injection h with h
    subst h
    have ih := places_run hT fs l hl
    simp only [List.mapM_cons, Sem.run_bind, (hT f.type tf htf).size w, Result.andThen, Sem.run_pure, ih]

theorem evBuild_good (hT : TabOK Γ.P tab) (h : RR Γ U μ (lk st.t) (lk st.m) a w) {t : Nat} {ys : List (Nat × T)} {ps : Array (Nat × Value)} (hp : PartsRep w U μ (lk st.m) ys ps.toList) {p : Prop} {e : Eff} (he : evBuild tab t ys = some (p, e)) :
    Good Γ st a e ((Instr.build t ps).run Γ.P w) := by
  unfold evBuild at he
  split at he
  case h_2 => cases he
  rename_i ti cs hti hcs
  have hE := hT t ti hti
  obtain ⟨z, hz, hzc⟩ := hE.zero w
  obtain ⟨q1, q2⟩ := partsC_rep hp hcs
  have hzs : z.cells.size = (ti.zero.map fun v => C.d (D.s v)).length := by rw [← Array.length_toList, hzc]; simp
  have hzr : ∀ (k : Nat) c, (ti.zero.map fun v => C.d (D.s v))[k]? = some c → RepC w U μ (lk st.m) c (z.cells.getD k undef) := fun k c hc => by
    have := zero_rep (Γ := Γ) (w := w) (U := U) (μ := μ) (m := lk st.m) hE k c hc
    rw [← hzc] at this
    simpa [List.getD_eq_getElem?_getD] using this
  split at he
  · rename_i fs hfs
    split at he
    case h_2 => cases he
    rename_i pl hpl
    obtain ⟨cs', hcs', he⟩ := Option.map_eq_some_iff.1 he
    simp only [Prod.mk.injEq] at he
    obtain ⟨_, rfl⟩ := he
    obtain ⟨fields, hu, hmap⟩ := hE.struct hfs
    obtain ⟨cur, f1, f2, f3, f4⟩ := fillC_rep ps.toList cs _ _ z.cells hcs' q1 (fun j i v i' vs h1 h2 => ⟨(q2 j i v i' vs h1 h2).1, (q2 j i v i' vs h1 h2).2.1, (q2 j i v i' vs h1 h2).2.2.1⟩) hzs hzr
    rw [← hmap] at hpl
    have hpr := places_run (w := w) hT fields.toList pl hpl
    have hpr' : (fields.mapM fun f => (do pure (f.offset, ← sizeOf f.type) : Sem (Nat × Nat))).run Γ.P w = .ok pl.toArray w := by
      rw [show fields = fields.toList.toArray from rfl, List.mapM_toArray]
      simp only [Sem.run_map, hpr, Result.andThen]
    refine Good.pure h (.agg (by simpa using f2) f4) ?_
    simp only [Instr.build, Sem.run_bind, hz, Result.andThen, underlying, run_program, hu, Sem.run_pure]
    rw [hpr']
    simp only [List.getElem?_toArray, f1, Sem.run_pure]
  · rename_i n e0 hk
    split at he
    case h_2 => cases he
    rename_i te hte
    obtain ⟨cs', hcs', he⟩ := Option.map_eq_some_iff.1 he
    simp only [Prod.mk.injEq] at he
    obtain ⟨_, rfl⟩ := he
    have hund := hE.array hk
    obtain ⟨cur, f1, f2, f3, f4⟩ := fillC_rep ps.toList cs _ _ z.cells hcs' q1 (fun j i v i' vs h1 h2 => ⟨(q2 j i v i' vs h1 h2).1, (q2 j i v i' vs h1 h2).2.1, (q2 j i v i' vs h1 h2).2.2.1⟩) hzs hzr
    refine Good.pure h (.agg (by simpa using f2) f4) ?_
    simp only [Instr.build, Sem.run_bind, hz, Result.andThen, underlying, run_program, hund, Sem.run_pure, (hT e0 te hte).size w, f1]
  · cases he

/-! ### New rows -/
theorem RR.newRow {tf : Nat → Option T} (h : RR Γ U μ tf m a w) {n : Nm} (hn : m n = none) {ty sz k cap : Nat} {f : Nat → List D} {cur : Array Value} (h0 : ∀ j, j < k → (f j).length = sz) (hs : cur.size = cap * sz) (hk : k ≤ cap) (hc : cap ≤ maxLen)
    (hr : ∀ (j q : Nat) d, j < k → (f j)[q]? = some d → RepD w U d (cur.getD (j * sz + q) undef)) :
    ∃ μ', RR Γ U μ' tf (upd m n (.row false ty sz k f)) a (w.alloc (.cells cur ty)) ∧ μ' n = some (w.heap.size, cap) := by
  have hu : ¬ U w.heap.size := fun hu => by have := (h.ulim _ hu).1; omega
  have hz : ¬ Γ.Z w.heap.size := fun hz => by have := h.zlim _ hz; have := h.pres.size; omega
  have hold : ∀ k, k < w.heap.size → (w.alloc (.cells cur ty)).heap[k]? = w.heap[k]? := fun k hk => heap_alloc_old w _ k hk
  have hs' : UStep w U (w.alloc (.cells cur ty)) U := ⟨fun _ hk => hk, fun k hk => hold k (h.ulim k hk).1⟩
  refine ⟨fun k => if n = k then some (w.heap.size, cap) else μ k, h.add hn _ _ rfl rfl rfl (by simp) hold (fun g c e => by injection e with e; injection e with e _; omega) ?_, by simp⟩
  exact ⟨h0, .inr ⟨w.heap.size, cap, cur, by simp, heap_alloc_new w _, hs, hk, hc, fun j q d hj hd => (hr j q d hj hd).mono hs', hz, (fun e => by cases e), fun _ => hu⟩⟩

def fillD (m : List (Nm × Obj)) (sz : Nat) (els : List (List D)) : List (Nat × List C) → Option (Prop × List (List D) × List Nm)
  | [] => some (True, els, [])
  | (i, cs) :: r => match toDs m cs with
    | some (p, ds, ns) => if ds.length = sz ∧ i < els.length then match fillD m sz (els.set i ds) r with
      | some (q, els', ns') => some (p ∧ q, els', ns ++ ns')
      | none => none
      else none
    | none => none

/-- A row's cells, flat. -/
def Flat (w : World) (U : Nat → Prop) (sz : Nat) (els : List (List D)) (cur : Array Value) : Prop :=
  cur.size = els.length * sz ∧ (∀ (j : Nat) ds, els[j]? = some ds → ds.length = sz) ∧ ∀ (j q : Nat) ds d, els[j]? = some ds → ds[q]? = some d → RepD w U d (cur.getD (j * sz + q) undef)

theorem fillD_rep {tf : Nat → Option T} {mm m' : List (Nm × Obj)} {U' : Nat → Prop} (h : RR Γ U' μ tf (lk m') a w) (hm : ∀ n, lk m' n = lk mm n ∨ ∃ o, lk mm n = some o ∧ lk m' n = some o.ice) (sz : Nat) (ps : List (Nat × Value)) :
    ∀ (cs : List (Nat × List C)) (els els' : List (List D)) (p : Prop) (ns : List Nm) (cur : Array Value), fillD mm sz els cs = some (p, els', ns) → p →
    (∀ n ∈ ns, ∀ o, lk mm n = some o → (∀ ka va g, o ≠ .map ka va g) → ∀ g c, μ n = some (g, c) → U' g) → ps.length = cs.length →
    (∀ (j : Nat) i v i' vs, ps[j]? = some (i, v) → cs[j]? = some (i', vs) → i = i' ∧ v.cells.size = vs.length ∧ ∀ k c, vs[k]? = some c → RepC w U' μ (lk m') c (v.cells.getD k undef)) →
    Flat w U' sz els cur → ∃ cur', Instr.fill (fun i => some (i * sz, sz)) cur ps = some cur' ∧ Flat w U' sz els' cur' ∧ els'.length = els.length := by
  induction ps with
  | nil =>
    intro cs els els' p ns cur hf hp hU hl _ hF
    match cs, hl with
    | [], _ =>
      simp only [fillD, Option.some.injEq, Prod.mk.injEq] at hf
      obtain ⟨_, rfl, _⟩ := hf
      exact ⟨cur, rfl, hF, rfl⟩
  | cons p1 ps ih =>
    intro cs els els' p ns cur hf hp hU hl hr hF
    match cs, hl with
    | (i', vs) :: cs, hl =>
      obtain ⟨i, v⟩ := p1
      obtain ⟨rfl, hvs, hv⟩ := hr 0 i v i' vs rfl rfl
      simp only [fillD] at hf
      split at hf
      case h_2 => cases hf
      rename_i pp ds ns1 hds
      split at hf
      case isFalse => cases hf
      rename_i hcond
      split at hf
      case h_2 => cases hf
      rename_i qq els2 ns2 hrest
      simp only [Option.some.injEq, Prod.mk.injEq] at hf
      obtain ⟨rfl, rfl, rfl⟩ := hf
      have hpq : pp ∧ qq := hp
      obtain ⟨l1, l2⟩ := toDs_rep h hm hds hpq.1 (fun n hn => hU n (List.mem_append_left _ hn)) (vs := v.cells.toList) (fun i c hc => by
        have := hv i c hc
        simpa [List.getD_eq_getElem?_getD] using this)
      obtain ⟨hF1, hF2, hF3⟩ := hF
      have hfit : i * sz + v.cells.toList.length ≤ cur.size := by
        rw [hF1]
        have : v.cells.toList.length = sz := by simp; omega
        rw [this]
        calc i * sz + sz = (i + 1) * sz := by rw [Nat.add_mul, Nat.one_mul]
          _ ≤ els.length * sz := Nat.mul_le_mul_right _ (by omega)
      have hvl : v.cells.toList.length = sz := by simp; omega
      have hfold : (v.cells.zipIdx.foldl (fun (cs : Array Value) (x : Value × Nat) => cs.setIfInBounds (i * sz + x.2) x.1) cur).toList = setFrom cur.toList (i * sz) v.cells.toList := by
        have := fold_setFrom v.cells.toList 0 (i * sz) cur (by omega)
        rw [Nat.add_zero] at this
        rw [← this, ← Array.foldl_toList]
        simp
      have hflat : Flat w U' sz (els.set i ds) (v.cells.zipIdx.foldl (fun (cs : Array Value) (x : Value × Nat) => cs.setIfInBounds (i * sz + x.2) x.1) cur) := by
        refine ⟨?_, fun j es hj => ?_, fun j q es d hj hd => ?_⟩
        · rw [← Array.length_toList, hfold, length_setFrom _ _ _ (by simpa using hfit)]; simpa using hF1
        · by_cases e : i = j
          · subst e
            rw [List.getElem?_set_self (by omega)] at hj
            injection hj with hj
            subst hj
            exact hcond.1
          · rw [List.getElem?_set_ne e] at hj
            exact hF2 j es hj
        · have hg : (v.cells.zipIdx.foldl (fun (cs : Array Value) (x : Value × Nat) => cs.setIfInBounds (i * sz + x.2) x.1) cur).getD (j * sz + q) undef = if i * sz ≤ j * sz + q ∧ j * sz + q < i * sz + sz then v.cells.getD (j * sz + q - i * sz) undef else cur.getD (j * sz + q) undef := by
            rw [Array.getD_eq_getD_getElem?, ← Array.getElem?_toList, hfold, getElem_setFrom _ _ _ (by simpa using hfit), hvl]
            split <;> simp
          rw [hg]
          by_cases e : i = j
          · subst e
            rw [List.getElem?_set_self (by omega)] at hj
            injection hj with hj
            subst hj
            have hq : q < sz := by rw [← hcond.1]; exact (List.getElem?_eq_some_iff.1 hd).1
            rw [if_pos (by omega), show i * sz + q - i * sz = q by omega]
            have := l2 q d hd
            simpa [List.getD_eq_getElem?_getD] using this
          · rw [List.getElem?_set_ne e] at hj
            have hq : q < sz := by rw [← hF2 j es hj]; exact (List.getElem?_eq_some_iff.1 hd).1
            rw [if_neg ?_]
            · exact hF3 j q es d hj hd
            · rintro ⟨ha, hb⟩
              have : j * sz + q = i * sz + (j * sz + q - i * sz) := by omega
              exact e (row_inj hq (by omega) this).1.symm
      obtain ⟨cur', e1, e2, e3⟩ := ih cs (els.set i ds) els2 qq ns2 _ hrest hpq.2 (fun n hn => hU n (List.mem_append_right _ hn)) (by simpa using hl)
        (fun j i v i' vs h1 h2 => hr (j + 1) i v i' vs (by simpa using h1) (by simpa using h2)) hflat
      refine ⟨cur', ?_, e2, by simpa using e3⟩
      simp only [Instr.fill]
      rw [if_neg (by simp; simp at hfit hvl; omega)]
      exact e1

def evBuildSlice (tab : Tab) (st : St) (dst : Option Nat) (t len : Nat) (ys : List (Nat × T)) : Option (Prop × Eff) :=
  match dst, lk tab t, partsC ys with
  | some d, some ti, some ps => match ti.k with
    | .slice e => match lk tab e with
      | some te => match lk st.m (nm d 0), fillD st.m te.sz (List.replicate len (te.zero.map .s)) ps with
        | none, some (p, els, ns) => if 0 < te.sz ∧ len * te.sz ≤ 16777216 then if ns.contains (nm d 0) then none else
          some (p, ⟨some (.c (.row (nm d 0) len)), (nm d 0, .row false e te.sz len fun j => els.getD j []) :: iceUp st.m ns, nm d 0 :: ns⟩) else none
        | _, _ => none
      | none => none
    | _ => none
  | _, _, _ => none

theorem MStep.iceUp (m : List (Nm × Obj)) (μ : Mu) (ns : List Nm) : MStep (lk m) μ (lk (iceUp m ns ++ m)) μ := by
  refine ⟨fun x ice ty sz q f hk => ?_, fun x ice bs hk => ?_, fun x ka va f hk => ?_⟩
  all_goals
    rcases lk_iceUp m ns x with e | ⟨o, ho, e⟩
    · rw [e]
      first
        | exact ⟨ice, q, f, hk, Nat.le_refl _, fun _ => rfl⟩
        | exact ⟨ice, bs, hk, rfl⟩
        | exact ⟨f, hk, rfl⟩
    · rw [hk] at ho
      injection ho with ho
      subst ho
      first
        | exact ⟨true, q, f, e, Nat.le_refl _, fun _ => rfl⟩
        | exact ⟨true, bs, e, rfl⟩
        | exact ⟨f, e, rfl⟩

theorem zeros_flat {t : Nat} {ti : TI} (hE : Ent Γ.P t ti) {z : Value} (hz : z.cells.toList = ti.zero) (len : Nat) :
    Flat w U ti.sz (List.replicate len (ti.zero.map D.s)) ((Array.range (len * ti.sz)).map (z.cells[· % z.cells.size]!)) := by
  have hzl : z.cells.size = ti.sz := by rw [← Array.length_toList, hz, hE.zs]
  refine ⟨by simp, fun j ds hj => ?_, fun j q ds d hj hd => ?_⟩
  · have := List.eq_of_mem_replicate (List.mem_of_getElem? hj)
    subst this
    simp [hE.zs]
  · have hj' : j < len := by have := (List.getElem?_eq_some_iff.1 hj).1; simpa using this
    have := List.eq_of_mem_replicate (List.mem_of_getElem? hj)
    subst this
    rw [List.getElem?_map] at hd
    obtain ⟨v, hv, rfl⟩ := Option.map_eq_some_iff.1 hd
    have hq : q < ti.sz := by rw [← hE.zs]; exact (List.getElem?_eq_some_iff.1 hv).1
    have hlt : j * ti.sz + q < len * ti.sz := row_lt hj' (Nat.le_refl _) hq
    have hmod : (j * ti.sz + q) % ti.sz = q := by rw [Nat.mul_comm, Nat.mul_add_mod, Nat.mod_eq_of_lt hq]
    have hval : ((Array.range (len * ti.sz)).map (z.cells[· % z.cells.size]!)).getD (j * ti.sz + q) undef = v := by
      have hzq : z.cells[q]? = some v := by rw [← Array.getElem?_toList, hz]; exact hv
      simp [hlt, hzl, hmod, getElem!_def, hzq]
    rw [hval]
    exact .s v (hE.z1 v (List.mem_of_getElem? hv))

theorem evBuildSlice_good (hT : TabOK Γ.P tab) (h : RR Γ U μ (lk st.t) (lk st.m) a w) {dst : Option Nat} {t len : Nat} {ys : List (Nat × T)} {ps : Array (Nat × Value)} (hpr : PartsRep w U μ (lk st.m) ys ps.toList) {p : Prop} {e : Eff} (he : evBuildSlice tab st dst t len ys = some (p, e)) (hp : p) :
    Good Γ st a e ((Instr.buildSlice t len ps).run Γ.P w) := by
  unfold evBuildSlice at he
  split at he
  case h_2 => cases he
  rename_i d ti cs hti hcs
  split at he
  case h_2 => cases he
  rename_i e0 hk
  split at he
  case h_2 => cases he
  rename_i te hte
  split at he
  case h_2 => cases he
  rename_i pp els ns hn hfd
  split at he
  case isFalse => cases he
  rename_i hsmall
  split at he
  case isTrue => cases he
  rename_i hnot
  simp only [Option.some.injEq, Prod.mk.injEq] at he
  obtain ⟨rfl, rfl⟩ := he
  have hE := hT e0 te hte
  obtain ⟨U1, h1, hu1, hi1⟩ := h.iceAll ns
  have hstep : UStep w U w U1 := ⟨hu1, fun _ _ => rfl⟩
  have hmst := MStep.iceUp st.m μ ns
  have hpr1 : PartsRep w U1 μ (lk (iceUp st.m ns ++ st.m)) ys ps.toList := ⟨hpr.1, fun j i y i' v a1 a2 => ⟨(hpr.2 j i y i' v a1 a2).1, (hpr.2 j i y i' v a1 a2).2.mono hstep hmst⟩⟩
  obtain ⟨q1, q2⟩ := partsC_rep hpr1 hcs
  obtain ⟨z, hz, hzc⟩ := hE.zero w
  have hzl : z.cells.size = te.sz := by rw [← Array.length_toList, hzc, hE.zs]
  obtain ⟨cur, f1, f2, f3⟩ := fillD_rep h1 (lk_iceUp st.m ns) te.sz ps.toList cs _ els pp ns _ hfd hp hi1 q1 (fun j i v i' vs a1 a2 => ⟨(q2 j i v i' vs a1 a2).1, (q2 j i v i' vs a1 a2).2.1, (q2 j i v i' vs a1 a2).2.2.1⟩) (zeros_flat hE hzc len)
  obtain ⟨F1, F2, F3⟩ := f2
  have hlen : els.length = len := by simpa using f3
  have hn1 : lk (iceUp st.m ns ++ st.m) (nm d 0) = none := (lk_iceUp_not _ _ _ (by simpa using hnot)).trans hn
  have hget : ∀ j, j < len → els[j]? = some (els.getD j []) := fun j hj => by simp [List.getD_eq_getElem?_getD, show j < els.length by omega]
  obtain ⟨μ', g1, g2⟩ := h1.newRow hn1 (ty := e0) (sz := te.sz) (k := len) (cap := len) (f := fun j => els.getD j []) (cur := cur) (fun j hj => F2 j _ (hget j hj)) (by rw [F1, hlen]) (Nat.le_refl _) (by
      simp only [maxLen]
      have := Nat.le_mul_of_pos_right len hsmall.1
      omega) (fun j q dd hj hd => F3 j q _ dd (hget j hj) hd)
  refine ⟨.slice (some ⟨w.heap.size, 0, none⟩) len len, w.alloc (.cells cur e0), U1, μ', ?_, ?_, fun x hx => ?_⟩
  · have hund := (hT t ti hti).slice hk
    simp only [Instr.buildSlice, Sem.run_bind, underlying, run_program, hund, Result.andThen, Sem.run_pure, hE.size w]
    rw [if_neg (by omega)]
    by_cases h0 : len * te.sz = 0
    · have hf : Instr.fill (fun i => some (i * te.sz, te.sz)) ((Array.range (len * te.sz)).map fun x => (#[] : Array Value)[x % (#[] : Array Value).size]!) ps.toList = some cur := by
        rw [← f1]; congr 1; simp [h0]
      simp only [h0, if_true, Sem.run_bind, Sem.run_pure, Result.andThen]
      rw [h0] at hf
      simp only [hf]
      simp [newRow]
    · simp only [h0, if_false, Sem.run_bind, Sem.run_pure, Result.andThen, hz, f1]
      simp [newRow]
  · simp only [List.cons_append]; rw [lk_cons_upd]; exact g1
  · injection hx with hx
    subst hx
    simp only [List.cons_append]
    rw [lk_cons_upd]
    exact .c (.row false e0 te.sz len (fun j => els.getD j []) (by simp) (Nat.le_refl _) rfl fun _ => by rw [g2]; rfl)
end
end Go.V

/- V9: make and append. -/
set_option linter.unusedVariables false
namespace Go.V

theorem Ent.row {P : Program} {t : Nat} {ti : TI} (h : Ent P t ti) : ∃ i z, P.info? t = some i ∧ i.zero = some z ∧ i.size = ti.sz ∧ i.bytes = ti.bytes ∧ z.cells.size = ti.sz ∧ z.cells.toList = ti.zero := by
  obtain ⟨i, z, h1, h2, h3, h4, h5⟩ := h.info
  exact ⟨i, z, h1, h4, h2, h3, by rw [← Array.length_toList, h5, h.zs], h5⟩

section
variable {P : Program} {w : World}

/-- append, whatever the row is: empty without a place, or a row of one's own. -/
theorem append_any {t e ty : Nat} {te : TI} (hE : Ent P e te) (hsl : P.underlying t = some (.slice e)) (hpos : 0 < te.sz) (hby : 0 < te.bytes) {y0 : Option (Nat × Nat)} {k km : Nat} {v : Value} (hv : rowIs y0 k v) {xs news : List Value} (hxs : xs.length = k * te.sz)
    (hy : (y0 = none ∧ k = 0) ∨ ∃ g cap cur, y0 = some (g, cap) ∧ w.heap[g]? = some (.cells cur e (0, 0)) ∧ cur.size = cap * te.sz ∧ k ≤ cap ∧ cap ≤ maxLen ∧ cur.toList.take (k * te.sz) = xs)
    {A : Option Addr} {c : Nat} (hn : news.length = km * te.sz) (hA : 0 < km → ∃ ad, A = some ad ∧ ∀ j u, news[j]? = some u → w.cell? (ad.add j) = some u) (h1 : ∀ u ∈ news, u.oneCell' = true)
    (hb : (k + km) * te.bytes ≤ 140737488355328) :
    ∃ v' w' y', (Builtin.append_ #[t, t] ty #[v, .slice A km c]).run P w = .ok v' w' ∧ rowIs y' (k + km) v' ∧ w'.os = w.os ∧ w'.tape = w.tape ∧ w'.output = w.output ∧ w.heap.size ≤ w'.heap.size ∧
      (∀ i, i < w.heap.size → (∀ c, y0 ≠ some (i, c)) → w'.heap[i]? = w.heap[i]?) ∧ (∀ g c, y' = some (g, c) → (∃ c', y0 = some (g, c')) ∨ w.heap.size ≤ g) ∧
      ((y' = none ∧ k + km = 0) ∨ ∃ g cap cur, y' = some (g, cap) ∧ w'.heap[g]? = some (.cells cur e (0, 0)) ∧ cur.size = cap * te.sz ∧ k + km ≤ cap ∧ cap ≤ maxLen ∧ cur.toList.take ((k + km) * te.sz) = xs ++ news) ∧
      (km = 0 → y' = y0) := by
  obtain ⟨i, z, hi, hz, hsz, hbz, hzs, hzc⟩ := hE.row
  have h63 : k + km ≤ 140737488355328 := Nat.le_trans (Nat.le_mul_of_pos_right _ hby) hb
  have hmax : k + km ≤ maxLen := by simp only [maxLen]; omega
  rcases Nat.eq_zero_or_pos km with h0 | h0
  · -- nothing is appended
    subst h0
    have hnn : news = [] := List.eq_nil_of_length_eq_zero (by simpa using hn)
    subst hnn
    have hrun : (Builtin.append_ #[t, t] ty #[v, .slice A 0 c]).run P w = .ok v w := by
      have hcap : ∃ b cap, v = .slice b k cap ∧ k ≤ cap := by
        rcases hy with ⟨h1, h2⟩ | ⟨g, cap, cur, h1, _, _, h4, _⟩
        · rw [h1] at hv
          obtain ⟨_, a, rfl⟩ := hv
          exact ⟨a, 0, by rw [h2], by omega⟩
        · rw [h1] at hv
          exact ⟨_, cap, hv, h4⟩
      obtain ⟨b, cap, rfl, hle⟩ := hcap
      have hf : (Builtin.firstCells i.size 0 (.slice A 0 c)).run P w = .ok #[] w := by cases A <;> simp [Builtin.firstCells, loadCells, loadCellsFrom]
      cases b <;> simp [Builtin.append_, underlying, hsl, sizeOf, typeInfo, hi, Builtin.lenOf, hle, hf, storeCells]
    refine ⟨v, w, y0, hrun, by simpa using hv, rfl, rfl, rfl, Nat.le_refl _, fun _ _ _ => rfl, fun g c hg => .inl ⟨c, hg⟩, ?_, fun _ => rfl⟩
    rcases hy with hy | ⟨g, cap, cur, g1, g2, g3, g4, g5, g6⟩
    · exact .inl hy
    · exact .inr ⟨g, cap, cur, g1, g2, g3, g4, g5, by simpa using g6⟩
  · obtain ⟨ad, rfl, hcell⟩ := hA h0
    rcases hy with ⟨g1, g2⟩ | ⟨g, cap, cur, g1, g2, g3, g4, g5, g6⟩
    · subst g2
      rw [g1] at hv
      obtain ⟨_, a, rfl⟩ := hv
      have hxn : xs = [] := List.eq_nil_of_length_eq_zero (by simpa using hxs)
      subst hxn
      have hb' : km * i.bytes ≤ 140737488355328 := by rw [hbz]; simpa using hb
      have hgc := grownCap_ge w km 0 e
      have hgm := grownCap_le_maxLen w km 0 e (by simpa using hmax)
      have hrun : (Builtin.append_ #[t, t] ty #[.slice a 0 0, .slice (some ad) km c]).run P w = .ok (.slice (some ⟨w.heap.size, 0, none⟩) km (grownCap w km 0 e)) (w.drew.alloc (.cells (news.toArray ++ Builtin.zeroCells z.cells (grownCap w km 0 e - km)) e)) := by
        cases a with
        | none => exact run_append_nil w t ty e i z hsl hi hz ad km c news (by rw [hsz]; exact hn) hcell h0 (by omega) (by omega)
        | some b =>
          have := run_append_grow (P := P) w t ty e i z hsl hi hz b 0 0 [] (by simp) (fun j v hv => by simp at hv) ad km c news (by rw [hsz]; exact hn) hcell (by omega) (by omega) (growslice_fits (by omega) (by simpa using hb'))
          simpa using this
      refine ⟨_, _, some (w.heap.size, grownCap w km 0 e), hrun, by simp [rowIs], rfl, rfl, rfl, by simp, fun i hi _ => heap_alloc_old w.drew _ i hi, fun g c hg => .inr (by injection hg with hg; injection hg with hg _; omega), .inr ⟨w.heap.size, _, _, rfl, heap_alloc_new w.drew _, ?_, by simpa using hgc, hgm, ?_⟩, fun e => by omega⟩
      · simp only [Array.size_append, List.size_toArray, size_zeroCells, hzs, hn, ← Nat.add_mul]
        congr 1
        omega
      · simp only [Array.toList_append, Nat.zero_add, List.nil_append]
        rw [← hn]
        exact List.take_left
    · rw [g1] at hv
      have hv : v = .slice (some ⟨g, 0, none⟩) k cap := hv
      subst hv
      have hown : w.ownsRow 0 e te.sz (.slice (some ⟨g, 0, none⟩) k cap) k xs := ⟨hxs, .inr ⟨g, cap, cur, rfl, Nat.zero_le _, g2, g4, g5, g3, g6⟩⟩
      obtain ⟨v', w', hrun, h2, h3, h4, h5⟩ := run_append_own_at (P := P) w 0 t ty e i z te.sz te.bytes hsl hi hz hsz hbz hzs hpos _ k xs hown ad km c news hn hcell h1 hmax hb (Nat.zero_le _)
      rcases h2.2 with ⟨rfl, hz0⟩ | ⟨g', cap', cur', rfl, _, q1, q2, q3, q4, q5⟩
      · omega
      · refine ⟨_, w', some (g', cap'), hrun, rfl, h3.os, h3.tape, h3.output, h3.size, fun i hi hne => h3.block i hi (fun e => hne cap (by simp [Value.ownBlock] at e; rw [g1, e])), fun g2 c2 hg => ?_, .inr ⟨g', cap', cur', rfl, q1, q4, q2, q3, q5⟩, fun e => by omega⟩
        injection hg with hg
        injection hg with hg _
        subst hg
        simp only [Value.ownBlock, Option.some.injEq] at h5
        rcases h5 with h5 | h5
        · exact .inl ⟨cap, by rw [g1, h5]⟩
        · exact .inr (by omega)
end

/-! ### What is appended -/
def srcOf (m : List (Nm × Obj)) (SZ : Nat) : T → Option (Prop × Nat × (Nat → List D) × List Nm)
  | .c (.row n len) => match lk m n with
    | some (.row _ _ sz k f) => if sz = SZ then some (len = k, k, f, [n]) else none
    | _ => none
  | .c (.d (.l n f)) => some (∀ j, j < n → (f j).length = SZ, n, f, [])
  | .c (.d (.s (.slice _ 0 _))) => some (True, 0, fun _ => [], [])
  | .c .z => some (True, 0, fun _ => [], [])
  | _ => none

def appF (k : Nat) (f g : Nat → List D) : Nat → List D := fun j => if j < k then f j else g (j - k)

section
variable {Γ : Ctx} {U : Nat → Prop} {μ : Mu} {st : St} {a : Act} {w : World} {tab : Tab}

theorem srcOf_rep (h : RR Γ U μ (lk st.t) (lk st.m) a w) {SZ : Nat} {x : T} {v : Value} (hx : RepT w U μ (lk st.m) x v) {p : Prop} {k : Nat} {g : Nat → List D} {ns : List Nm} (hs : srcOf st.m SZ x = some (p, k, g, ns)) (hp : p) :
    ∃ (A : Option Addr) (c : Nat) (news : List Value), v = .slice A k c ∧ news.length = k * SZ ∧ (0 < k → ∃ ad, A = some ad ∧ ∀ (j : Nat) u, news[j]? = some u → w.cell? (ad.add j) = some u) ∧ (∀ u ∈ news, u.oneCell' = true) ∧
      (∀ j, j < k → (g j).length = SZ) ∧ ∀ (j q : Nat) d, j < k → (g j)[q]? = some d → RepD w U d (news.getD (j * SZ + q) undef) := by
  unfold srcOf at hs
  split at hs
  · rename_i n len
    split at hs
    case h_2 => cases hs
    rename_i ice ty sz k' f hn
    split at hs
    case isFalse => cases hs
    rename_i hsz
    subst hsz
    simp only [Option.some.injEq, Prod.mk.injEq] at hs
    obtain ⟨rfl, rfl, rfl, rfl⟩ := hs
    have hp : len = k' := hp
    cases hx with
    | c hx =>
      cases hx with
      | row ice' ty' sz' k2 f' hn' hk' h1 hv =>
        rw [hn] at hn'
        injection hn' with hn'
        injection hn' with e1 e2 e3 e4 e5
        subst e4
        have hv := hv hp
        obtain ⟨h0, ho⟩ := h.mem.ok n _ hn
        rcases ho with ⟨g1, g2⟩ | ⟨g, cap, cur, g1, g2, g3, g4, g5, g6, g7, g8, g9⟩
        · rw [g1] at hv
          obtain ⟨_, ad, rfl⟩ := hv
          subst g2
          exact ⟨ad, 0, [], rfl, by simp, fun h => by omega, fun u hu => by simp at hu, h0, fun j q d hj => by omega⟩
        · rw [g1] at hv
          have hv : v = .slice (some ⟨g, 0, none⟩) k' cap := hv
          subst hv
          have hle : k' * sz ≤ cur.size := by rw [g3]; exact Nat.mul_le_mul_right _ g4
          refine ⟨_, cap, cur.toList.take (k' * sz), rfl, by simp; omega, fun _ => ⟨⟨g, 0, none⟩, rfl, fun j u hu => ?_⟩, fun u hu => ?_, h0, fun j q d hj hd => ?_⟩
          · have hj : j < k' * sz := by have := (List.getElem?_eq_some_iff.1 hu).1; simp at this; omega
            rw [List.getElem?_take, if_pos hj] at hu
            rw [add_zero_off, cell_of_row w g _ cur ty (0, 0) g2]
            simpa using hu
          · obtain ⟨j, hj, rfl⟩ := List.mem_iff_getElem.1 hu
            have hj' : j < k' * sz := by simp at hj; omega
            have hsz0 : 0 < sz := by rcases Nat.eq_zero_or_pos sz with e | e; (· simp [e] at hj'); exact e
            have hjk : j / sz < k' := (Nat.div_lt_iff_lt_mul hsz0).2 hj'
            have hq : j % sz < (f (j / sz)).length := by rw [h0 _ hjk]; exact Nat.mod_lt _ hsz0
            have := g6 (j / sz) (j % sz) _ hjk (List.getElem?_eq_getElem hq)
            rw [Nat.mul_comm, Nat.div_add_mod] at this
            have hget : cur.getD j undef = (cur.toList.take (k' * sz))[j] := by
              have : j < cur.size := by omega
              simp [this]
            rw [hget] at this
            exact this.one
          · have hq : q < sz := by rw [← h0 j hj]; exact (List.getElem?_eq_some_iff.1 hd).1
            have hlt : j * sz + q < k' * sz := row_lt hj (Nat.le_refl _) hq
            have := g6 j q d hj hd
            simpa [List.getD_eq_getElem?_getD, List.getElem?_take, hlt] using this
  · rename_i n f
    simp only [Option.some.injEq, Prod.mk.injEq] at hs
    obtain ⟨rfl, rfl, rfl, rfl⟩ := hs
    have hp : ∀ j, j < n → (f j).length = SZ := hp
    cases hx with
    | c hx =>
      cases hx with
      | d hx =>
        cases hx with
        | l _ _ ao cap sz vals hnc hcm hs ha hv =>
          rcases Nat.eq_zero_or_pos n with h0 | h0
          · subst h0
            exact ⟨ao, cap, [], rfl, by simp, fun h => by omega, fun u hu => by simp at hu, hp, fun j q d hj => by omega⟩
          · obtain ⟨ad, rfl, hU, hc⟩ := ha h0
            have hsz : sz = SZ := by rw [← hp 0 h0, hs 0 h0]
            subst hsz
            have hdm : ∀ j, j < n * sz → 0 < sz ∧ j / sz < n ∧ j % sz < sz ∧ j / sz * sz + j % sz = j := fun j hj => by
              have hs0 : 0 < sz := by rcases Nat.eq_zero_or_pos sz with e | e; (· simp [e] at hj); exact e
              exact ⟨hs0, (Nat.div_lt_iff_lt_mul hs0).2 hj, Nat.mod_lt _ hs0, by rw [Nat.mul_comm]; exact Nat.div_add_mod j sz⟩
            have hone : ∀ j q, j < n → q < sz → (vals j q).oneCell' = true := fun j q hj hq => by
              have hlt : q < (f j).length := by rw [hs j hj]; exact hq
              exact (hv j q _ hj (List.getElem?_eq_getElem hlt)).one
            refine ⟨_, cap, (List.range (n * sz)).map fun i => vals (i / sz) (i % sz), rfl, by simp, fun _ => ⟨ad, rfl, fun j u hu => ?_⟩, fun u hu => ?_, hp, fun j q d hj hd => ?_⟩
            · have hj : j < n * sz := by have := (List.getElem?_eq_some_iff.1 hu).1; simpa using this
              obtain ⟨_, d2, d3, d4⟩ := hdm j hj
              have := hc _ _ d2 d3
              rw [d4] at this
              rw [this, ← hu]
              simp [hj]
            · obtain ⟨i, hi, rfl⟩ := List.mem_map.1 hu
              obtain ⟨_, d2, d3, d4⟩ := hdm i (by simpa using hi)
              exact hone _ _ d2 d3
            · have hq : q < sz := by rw [← hs j hj]; exact (List.getElem?_eq_some_iff.1 hd).1
              have hlt : j * sz + q < n * sz := row_lt hj (Nat.le_refl _) hq
              obtain ⟨_, d2, d3, d4⟩ := hdm _ hlt
              obtain ⟨r1, r2⟩ := row_inj d3 hq d4
              have := hv j q d hj hd
              simpa [List.getD_eq_getElem?_getD, hlt, r1, r2] using this
  · simp only [Option.some.injEq, Prod.mk.injEq] at hs
    obtain ⟨rfl, rfl, rfl, rfl⟩ := hs
    cases hx with
    | c hx => cases hx with
      | d hx => cases hx with
        | s v h1 => exact ⟨_, _, [], rfl, by simp, fun h => by omega, fun u hu => by simp at hu, fun j hj => by omega, fun j q d hj => by omega⟩
  · simp only [Option.some.injEq, Prod.mk.injEq] at hs
    obtain ⟨rfl, rfl, rfl, rfl⟩ := hs
    cases hx with
    | c hx => cases hx with
      | z ad => exact ⟨ad, 0, [], rfl, by simp, fun h => by omega, fun u hu => by simp at hu, fun j hj => by omega, fun j q d hj => by omega⟩
  · cases hs

def evAppend (tab : Tab) (st : St) (dst : Option Nat) (t : Nat) (x y : T) : Option (Prop × Eff) :=
  match dst, lk tab t with
  | some d, some ti => match ti.k with
    | .slice e => match lk tab e with
      | some te => if 0 < te.sz ∧ 0 < te.bytes then match srcOf st.m te.sz y with
        | some (p, km, g, ns) => match x with
          | .c (.row n len) => match lk st.m n with
            | some (.row false ty sz k f) => if ty = e ∧ sz = te.sz then some (p ∧ len = k ∧ (k + km) * te.bytes ≤ 140737488355328, ⟨some (.c (.row n (k + km))), [(n, .row false e te.sz (k + km) (appF k f g))], n :: ns⟩) else none
            | _ => none
          | .c (.d (.s (.slice none 0 0))) => match lk st.m (nm d 0) with
            | none => some (p ∧ km * te.bytes ≤ 140737488355328, ⟨some (.c (.row (nm d 0) km)), [(nm d 0, .row false e te.sz km g)], nm d 0 :: ns⟩)
            | _ => none
          | .c .z => match lk st.m (nm d 0) with
            | none => some (p ∧ km * te.bytes ≤ 140737488355328, ⟨some (.c (.row (nm d 0) km)), [(nm d 0, .row false e te.sz km g)], nm d 0 :: ns⟩)
            | _ => none
          | _ => none
        | none => none
        else none
      | none => none
    | _ => none
  | _, _ => none

/-- Cells of a row that was appended to. -/
theorem app_cells {sz k km : Nat} {f g : Nat → List D} {xs news : List Value} {cur : Array Value} (hxs : xs.length = k * sz) (hc : cur.toList.take ((k + km) * sz) = xs ++ news) (hn : news.length = km * sz)
    (hf0 : ∀ j, j < k → (f j).length = sz) (hg0 : ∀ j, j < km → (g j).length = sz) (hf : ∀ (j q : Nat) d, j < k → (f j)[q]? = some d → RepD w U d (xs.getD (j * sz + q) undef)) (hg : ∀ (j q : Nat) d, j < km → (g j)[q]? = some d → RepD w U d (news.getD (j * sz + q) undef)) :
    (∀ j, j < k + km → (appF k f g j).length = sz) ∧ ∀ (j q : Nat) d, j < k + km → (appF k f g j)[q]? = some d → RepD w U d (cur.getD (j * sz + q) undef) := by
  have hlen : ∀ j, j < k + km → (appF k f g j).length = sz := fun j hj => by
    unfold appF
    split
    · rename_i h; exact hf0 j h
    · exact hg0 _ (by omega)
  refine ⟨hlen, fun j q d hj hd => ?_⟩
  have hq : q < sz := by rw [← hlen j hj]; exact (List.getElem?_eq_some_iff.1 hd).1
  have hlt : j * sz + q < (k + km) * sz := row_lt hj (Nat.le_refl _) hq
  have hget : cur.getD (j * sz + q) undef = (xs ++ news).getD (j * sz + q) undef := by
    rw [← hc]
    simp [List.getD_eq_getElem?_getD, hlt]
  rw [hget]
  unfold appF at hd
  split at hd
  · rename_i h
    have hlt2 : j * sz + q < xs.length := by rw [hxs]; exact row_lt h (Nat.le_refl _) hq
    rw [List.getD_eq_getElem?_getD, List.getElem?_append_left hlt2, ← List.getD_eq_getElem?_getD]
    exact hf j q d h hd
  · rename_i h
    have hge : xs.length ≤ j * sz + q := by
      rw [hxs]
      have := Nat.mul_le_mul_right sz (show k ≤ j by omega)
      omega
    rw [List.getD_eq_getElem?_getD, List.getElem?_append_right hge, ← List.getD_eq_getElem?_getD]
    have he : j * sz + q - xs.length = (j - k) * sz + q := by
      rw [hxs, Nat.sub_mul]
      have := Nat.mul_le_mul_right sz (show k ≤ j by omega)
      omega
    rw [he]
    exact hg (j - k) q d (by omega) hd

theorem evAppend_new (hT : TabOK Γ.P tab) (h : RR Γ U μ (lk st.t) (lk st.m) a w) {t e ty : Nat} {te : TI} (hE : Ent Γ.P e te) (hsl : Γ.P.underlying t = some (.slice e)) (hpos : 0 < te.sz) (hby : 0 < te.bytes) {n : Nm} (hn : lk st.m n = none) {v u : Value} (hv : ∃ A, v = .slice A 0 0)
    {y : T} (hy : RepT w U μ (lk st.m) y u) {p : Prop} {km : Nat} {g : Nat → List D} {ns rd : List Nm} (hs : srcOf st.m te.sz y = some (p, km, g, ns)) (hp : p) (hb : km * te.bytes ≤ 140737488355328) :
    Good Γ st a ⟨some (.c (.row n km)), [(n, .row false e te.sz km g)], rd⟩ ((Builtin.append_ #[t, t] ty #[v, u]).run Γ.P w) := by
  obtain ⟨A, c, news, rfl, s1, s2, s3, s4, s5⟩ := srcOf_rep h hy hs hp
  obtain ⟨A0, rfl⟩ := hv
  obtain ⟨v', w', y', r1, r2, r3, r4, r5, r6, r7, r8, r9, r10⟩ := append_any (w := w) (ty := ty) hE hsl hpos hby (y0 := none) (k := 0) (km := km) (v := .slice A0 0 0) ⟨rfl, A0, rfl⟩ (xs := []) (by simp) (.inl ⟨rfl, rfl⟩) s1 s2 s3 (by simpa using hb)
  have hold : ∀ i, i < w.heap.size → w'.heap[i]? = w.heap[i]? := fun i hi => r7 i hi (fun c => by simp)
  have hs' : UStep w U w' U := ⟨fun _ hk => hk, fun k hk => hold k (h.ulim k hk).1⟩
  have key := h.add (w' := w') hn (.row false e te.sz km g) y' r3 r4 r5 r6 hold (fun g' c' hg' => by
    rcases r8 g' c' hg' with ⟨c2, hc2⟩ | hlt
    · cases hc2
    · exact hlt) ?_
  · refine ⟨v', w', U, _, r1, by simp only [List.cons_append, List.nil_append]; rw [lk_cons_upd]; exact key, fun x hx => ?_⟩
    injection hx with hx
    subst hx
    simp only [List.cons_append, List.nil_append]
    rw [lk_cons_upd]
    have hone : v'.oneCell' = true := by
      cases y' with
      | none => obtain ⟨_, A2, rfl⟩ := r2; rfl
      | some gc => obtain ⟨g2, c2⟩ := gc; have r2 : v' = _ := r2; subst r2; rfl
    exact .c (.row false e te.sz km g (by simp) (Nat.le_refl _) hone fun _ => by simpa using r2)
  · refine ⟨s4, ?_⟩
    rcases r9 with ⟨q1, q2⟩ | ⟨g', cap, cur, q1, q2, q3, q4, q5, q6⟩
    · exact .inl ⟨by simp [q1], by omega⟩
    · have hg' : w.heap.size ≤ g' := by
        rcases r8 g' cap q1 with ⟨c2, hc2⟩ | hlt
        · cases hc2
        · exact hlt
      have hac := app_cells (w := w) (U := U) (sz := te.sz) (k := 0) (km := km) (f := fun _ => []) (g := g) (xs := []) (news := news) (cur := cur) (by simp) q6 s1 (fun j hj => by omega) s4 (fun j q d hj => by omega) s5
      refine .inr ⟨g', cap, cur, by simp [q1], q2, q3, by omega, q5, fun j q d hj hd => (hac.2 j q d (by omega) (by simpa [appF] using hd)).mono hs', fun hz => ?_, (fun e => by cases e), fun _ hu => ?_⟩
      · have := h.zlim _ hz; have := h.pres.size; omega
      · have := (h.ulim _ hu).1; omega

theorem evAppend_good (hT : TabOK Γ.P tab) (h : RR Γ U μ (lk st.t) (lk st.m) a w) {dst : Option Nat} {t ty : Nat} {x y : T} {v u : Value} (hx : RepT w U μ (lk st.m) x v) (hy : RepT w U μ (lk st.m) y u) {p : Prop} {e : Eff} (he : evAppend tab st dst t x y = some (p, e)) (hp : p) :
    Good Γ st a e ((Builtin.append_ #[t, t] ty #[v, u]).run Γ.P w) := by
  unfold evAppend at he
  split at he
  case h_2 => cases he
  rename_i d ti hti
  split at he
  case h_2 => cases he
  rename_i e0 hk
  split at he
  case h_2 => cases he
  rename_i te hte
  split at he
  case isFalse => cases he
  rename_i hpos
  split at he
  case h_2 => cases he
  rename_i pp km g ns hs
  have hE := hT e0 te hte
  have hsl := (hT t ti hti).slice hk
  split at he
  · rename_i n len
    split at he
    case h_2 => cases he
    rename_i ty0 sz k f hn
    split at he
    case isFalse => cases he
    rename_i heq
    obtain ⟨rfl, rfl⟩ := heq
    simp only [Option.some.injEq, Prod.mk.injEq] at he
    obtain ⟨rfl, rfl⟩ := he
    obtain ⟨hp1, hp2, hp3⟩ := hp
    obtain ⟨A, c, news, rfl, s1, s2, s3, s4, s5⟩ := srcOf_rep h hy hs hp1
    cases hx with
    | c hx =>
      cases hx with
      | row ice' ty' sz' k' f' hn' hk' h1 hv =>
        rw [hn] at hn'
        injection hn' with hn'
        injection hn' with e1 e2 e3 e4 e5
        subst e2 e3 e4 e5
        have hv := hv hp2
        obtain ⟨h0, ho⟩ := h.mem.ok n _ hn
        have hy0 : ∃ xs : List Value, xs.length = k * te.sz ∧ ((μ n = none ∧ k = 0) ∨ ∃ g cap cur, μ n = some (g, cap) ∧ w.heap[g]? = some (.cells cur ty0 (0, 0)) ∧ cur.size = cap * te.sz ∧ k ≤ cap ∧ cap ≤ maxLen ∧ cur.toList.take (k * te.sz) = xs) ∧ ∀ (j q : Nat) d, j < k → (f j)[q]? = some d → RepD w U d (xs.getD (j * te.sz + q) undef) := by
          rcases ho with ⟨g1, g2⟩ | ⟨g, cap, cur, g1, g2, g3, g4, g5, g6, g7, g8, g9⟩
          · exact ⟨[], by simp [g2], .inl ⟨g1, g2⟩, fun j q d hj => by omega⟩
          · have hle : k * te.sz ≤ cur.size := by rw [g3]; exact Nat.mul_le_mul_right _ g4
            refine ⟨cur.toList.take (k * te.sz), by simp; omega, .inr ⟨g, cap, cur, g1, g2, g3, g4, g5, rfl⟩, fun j q d hj hd => ?_⟩
            have hq : q < te.sz := by rw [← h0 j hj]; exact (List.getElem?_eq_some_iff.1 hd).1
            have hlt : j * te.sz + q < k * te.sz := row_lt hj (Nat.le_refl _) hq
            have := g6 j q d hj hd
            simpa [List.getD_eq_getElem?_getD, List.getElem?_take, hlt] using this
        obtain ⟨xs, x1, x2, x3⟩ := hy0
        have hnU : ∀ g c, μ n = some (g, c) → ¬ U g := fun g c hg => by
          rcases ho with ⟨g1, g2⟩ | ⟨g', cap, cur, g1, g2, g3, g4, g5, g6, g7, g8, g9⟩
          · rw [g1] at hg; cases hg
          · rw [g1] at hg; injection hg with hg; injection hg with hg _; subst hg; exact g9 rfl
        obtain ⟨v', w', y', r1, r2, r3, r4, r5, r6, r7, r8, r9, r10⟩ := append_any (w := w) (ty := ty) hE hsl hpos.1 hpos.2 (y0 := μ n) (k := k) (km := km) hv x1 x2 s1 s2 s3 hp3
        have hs' : UStep w U w' U := ⟨fun _ hk => hk, fun i hi => r7 i (h.ulim i hi).1 fun c hc => hnU i c hc hi⟩
        have hm : MStep (lk st.m) μ (upd (lk st.m) n (.row false ty0 te.sz (k + km) (appF k f g))) (fun i => if n = i then y' else μ i) := by
          refine ⟨fun i ice ty sz q f' hi => ?_, fun i ice bs hi => ?_, fun i ka va f' hi => ?_⟩
          all_goals
            by_cases e : n = i
            · subst e
              rw [hn] at hi
              first
                | (injection hi with hi; injection hi with e1 e2 e3 e4 e5; subst e1 e2 e3 e4; exact ⟨false, _, _, by rw [upd_same], by omega, fun e => by simp [r10 (by omega)]⟩)
                | (cases hi; done)
            · rw [upd_ne _ _ e]
              first
                | exact ⟨ice, q, f', hi, Nat.le_refl _, fun _ => by simp [e]⟩
                | exact ⟨ice, bs, hi, by simp [e]⟩
                | exact ⟨f', hi, by simp [e]⟩
        have key := h.change (w' := w') hn (.row false ty0 te.sz (k + km) (appF k f g)) y' r3 r4 r5 r6 hnU r7 r8 hm ?_
        · refine ⟨v', w', U, _, r1, by simp only [List.cons_append, List.nil_append]; rw [lk_cons_upd]; exact key, fun x hx => ?_⟩
          injection hx with hx
          subst hx
          simp only [List.cons_append, List.nil_append]
          rw [lk_cons_upd]
          have hone : v'.oneCell' = true := by
            cases y' with
            | none => obtain ⟨_, A2, rfl⟩ := r2; rfl
            | some gc => obtain ⟨g2, c2⟩ := gc; have r2 : v' = _ := r2; subst r2; rfl
          exact .c (.row false ty0 te.sz (k + km) _ (by rw [upd_same]) (Nat.le_refl _) hone fun _ => by simpa using r2)
        · rcases r9 with ⟨q1, q2⟩ | ⟨g', cap, cur, q1, q2, q3, q4, q5, q6⟩
          · exact ⟨fun j hj => by omega, .inl ⟨by simp [q1], q2⟩⟩
          · have hac := app_cells (w := w) (U := U) x1 q6 s1 h0 s4 x3 s5
            refine ⟨hac.1, .inr ⟨g', cap, cur, by simp [q1], q2, q3, q4, q5, fun j q d hj hd => (hac.2 j q d hj hd).mono hs', fun hz => ?_, (fun e => by cases e), fun _ hu => ?_⟩⟩
            · rcases r8 g' cap q1 with ⟨c2, hc2⟩ | hlt
              · exact (h.mem.ok n _ hn).notZ hc2 hz
              · have := h.zlim _ hz; have := h.pres.size; omega
            · rcases r8 g' cap q1 with ⟨c2, hc2⟩ | hlt
              · exact hnU g' c2 hc2 hu
              · have := (h.ulim _ hu).1; omega
  · split at he
    case h_2 => cases he
    rename_i hn
    simp only [Option.some.injEq, Prod.mk.injEq] at he
    obtain ⟨rfl, rfl⟩ := he
    refine evAppend_new hT h hE hsl hpos.1 hpos.2 hn ?_ hy hs hp.1 hp.2
    cases hx with
    | c hx => cases hx with
      | d hx => cases hx with
        | s v h1 => exact ⟨none, rfl⟩
  · split at he
    case h_2 => cases he
    rename_i hn
    simp only [Option.some.injEq, Prod.mk.injEq] at he
    obtain ⟨rfl, rfl⟩ := he
    refine evAppend_new hT h hE hsl hpos.1 hpos.2 hn ?_ hy hs hp.1 hp.2
    cases hx with
    | c hx => cases hx with
      | z ad => exact ⟨ad, rfl⟩
  · cases he
end
end Go.V

/- V10: make, slices of slices, numbers, lengths. -/
set_option linter.unusedVariables false
namespace Go.V

abbrev tI (k : IntKind) (n : Int) : T := .c (.d (.s (.int k n)))
abbrev tB (b : Bool) : T := .c (.d (.s (.bool b)))

section
variable {Γ : Ctx} {U : Nat → Prop} {μ : Mu} {m : Mem} {st : St} {a : Act} {w : World} {tab : Tab}

theorem tI_rep (k : IntKind) (n : Int) : RepT w U μ m (tI k n) (.int k n) := .c (.d (.s _ rfl))
theorem tB_rep (b : Bool) : RepT w U μ m (tB b) (.bool b) := .c (.d (.s _ rfl))

def evMake (tab : Tab) (st : St) (dst : Option Nat) (t : Nat) (x y : T) : Option (Prop × Eff) :=
  match dst, lk tab t, asI x, asI y with
  | some d, some ti, some (_, l), some (_, c) => match ti.k with
    | .slice e => match lk tab e, lk st.m (nm d 0) with
      | some te, none => some (0 ≤ l ∧ l ≤ c ∧ c ≤ 140737488355328 ∧ (te.bytes : Int) * c ≤ 140737488355328, ⟨some (.c (.row (nm d 0) l.toNat)), [(nm d 0, .row false e te.sz l.toNat fun _ => te.zero.map .s)], [nm d 0]⟩)
      | _, _ => none
    | _ => none
  | _, _, _, _ => none

theorem evMake_good (hT : TabOK Γ.P tab) (h : RR Γ U μ (lk st.t) (lk st.m) a w) {dst : Option Nat} {t : Nat} {x y : T} {v u : Value} (hx : RepT w U μ (lk st.m) x v) (hy : RepT w U μ (lk st.m) y u) {p : Prop} {e : Eff} (he : evMake tab st dst t x y = some (p, e)) (hp : p) :
    Good Γ st a e ((Instr.makeSlice t v u).run Γ.P w) := by
  unfold evMake at he
  split at he
  case h_2 => cases he
  rename_i d ti kl l kc c hti hl hc
  have hv := asI_rep hx hl
  have hu := asI_rep hy hc
  subst hv hu
  split at he
  case h_2 => cases he
  rename_i e0 hk
  split at he
  case h_2 => cases he
  rename_i te hte hn
  simp only [Option.some.injEq, Prod.mk.injEq] at he
  obtain ⟨rfl, rfl⟩ := he
  obtain ⟨h0, hlc, hc1, hc2⟩ := hp
  have hE := hT e0 te hte
  obtain ⟨i, z, hi, hz, hsz, hbz, hzs, hzc⟩ := hE.row
  have hrun := run_make (P := Γ.P) w t e0 i z ((hT t ti hti).slice hk) hi hz kl kc l c h0 hlc (by rw [hbz]; omega) (by omega)
  have hF := zeros_flat (w := w) (U := U) hE hzc c.toNat
  obtain ⟨F1, F2, F3⟩ := hF
  have hget : ∀ j, j < l.toNat → (List.replicate c.toNat (te.zero.map D.s))[j]? = some (te.zero.map D.s) := fun j hj => by rw [List.getElem?_replicate, if_pos (by omega)]
  obtain ⟨μ', g1, g2⟩ := h.newRow hn (ty := e0) (sz := te.sz) (k := l.toNat) (cap := c.toNat) (f := fun _ => te.zero.map D.s) (cur := madeCells z.cells (c.toNat * i.size)) (fun j hj => by simp [hE.zs]) (by rw [size_madeCells, hsz]) (by omega) (by simp only [maxLen]; omega) (fun j q dd hj hd => by
    have := F3 j q _ dd (hget j hj) hd
    rw [hsz]
    exact this)
  refine ⟨_, _, U, μ', hrun, by simp only [List.cons_append, List.nil_append]; rw [lk_cons_upd]; exact g1, fun x hx => ?_⟩
  injection hx with hx
  subst hx
  simp only [List.cons_append, List.nil_append]
  rw [lk_cons_upd]
  exact .c (.row false e0 te.sz l.toNat (fun _ => te.zero.map D.s) (by simp) (Nat.le_refl _) rfl fun _ => by rw [g2]; rfl)

/-! ### Slices of slices -/
def bnd (x : Option T) (n : Nat) : Option Int := match x with
  | none => some n
  | some y => (asI y).map (·.2)

def evSlice (tab : Tab) (st : St) (t : Nat) (x : T) (lo hi mx : Option T) : Option (Prop × Eff) :=
  match lk tab t with
  | some ti => match ti.k, mx with
    | .str, none => match x with
      | .c (.d (.s (.string b))) => match bnd lo 0, bnd hi b.size with
        | some l, some h => some (0 ≤ l ∧ l ≤ h ∧ h ≤ b.size, ⟨some (.c (.d (.s (.string (b.extract l.toNat h.toNat))))), [], []⟩)
        | _, _ => none
      | _ => none
    | .slice e, none => match lk tab e with
      | some te => match x with
        | .c (.row n len) => match lk st.m n with
          | some (.row _ _ sz k f) => if sz = te.sz then match bnd lo 0, bnd hi k with
            | some l, some h => some ((0 ≤ l ∧ l ≤ h ∧ h ≤ k) ∧ len = k, ⟨some (.c (.d (.l (h.toNat - l.toNat) fun j => f (l.toNat + j)))), iceUp st.m [n], [n]⟩)
            | _, _ => none
            else none
          | _ => none
        | .c (.d (.l n f)) => match bnd lo 0, bnd hi n with
          | some l, some h => some ((0 ≤ l ∧ l ≤ h ∧ h ≤ n) ∧ ∀ j, j < n → (f j).length = te.sz, ⟨some (.c (.d (.l (h.toNat - l.toNat) fun j => f (l.toNat + j)))), [], []⟩)
          | _, _ => none
        | .c (.d (.s (.slice none 0 0))) => match bnd lo 0, bnd hi 0 with
          | some l, some h => some (l = 0 ∧ h = 0, ⟨some x, [], []⟩)
          | _, _ => none
        | _ => none
      | none => none
    | .slice e, some m => match asI m, lo, hi with
      | some (_, 0), none, some h => match asI h, lk tab e with
        | some (_, 0), some _ => match x with
          | .c (.row n len) => match lk st.m n with
            | some (.row _ _ _ k _) => some (len = k, ⟨some (.c .z), [], [n]⟩)
            | _ => none
          | .c (.d (.l _ _)) => some (True, ⟨some (.c .z), [], []⟩)
          | .c (.d (.s (.slice none 0 0))) => some (True, ⟨some (.c .z), [], []⟩)
          | .c .z => some (True, ⟨some (.c .z), [], []⟩)
          | _ => none
        | _, _ => none
      | _, _, _ => none
    | _, _ => none
  | none => none

theorem add_add' (ad : Addr) (x y : Nat) : (ad.add x).add y = ad.add (x + y) := by
  unfold Addr.add
  by_cases h0 : x = 0 <;> by_cases h1 : y = 0 <;> simp [h0, h1, Nat.add_assoc]

/-- The bounds' values. -/
def BndRep (w : World) (U : Nat → Prop) (μ : Mu) (m : Mem) (x : Option T) (v : Option Value) : Prop :=
  match x, v with
  | none, none => True
  | some y, some u => RepT w U μ m y u
  | _, _ => False

theorem bounds_run {isS : Bool} {len cap : Nat} {lo hi : Option T} {vlo vhi : Option Value} (hlo : BndRep w U μ m lo vlo) (hhi : BndRep w U μ m hi vhi) {l h : Int} (hl : bnd lo 0 = some l) (hh : bnd hi len = some h) (hlc : len ≤ cap) (h1 : 0 ≤ l ∧ l ≤ h ∧ h ≤ len) :
    (Instr.sliceBounds isS len cap vlo vhi none).run Γ.P w = .ok (l.toNat, h.toNat, cap) w := by
  have e1 : (vhi = none ∧ h = len) ∨ ∃ k, vhi = some (.int k h) := by
    cases hi with
    | none =>
      cases vhi with
      | none => simp only [bnd, Option.some.injEq] at hh; exact .inl ⟨rfl, hh.symm⟩
      | some v => exact hhi.elim
    | some y =>
      cases vhi with
      | none => exact hhi.elim
      | some v =>
        simp only [bnd] at hh
        obtain ⟨⟨k, n⟩, hk, rfl⟩ := Option.map_eq_some_iff.1 hh
        exact .inr ⟨k, by rw [asI_rep hhi hk]⟩
  have e2 : (vlo = none ∧ l = 0) ∨ ∃ k, vlo = some (.int k l) := by
    cases lo with
    | none =>
      cases vlo with
      | none => simp only [bnd, Option.some.injEq] at hl; exact .inl ⟨rfl, hl.symm⟩
      | some v => exact hlo.elim
    | some y =>
      cases vlo with
      | none => exact hlo.elim
      | some v =>
        simp only [bnd] at hl
        obtain ⟨⟨k, n⟩, hk, rfl⟩ := Option.map_eq_some_iff.1 hl
        exact .inr ⟨k, by rw [asI_rep hlo hk]⟩
  have eh : (h.toNat : Int) = h := Int.toNat_of_nonneg (by omega)
  have b1 : h ≤ (cap : Int) := by omega
  have b2 : (0 : Int) ≤ h := by omega
  rcases e1 with ⟨rfl, rfl⟩ | ⟨kh, rfl⟩ <;> rcases e2 with ⟨rfl, rfl⟩ | ⟨kl, rfl⟩
  · simp [Instr.sliceBounds]
  · simp [Instr.sliceBounds, Instr.sliceBound, asIntOf, h1]
  · simp [Instr.sliceBounds, Instr.sliceBound, asIntOf, b1, b2]
  · simp [Instr.sliceBounds, Instr.sliceBound, asIntOf, b1, b2, h1, eh]

theorem sub_rep {ao : Option Addr} {n cap : Nat} {f : Nat → List D} {sz l h : Nat} (hr : RepD w U (.l n f) (.slice ao n cap)) (hsz : ∀ j, j < n → (f j).length = sz) (hlh : l ≤ h) (hhn : h ≤ n) :
    RepD w U (.l (h - l) fun j => f (l + j)) (.slice (if cap = l then ao else ao.map (·.add (l * sz))) (h - l) (cap - l)) := by
  cases hr with
  | l _ _ _ _ sz' vals hnc hcm hs ha hv =>
    refine .l _ _ _ _ sz (fun j q => vals (l + j) q) (by omega) (by omega) (fun j hj => hsz _ (by omega)) (fun h0 => ?_) fun j q d hj hd => hv _ _ d (by omega) hd
    obtain ⟨ad, rfl, hU, hc⟩ := ha (by omega)
    have hszeq : sz' = sz := by rw [← hs l (by omega), hsz l (by omega)]
    subst hszeq
    have hb : ∀ o, (ad.add o).block = ad.block := fun o => by unfold Addr.add; split <;> rfl
    refine ⟨ad.add (l * sz'), by rw [if_neg (by omega)]; rfl, by rw [hb]; exact hU, fun j q hj hq => ?_⟩
    have he : (ad.add (l * sz')).add (j * sz' + q) = ad.add ((l + j) * sz' + q) := by
      rw [add_add', Nat.add_mul, Nat.add_assoc]
    rw [he]
    exact hc _ _ (by omega) hq

theorem evSlice_good (hT : TabOK Γ.P tab) (h : RR Γ U μ (lk st.t) (lk st.m) a w) {t : Nat} {x : T} {v : Value} {lo hi mx : Option T} {vlo vhi vmx : Option Value} (hx : RepT w U μ (lk st.m) x v)
    (hlo : BndRep w U μ (lk st.m) lo vlo) (hhi : BndRep w U μ (lk st.m) hi vhi) (hmx : BndRep w U μ (lk st.m) mx vmx) {p : Prop} {e : Eff} (he : evSlice tab st t x lo hi mx = some (p, e)) (hp : p) :
    Good Γ st a e ((Instr.sliceAt t v vlo vhi vmx).run Γ.P w) := by
  unfold evSlice at he
  split at he
  case h_2 => cases he
  rename_i ti hti
  have hE := hT t ti hti
  split at he
  · -- a string
    rename_i hk
    have hvm : vmx = none := by cases vmx with
      | none => rfl
      | some v => exact hmx.elim
    subst hvm
    have hund : Γ.P.underlying t = some .string := by
      obtain ⟨d, h1, h2⟩ := hE.desc
      rw [hk] at h2
      cases d <;> simp [kindOf] at h2
      exact h1
    split at he
    case h_2 => cases he
    rename_i b
    split at he
    case h_2 => cases he
    rename_i l h' hl hh
    simp only [Option.some.injEq, Prod.mk.injEq] at he
    obtain ⟨rfl, rfl⟩ := he
    cases hx with
    | c hx => cases hx with
      | d hx => cases hx with
        | s v h1 =>
          have hb := bounds_run (isS := false) (Γ := Γ) hlo hhi hl hh (Nat.le_refl _) hp
          refine Good.pure h (.c (.d (.s _ rfl))) ?_
          simp [Instr.sliceAt, underlying, hund, Instr.slice, hb]
  · rename_i e0 hk
    have hvm : vmx = none := by cases vmx with
      | none => rfl
      | some v => exact hmx.elim
    subst hvm
    have hund := hE.slice hk
    split at he
    case h_2 => cases he
    rename_i te hte
    have hsz := (hT e0 te hte).size w
    split at he
    · rename_i n len
      split at he
      case h_2 => cases he
      rename_i ice ty sz k f hn
      split at he
      case isFalse => cases he
      rename_i hszeq
      subst hszeq
      split at he
      case h_2 => cases he
      rename_i l h' hl hh
      simp only [Option.some.injEq, Prod.mk.injEq] at he
      obtain ⟨rfl, rfl⟩ := he
      obtain ⟨hb1, hlen⟩ := hp
      cases hx with
      | c hx => cases hx with
        | row ice' ty' sz' k' f' hn' hk' h1 hv =>
          rw [hn] at hn'
          injection hn' with hn'
          injection hn' with e1 e2 e3 e4 e5
          subst e1 e2 e3 e4 e5
          have hv := hv hlen
          obtain ⟨U1, g1, gu1, gi1⟩ := h.iceAll [n]
          have hn1 : ∃ ice2, lk (iceUp st.m [n] ++ st.m) n = some (.row ice2 ty te.sz k f) := by
            rcases lk_iceUp st.m [n] n with e | ⟨o, ho, e⟩
            · exact ⟨ice, e.trans hn⟩
            · rw [hn] at ho; injection ho with ho; subst ho; exact ⟨true, e⟩
          obtain ⟨ice2, hn1⟩ := hn1
          have hrep := rowIs_rep (g1.mem.ok n _ hn1) (fun g c hg => gi1 n (by simp) _ hn (fun _ _ _ => by simp) g c hg) hv
          have h0 := (h.mem.ok n _ hn).1
          obtain ⟨ao, cap, rfl, hkc⟩ : ∃ ao cap, v = .slice ao k cap ∧ k ≤ cap := by
            cases hrep with
            | l _ _ a cap sz vals hnc => exact ⟨a, cap, rfl, hnc⟩
          have hbr := bounds_run (isS := true) (Γ := Γ) hlo hhi hl hh hkc hb1
          refine ⟨.slice (if cap = l.toNat then ao else ao.map (·.add (l.toNat * te.sz))) (h'.toNat - l.toNat) (cap - l.toNat), w, U1, μ, ?_, g1, fun y hy => ?_⟩
          · simp [Instr.sliceAt, underlying, hund, Instr.slice, hbr, hsz]
          · injection hy with hy
            subst hy
            exact .c (.d (sub_rep hrep h0 (by omega) (by omega)))
    · rename_i n f
      split at he
      case h_2 => cases he
      rename_i l h' hl hh
      simp only [Option.some.injEq, Prod.mk.injEq] at he
      obtain ⟨rfl, rfl⟩ := he
      obtain ⟨hb1, hlen⟩ := hp
      cases hx with
      | c hx => cases hx with
        | d hx =>
          obtain ⟨ao, cap, rfl, hkc⟩ : ∃ ao cap, v = .slice ao n cap ∧ n ≤ cap := by
            cases hx with
            | l _ _ a cap sz vals hnc => exact ⟨a, cap, rfl, hnc⟩
          have hbr := bounds_run (isS := true) (Γ := Γ) hlo hhi hl hh hkc hb1
          refine Good.pure h (.c (.d (sub_rep hx hlen (by omega) (by omega)))) ?_
          simp [Instr.sliceAt, underlying, hund, Instr.slice, hbr, hsz]
    · split at he
      case h_2 => cases he
      rename_i l h' hl hh
      simp only [Option.some.injEq, Prod.mk.injEq] at he
      obtain ⟨rfl, rfl⟩ := he
      obtain ⟨rfl, rfl⟩ := hp
      cases hx with
      | c hx => cases hx with
        | d hx => cases hx with
          | s v h1 =>
            have hbr := bounds_run (isS := true) (Γ := Γ) (len := 0) (cap := 0) hlo hhi hl hh (Nat.le_refl _) ⟨by omega, by omega, by omega⟩
            refine Good.pure h (.c (.d (.s _ rfl))) ?_
            simp [Instr.sliceAt, underlying, hund, Instr.slice, hbr, hsz]
    · cases he
  · rename_i e0 m hk
    have hund := hE.slice hk
    split at he
    case h_2 => cases he
    rename_i km hT0 hm0
    split at he
    case h_2 => cases he
    rename_i kh te hh hte
    have hsz := (hT e0 te hte).size w
    have hvlo : vlo = none := by cases vlo with
      | none => rfl
      | some v => exact hlo.elim
    subst hvlo
    obtain ⟨uh, rfl⟩ : ∃ uh, vhi = some uh := by cases vhi with
      | none => exact hhi.elim
      | some v => exact ⟨v, rfl⟩
    obtain ⟨um, rfl⟩ : ∃ um, vmx = some um := by cases vmx with
      | none => exact hmx.elim
      | some v => exact ⟨v, rfl⟩
    have r1 := asI_rep hhi hh
    have r2 := asI_rep hmx hm0
    subst r1 r2
    have hrun : ∀ (ao : Option Addr) (n cap : Nat), (Instr.sliceAt t (.slice ao n cap) none (some (.int kh 0)) (some (.int km 0))).run Γ.P w = .ok (.slice ao 0 0) w := fun ao n cap => by
      simp [Instr.sliceAt, underlying, hund, Instr.slice, Instr.sliceBounds, Instr.sliceBound, asIntOf, hsz]
    split at he
    · rename_i n len
      split at he
      case h_2 => cases he
      rename_i ice ty sz k f hn
      simp only [Option.some.injEq, Prod.mk.injEq] at he
      obtain ⟨rfl, rfl⟩ := he
      have hlen : len = k := hp
      cases hx with
      | c hx => cases hx with
        | row ice' ty' sz' k' f' hn' hk' h1 hv =>
          rw [hn] at hn'
          injection hn' with hn'
          injection hn' with e1 e2 e3 e4 e5
          subst e4
          have hv := hv hlen
          obtain ⟨ao, cap, rfl⟩ : ∃ ao cap, v = .slice ao k cap := by
            cases hμ : μ n with
            | none => rw [hμ] at hv; obtain ⟨h2, a, rfl⟩ := hv; exact ⟨a, 0, by rw [h2]⟩
            | some gc => obtain ⟨g, c⟩ := gc; rw [hμ] at hv; exact ⟨_, c, hv⟩
          exact Good.pure h (.c (.z ao)) (hrun ao k cap)
    · simp only [Option.some.injEq, Prod.mk.injEq] at he
      obtain ⟨rfl, rfl⟩ := he
      cases hx with
      | c hx => cases hx with
        | d hx => cases hx with
          | l _ _ a cap sz vals hnc => exact Good.pure h (.c (.z a)) (hrun a _ cap)
    · simp only [Option.some.injEq, Prod.mk.injEq] at he
      obtain ⟨rfl, rfl⟩ := he
      cases hx with
      | c hx => cases hx with
        | d hx => cases hx with
          | s v h1 => exact Good.pure h (.c (.z none)) (hrun none 0 0)
    · simp only [Option.some.injEq, Prod.mk.injEq] at he
      obtain ⟨rfl, rfl⟩ := he
      cases hx with
      | c hx => cases hx with
        | z ad => exact Good.pure h (.c (.z ad)) (hrun ad 0 0)
    · cases he
  · cases he
end
end Go.V

/- V11: numbers, truth values, lengths, functions as values. -/
set_option linter.unusedVariables false
namespace Go.V

def shlV (k : IntKind) (x y : Int) : Int := k.wrap (x * 2 ^ (min y.toNat k.bits))
def shrV (k : IntKind) (x y : Int) : Int := x.fdiv (2 ^ (min y.toNat k.bits))
def andV (k : IntKind) (x y : Int) : Int := k.wrap ((BitVec.ofInt k.bits x &&& BitVec.ofInt k.bits y).toNat : Int)
def orV (k : IntKind) (x y : Int) : Int := k.wrap ((BitVec.ofInt k.bits x ||| BitVec.ofInt k.bits y).toNat : Int)
def xorV (k : IntKind) (x y : Int) : Int := k.wrap ((BitVec.ofInt k.bits x ^^^ BitVec.ofInt k.bits y).toNat : Int)

def binI (op : BinOp) (k : IntKind) (x y : Int) : Option (Prop × T) :=
  match op with
  | .add => some (True, tI k (k.wrap (x + y)))
  | .sub => some (True, tI k (k.wrap (x - y)))
  | .mul => some (True, tI k (k.wrap (x * y)))
  | .quo => some (y ≠ 0, tI k (k.wrap (x.tdiv y)))
  | .rem => some (y ≠ 0, tI k (x.tmod y))
  | .and => some (True, tI k (andV k x y))
  | .or => some (True, tI k (orV k x y))
  | .xor => some (True, tI k (xorV k x y))
  | .eql => some (True, tB (x == y))
  | .neq => some (True, tB (x != y))
  | .lss => some (True, tB (decide (x < y)))
  | .leq => some (True, tB (decide (x ≤ y)))
  | .gtr => some (True, tB (decide (x > y)))
  | .geq => some (True, tB (decide (x ≥ y)))
  | _ => none

/-- The kinds of cells of a type that is compared. -/
inductive SK where
  | int (k : IntKind) | bool
  deriving DecidableEq

def skEq : List SK → List C → List C → Option Bool
  | [], [], [] => some true
  | .int k :: r, .d (.s (.int k1 x)) :: xs, .d (.s (.int k2 y)) :: ys => if k1 = k ∧ k2 = k then (skEq r xs ys).map fun b => x == y && b else none
  | .bool :: r, .d (.s (.bool x)) :: xs, .d (.s (.bool y)) :: ys => (skEq r xs ys).map fun b => x == y && b
  | _, _, _ => none

def SK.fits : SK → Value → Prop
  | .int k, v => ∃ n, v = .int k n
  | .bool, v => ∃ b, v = .bool b

/-- Equality of plain cells. -/
def plainEq : Value → Value → Bool
  | .int _ x, .int _ y => x == y
  | .bool x, .bool y => x == y
  | _, _ => false

/-- Two values of a type are compared cell by cell. -/
def EqEnt (P : Program) (t : Nat) (sk : List SK) : Prop :=
  ∀ (w : World) (xs ys : List Value), xs.length = sk.length → ys.length = sk.length → (∀ (i : Nat) s v, sk[i]? = some s → xs[i]? = some v → s.fits v) → (∀ (i : Nat) s v, sk[i]? = some s → ys[i]? = some v → s.fits v) → ∀ x y : Operand,
    (do eqGuard .eql t x y (.agg xs.toArray) (.agg ys.toArray); binOp .eql t (.agg xs.toArray) (.agg ys.toArray) : Sem Value).run P w = .ok (.bool ((xs.zip ys).all fun p => plainEq p.1 p.2)) w ∧
    (do eqGuard .neq t x y (.agg xs.toArray) (.agg ys.toArray); binOp .neq t (.agg xs.toArray) (.agg ys.toArray) : Sem Value).run P w = .ok (.bool (!((xs.zip ys).all fun p => plainEq p.1 p.2))) w

/-- Where a key stands: its place, or the number of entries. -/
def aix : List (List Int × Value) → List Int → Nat
  | [], _ => 0
  | p :: r, x => if p.1 = x then 0 else aix r x + 1
def aget (l : List (List Int × Value)) (x : List Int) : Option Value := (l[aix l x]?).map (·.2)

/-- What is known of a type of keys. -/
structure KeyLaw (P : Program) (k kn : Nat) (ag : Bool) : Prop where
  check : ∀ (w : World) (em : Bool) (x : List Int), x.length = kn → (Instr.checkKey em 10000 k (keyV ag x)).run P w = .ok () w
  find : ∀ (w : World) (x : List Int), x.length = kn → ∀ l : List (List Int × Value), (∀ p ∈ l, p.1.length = kn) → (Instr.findKey k (keyV ag x) (ents ag 0 l)).run P w = .ok ((aget l x).map fun v => (aix l x, v)) w

structure MK where
  kn : Nat
  ag : Bool
  zero : Value

def MapEnt (P : Program) (t : Nat) (mk : MK) : Prop :=
  ∃ k e, P.underlying t = some (.map k e) ∧ KeyLaw P k mk.kn mk.ag ∧ (∀ w : World, (zeroValue e).run P w = .ok mk.zero w) ∧ mk.zero.oneCell' = true

structure EqTab where
  e : List (Nat × List SK)
  k : List (Nat × MK)

structure EqOK (P : Program) (et : EqTab) : Prop where
  e : ∀ t sk, lk et.e t = some sk → EqEnt P t sk
  k : ∀ t mk, lk et.k t = some mk → MapEnt P t mk

def evBin (tab : Tab) (et : EqTab) (op : BinOp) (t : Nat) (x y : T) : Option (Prop × Eff) :=
  match asI x, asI y with
  | some (k, a), some (k', b) => match op with
    | .shl => some (0 ≤ b, ⟨some (tI k (shlV k a b)), [], []⟩)
    | .shr => some (0 ≤ b, ⟨some (tI k (shrV k a b)), [], []⟩)
    | op => if k = k' then (binI op k a b).map fun r => (r.1, ⟨some r.2, [], []⟩) else none
  | _, _ => match asB x, asB y with
    | some a, some b => match lk tab t with
      | some ti => match ti.k, op with
        | .bool, .eql => some (True, ⟨some (tB (a == b)), [], []⟩)
        | .bool, .neq => some (True, ⟨some (tB (!(a == b))), [], []⟩)
        | _, _ => none
      | none => none
    | _, _ => match x, y with
      | .agg xs, .agg ys => match lk et.e t with
        | some sk => match op with
          | .eql => (skEq sk xs ys).map fun b => (True, ⟨some (tB b), [], []⟩)
          | .neq => (skEq sk xs ys).map fun b => (True, ⟨some (tB (!b)), [], []⟩)
          | _ => none
        | none => none
      | .c (.d (.l n _)), .c (.d (.s (.slice none 0 0))) => match ((lk tab t).map fun ti => ti.k), op with
        | some (TK.slice _), .eql => some (0 < n, ⟨some (tB false), [], []⟩)
        | some (TK.slice _), .neq => some (0 < n, ⟨some (tB true), [], []⟩)
        | _, _ => none
      | .c (.d (.s (.slice a _ _))), .c (.d (.s (.slice none 0 0))) => match ((lk tab t).map fun ti => ti.k), op with
        | some (TK.slice _), .eql => some (True, ⟨some (tB a.isNone), [], []⟩)
        | some (TK.slice _), .neq => some (True, ⟨some (tB (!a.isNone)), [], []⟩)
        | _, _ => none
      | .c (.d (.s (.string a))), .c (.d (.s (.string b))) => match op with
        | .add => some (a.size + b.size ≤ 140737488355328, ⟨some (.c (.d (.s (.string (a ++ b))))), [], []⟩)
        | .eql => some (True, ⟨some (tB (a.toList == b.toList)), [], []⟩)
        | .neq => some (True, ⟨some (tB (!(a.toList == b.toList))), [], []⟩)
        | _ => none
      | _, _ => none

section
variable {Γ : Ctx} {U : Nat → Prop} {μ : Mu} {m : Mem} {st : St} {a : Act} {w : World} {tab : Tab}

theorem skEq_rep : ∀ {sk : List SK} {cs ds : List C} {b : Bool}, skEq sk cs ds = some b → ∀ {xs ys : List Value}, xs.length = cs.length → ys.length = ds.length → (∀ (i : Nat) c, cs[i]? = some c → RepC w U μ m c (xs.getD i undef)) → (∀ (i : Nat) c, ds[i]? = some c → RepC w U μ m c (ys.getD i undef)) →
    xs.length = sk.length ∧ ys.length = sk.length ∧ (∀ (i : Nat) s v, sk[i]? = some s → xs[i]? = some v → s.fits v) ∧ (∀ (i : Nat) s v, sk[i]? = some s → ys[i]? = some v → s.fits v) ∧ b = (xs.zip ys).all fun p => plainEq p.1 p.2 := by
  intro sk cs ds
  induction sk, cs, ds using skEq.induct with
  | case1 =>
    intro b hb xs ys hx hy _ _
    simp only [skEq, Option.some.injEq] at hb
    subst hb
    have hx : xs = [] := List.eq_nil_of_length_eq_zero (by simpa using hx)
    have hy : ys = [] := List.eq_nil_of_length_eq_zero (by simpa using hy)
    subst hx hy
    simp
  | case2 k r k1 x xs' k2 y ys' hk ih =>
    intro b hb xs ys hx hy rx ry
    simp only [skEq, hk, and_self, if_true] at hb
    obtain ⟨b', hb', rfl⟩ := Option.map_eq_some_iff.1 hb
    match xs, ys, hx, hy with
    | v :: xs, u :: ys, hx, hy =>
      obtain ⟨e1, e2, e3, e4, e5⟩ := ih hb' (xs := xs) (ys := ys) (by simpa using hx) (by simpa using hy) (fun i c hc => by simpa using rx (i + 1) c (by simpa using hc)) (fun i c hc => by simpa using ry (i + 1) c (by simpa using hc))
      have h1 := rx 0 _ rfl
      have h2 := ry 0 _ rfl
      simp only [List.getD_cons_zero] at h1 h2
      obtain ⟨hk1, hk2⟩ := hk
      subst hk1 hk2
      cases h1 with
      | d h1 => cases h1 with
        | s _ _ => cases h2 with
          | d h2 => cases h2 with
            | s _ _ =>
              refine ⟨by simp [e1], by simp [e2], fun i s v hs hv => ?_, fun i s v hs hv => ?_, by simp [plainEq, e5]⟩
              · cases i with
                | zero => simp only [List.getElem?_cons_zero, Option.some.injEq] at hs hv; subst hs hv; exact ⟨_, rfl⟩
                | succ i => exact e3 i s v (by simpa using hs) (by simpa using hv)
              · cases i with
                | zero => simp only [List.getElem?_cons_zero, Option.some.injEq] at hs hv; subst hs hv; exact ⟨_, rfl⟩
                | succ i => exact e4 i s v (by simpa using hs) (by simpa using hv)
  | case3 k r k1 x xs' k2 y ys' hk => intro b hb; simp [skEq, hk] at hb
  | case4 r x xs' y ys' ih =>
    intro b hb xs ys hx hy rx ry
    simp only [skEq] at hb
    obtain ⟨b', hb', rfl⟩ := Option.map_eq_some_iff.1 hb
    match xs, ys, hx, hy with
    | v :: xs, u :: ys, hx, hy =>
      obtain ⟨e1, e2, e3, e4, e5⟩ := ih hb' (xs := xs) (ys := ys) (by simpa using hx) (by simpa using hy) (fun i c hc => by simpa using rx (i + 1) c (by simpa using hc)) (fun i c hc => by simpa using ry (i + 1) c (by simpa using hc))
      have h1 := rx 0 _ rfl
      have h2 := ry 0 _ rfl
      simp only [List.getD_cons_zero] at h1 h2
      cases h1 with
      | d h1 => cases h1 with
        | s _ _ => cases h2 with
          | d h2 => cases h2 with
            | s _ _ =>
              refine ⟨by simp [e1], by simp [e2], fun i s v hs hv => ?_, fun i s v hs hv => ?_, by simp [plainEq, e5]⟩
              · cases i with
                | zero => simp only [List.getElem?_cons_zero, Option.some.injEq] at hs hv; subst hs hv; exact ⟨_, rfl⟩
                | succ i => exact e3 i s v (by simpa using hs) (by simpa using hv)
              · cases i with
                | zero => simp only [List.getElem?_cons_zero, Option.some.injEq] at hs hv; subst hs hv; exact ⟨_, rfl⟩
                | succ i => exact e4 i s v (by simpa using hs) (by simpa using hv)
  | case5 => intro b hb; simp_all [skEq]

theorem run_binI {op : BinOp} {k : IntKind} {x y : Int} {p : Prop} {r : T} (h : binI op k x y = some (p, r)) (hp : p) (t : Nat) (u v : Operand) :
    ∃ q, (do eqGuard op t u v (.int k x) (.int k y); binOp op t (.int k x) (.int k y) : Sem Value).run Γ.P w = .ok q w ∧ RepT w U μ m r q := by
  cases op
  case add =>
    simp only [binI, Option.some.injEq, Prod.mk.injEq] at h
    obtain ⟨rfl, rfl⟩ := h
    exact ⟨_, by simp [eqGuard, binOp, Op.intArith], tI_rep _ _⟩
  case sub =>
    simp only [binI, Option.some.injEq, Prod.mk.injEq] at h
    obtain ⟨rfl, rfl⟩ := h
    exact ⟨_, by simp [eqGuard, binOp, Op.intArith], tI_rep _ _⟩
  case mul =>
    simp only [binI, Option.some.injEq, Prod.mk.injEq] at h
    obtain ⟨rfl, rfl⟩ := h
    exact ⟨_, by simp [eqGuard, binOp, Op.intArith], tI_rep _ _⟩
  case quo =>
    simp only [binI, Option.some.injEq, Prod.mk.injEq] at h
    obtain ⟨rfl, rfl⟩ := h
    exact ⟨_, by simp [eqGuard, binOp, Op.intDiv, show y ≠ 0 from hp], tI_rep _ _⟩
  case rem =>
    simp only [binI, Option.some.injEq, Prod.mk.injEq] at h
    obtain ⟨rfl, rfl⟩ := h
    exact ⟨_, by simp [eqGuard, binOp, Op.intDiv, show y ≠ 0 from hp], tI_rep _ _⟩
  case and =>
    simp only [binI, Option.some.injEq, Prod.mk.injEq] at h
    obtain ⟨rfl, rfl⟩ := h
    exact ⟨_, by simp [eqGuard, binOp, Op.intBits, andV], tI_rep _ _⟩
  case or =>
    simp only [binI, Option.some.injEq, Prod.mk.injEq] at h
    obtain ⟨rfl, rfl⟩ := h
    exact ⟨_, by simp [eqGuard, binOp, Op.intBits, orV], tI_rep _ _⟩
  case xor =>
    simp only [binI, Option.some.injEq, Prod.mk.injEq] at h
    obtain ⟨rfl, rfl⟩ := h
    exact ⟨_, by simp [eqGuard, binOp, Op.intBits, xorV], tI_rep _ _⟩
  case shl => simp [binI] at h
  case shr => simp [binI] at h
  case andNot => simp [binI] at h
  case eql =>
    simp only [binI, Option.some.injEq, Prod.mk.injEq] at h
    obtain ⟨rfl, rfl⟩ := h
    exact ⟨_, by simp [eqGuard, binOp, Op.intCmp], tB_rep _⟩
  case neq =>
    simp only [binI, Option.some.injEq, Prod.mk.injEq] at h
    obtain ⟨rfl, rfl⟩ := h
    exact ⟨_, by simp [eqGuard, binOp, Op.intCmp], tB_rep _⟩
  case lss =>
    simp only [binI, Option.some.injEq, Prod.mk.injEq] at h
    obtain ⟨rfl, rfl⟩ := h
    exact ⟨_, by simp [eqGuard, binOp, Op.intCmp], tB_rep _⟩
  case leq =>
    simp only [binI, Option.some.injEq, Prod.mk.injEq] at h
    obtain ⟨rfl, rfl⟩ := h
    exact ⟨_, by simp [eqGuard, binOp, Op.intCmp], tB_rep _⟩
  case gtr =>
    simp only [binI, Option.some.injEq, Prod.mk.injEq] at h
    obtain ⟨rfl, rfl⟩ := h
    exact ⟨_, by simp [eqGuard, binOp, Op.intCmp], tB_rep _⟩
  case geq =>
    simp only [binI, Option.some.injEq, Prod.mk.injEq] at h
    obtain ⟨rfl, rfl⟩ := h
    exact ⟨_, by simp [eqGuard, binOp, Op.intCmp], tB_rep _⟩

theorem evBin_good {et : EqTab} (hT : TabOK Γ.P tab) (hq : EqOK Γ.P et) (h : RR Γ U μ (lk st.t) (lk st.m) a w) {op : BinOp} {t : Nat} {x y : T} {v u : Value} (hx : RepT w U μ (lk st.m) x v) (hy : RepT w U μ (lk st.m) y u) {p : Prop} {e : Eff} (he : evBin tab et op t x y = some (p, e)) (hp : p) (o1 o2 : Operand) :
    Good Γ st a e ((do eqGuard op t o1 o2 v u; binOp op t v u : Sem Value).run Γ.P w) := by
  unfold evBin at he
  split at he
  · rename_i k1 a1 k2 b1 hi hj
    have := asI_rep hx hi
    subst this
    have := asI_rep hy hj
    subst this
    split at he
    · simp only [Option.some.injEq, Prod.mk.injEq] at he
      obtain ⟨rfl, rfl⟩ := he
      have hp : 0 ≤ b1 := hp
      exact Good.pure h (tI_rep _ _) (by simp [eqGuard, binOp, Op.shift, shlV, Int.not_lt.2 hp])
    · simp only [Option.some.injEq, Prod.mk.injEq] at he
      obtain ⟨rfl, rfl⟩ := he
      have hp : 0 ≤ b1 := hp
      exact Good.pure h (tI_rep _ _) (by simp [eqGuard, binOp, Op.shift, shrV, Int.not_lt.2 hp])
    · split at he
      case isFalse => cases he
      rename_i hk
      subst hk
      obtain ⟨⟨q, r⟩, hr, he⟩ := Option.map_eq_some_iff.1 he
      simp only [Prod.mk.injEq] at he
      obtain ⟨rfl, rfl⟩ := he
      obtain ⟨v, h1, h2⟩ := run_binI (Γ := Γ) (w := w) (U := U) (μ := μ) (m := lk st.m) hr hp t o1 o2
      exact Good.pure h h2 h1
  · split at he
    · rename_i a1 b1 hi hj
      have := asB_rep hx hi
      subst this
      have := asB_rep hy hj
      subst this
      split at he
      case h_2 => cases he
      rename_i ti hti
      split at he
      · rename_i hk
        simp only [Option.some.injEq, Prod.mk.injEq] at he
        obtain ⟨_, rfl⟩ := he
        have hb := (hT t ti hti).bool hk
        exact Good.pure h (tB_rep _) (by simp [eqGuard, run_eql_bool w t a1 b1 hb])
      · rename_i hk
        simp only [Option.some.injEq, Prod.mk.injEq] at he
        obtain ⟨_, rfl⟩ := he
        have hb := (hT t ti hti).bool hk
        exact Good.pure h (tB_rep _) (by simp [eqGuard, run_neq_bool w t a1 b1 hb])
      · cases he
    · split at he
      · rename_i xs ys _ _
        split at he
        case h_2 => cases he
        rename_i sk hsk
        cases hx with
        | @agg _ vs hs hr =>
          cases hy with
          | @agg _ us hs' hr' =>
            have key : ∀ {b : Bool}, skEq sk xs ys = some b → _ := fun {b} hb => skEq_rep (w := w) (U := U) (μ := μ) (m := lk st.m) hb (xs := vs.toList) (ys := us.toList) (by simpa using hs) (by simpa using hs') (fun i c hc => by simpa [List.getD_eq_getElem?_getD] using hr i c hc) (fun i c hc => by simpa [List.getD_eq_getElem?_getD] using hr' i c hc)
            split at he
            · obtain ⟨b, hb, he⟩ := Option.map_eq_some_iff.1 he
              simp only [Prod.mk.injEq] at he
              obtain ⟨_, rfl⟩ := he
              obtain ⟨e1, e2, e3, e4, rfl⟩ := key hb
              have := (hq.e t sk hsk w vs.toList us.toList e1 e2 e3 e4 o1 o2).1
              exact Good.pure h (tB_rep _) (by simpa using this)
            · obtain ⟨b, hb, he⟩ := Option.map_eq_some_iff.1 he
              simp only [Prod.mk.injEq] at he
              obtain ⟨_, rfl⟩ := he
              obtain ⟨e1, e2, e3, e4, rfl⟩ := key hb
              have := (hq.e t sk hsk w vs.toList us.toList e1 e2 e3 e4 o1 o2).2
              exact Good.pure h (tB_rep _) (by simpa using this)
            · cases he
      · rename_i n f _ _
        have hnil : ∀ {e0 : Nat}, ((lk tab t).map fun ti => ti.k) = some (.slice e0) → Γ.P.underlying t = some (.slice e0) := fun hk => by
          obtain ⟨ti, hti, hk⟩ := Option.map_eq_some_iff.1 hk
          exact (hT t ti hti).slice hk
        cases hx with
        | c hx => cases hx with
          | d hx => cases hx with
            | l _ _ a cap sz vals hn hc hs ha hv => cases hy with
              | c hy => cases hy with
                | d hy => cases hy with
                  | s _ _ =>
                    split at he
                    · rename_i e0 hk
                      simp only [Option.some.injEq, Prod.mk.injEq] at he
                      obtain ⟨rfl, rfl⟩ := he
                      obtain ⟨ad, rfl, _⟩ := ha hp
                      exact Good.pure h (tB_rep _) (by simp [eqGuard, binOp, run_equal_slice_nil w t e0 (some ad) n cap (hnil hk)])
                    · rename_i e0 hk
                      simp only [Option.some.injEq, Prod.mk.injEq] at he
                      obtain ⟨rfl, rfl⟩ := he
                      obtain ⟨ad, rfl, _⟩ := ha hp
                      exact Good.pure h (tB_rep _) (by simp [eqGuard, binOp, run_equal_slice_nil w t e0 (some ad) n cap (hnil hk)])
                    · cases he
      · rename_i a _ _ _ _
        have hnil : ∀ {e0 : Nat}, ((lk tab t).map fun ti => ti.k) = some (.slice e0) → Γ.P.underlying t = some (.slice e0) := fun hk => by
          obtain ⟨ti, hti, hk⟩ := Option.map_eq_some_iff.1 hk
          exact (hT t ti hti).slice hk
        cases hx with
        | c hx => cases hx with
          | d hx => cases hx with
            | s _ _ => cases hy with
              | c hy => cases hy with
                | d hy => cases hy with
                  | s _ _ =>
                    split at he
                    · rename_i e0 hk
                      simp only [Option.some.injEq, Prod.mk.injEq] at he
                      obtain ⟨_, rfl⟩ := he
                      exact Good.pure h (tB_rep _) (by simp [eqGuard, binOp, run_equal_slice_nil w t e0 _ _ _ (hnil hk)])
                    · rename_i e0 hk
                      simp only [Option.some.injEq, Prod.mk.injEq] at he
                      obtain ⟨_, rfl⟩ := he
                      exact Good.pure h (tB_rep _) (by simp [eqGuard, binOp, run_equal_slice_nil w t e0 _ _ _ (hnil hk)])
                    · cases he
      · rename_i s1 s2 _ _
        cases hx with
        | c hx => cases hx with
          | d hx => cases hx with
            | s _ _ => cases hy with
              | c hy => cases hy with
                | d hy => cases hy with
                  | s _ _ =>
                    split at he
                    · simp only [Option.some.injEq, Prod.mk.injEq] at he
                      obtain ⟨rfl, rfl⟩ := he
                      have hp : s1.size + s2.size ≤ 140737488355328 := hp
                      refine Good.pure h (.c (.d (.s _ rfl))) ?_
                      simp [eqGuard, binOp, Op.stringOp, IntKind.max, IntKind.signed, IntKind.bits]
                      omega
                    · simp only [Option.some.injEq, Prod.mk.injEq] at he
                      obtain ⟨rfl, rfl⟩ := he
                      exact Good.pure h (tB_rep _) (by simp [eqGuard, binOp, Op.stringOp])
                    · simp only [Option.some.injEq, Prod.mk.injEq] at he
                      obtain ⟨rfl, rfl⟩ := he
                      exact Good.pure h (tB_rep _) (by simp [eqGuard, binOp, Op.stringOp])
                    · cases he
      · cases he

def evUn (op : UnOp) (x : T) : Option (Prop × Eff) :=
  match op, asB x, asI x with
  | .not, some b, _ => some (True, ⟨some (tB (!b)), [], []⟩)
  | .neg, _, some (k, n) => some (True, ⟨some (tI k (k.wrap (0 - n))), [], []⟩)
  | .xor, _, some (k, n) => some (True, ⟨some (tI k (xorV k (if k.signed then -1 else k.max) n)), [], []⟩)
  | _, _, _ => none

theorem evUn_good (h : RR Γ U μ (lk st.t) (lk st.m) a w) {op : UnOp} {x : T} {v : Value} (hx : RepT w U μ (lk st.m) x v) {p : Prop} {e : Eff} (he : evUn op x = some (p, e)) : Good Γ st a e ((Op.unary op v).run Γ.P w) := by
  unfold evUn at he
  split at he
  · rename_i hb
    simp only [Option.some.injEq, Prod.mk.injEq] at he
    obtain ⟨_, rfl⟩ := he
    have := asB_rep hx hb
    subst this
    exact Good.pure h (tB_rep _) (by simp [Op.unary])
  · rename_i k n hi
    simp only [Option.some.injEq, Prod.mk.injEq] at he
    obtain ⟨_, rfl⟩ := he
    have := asI_rep hx hi
    subst this
    exact Good.pure h (tI_rep _ _) (by simp [Op.unary, Op.intArith])
  · rename_i k n hi
    simp only [Option.some.injEq, Prod.mk.injEq] at he
    obtain ⟨_, rfl⟩ := he
    have := asI_rep hx hi
    subst this
    exact Good.pure h (tI_rep _ _) (by simp [Op.unary, Op.intBits, xorV])
  · cases he

def evConv (tab : Tab) (s t : Nat) (x : T) : Option (Prop × Eff) :=
  match lk tab s, lk tab t, asI x with
  | some _, some ti, some (_, n) => match ti.k with
    | .int k => some (True, ⟨some (tI k (k.wrap n)), [], []⟩)
    | _ => none
  | _, _, _ => none

theorem evConv_good (hT : TabOK Γ.P tab) (h : RR Γ U μ (lk st.t) (lk st.m) a w) {s t : Nat} {x : T} {v : Value} (hx : RepT w U μ (lk st.m) x v) {p : Prop} {e : Eff} (he : evConv tab s t x = some (p, e)) : Good Γ st a e ((convert s t v).run Γ.P w) := by
  unfold evConv at he
  split at he
  case h_2 => cases he
  rename_i ts ti kx n hts hti hi
  split at he
  case h_2 => cases he
  rename_i k hk
  simp only [Option.some.injEq, Prod.mk.injEq] at he
  obtain ⟨_, rfl⟩ := he
  have := asI_rep hx hi
  subst this
  obtain ⟨d, h1, _⟩ := (hT s ts hts).desc
  have h2 := (hT t ti hti).int hk
  exact Good.pure h (tI_rep _ _) (by simp [convert, underlying, h1, h2, Conv.intToInt])

/-! ### Built-in functions -/
def evLen (tab : Tab) (st : St) (t : Nat) (x : T) : Option (Prop × Eff) :=
  match lk tab t with
  | some ti => match ti.k with
    | .slice _ => match x with
      | .c (.row n len) => match lk st.m n with
        | some (.row _ _ _ k _) => some (len = k, ⟨some (tI .i64 k), [], [n]⟩)
        | _ => none
      | .c (.d (.l n _)) => some (True, ⟨some (tI .i64 n), [], []⟩)
      | .c (.d (.s (.slice _ n _))) => some (True, ⟨some (tI .i64 n), [], []⟩)
      | .c .z => some (True, ⟨some (tI .i64 0), [], []⟩)
      | _ => none
    | .array n _ => some (True, ⟨some (tI .i64 n), [], []⟩)
    | .str => match x with
      | .c (.d (.s (.string b))) => some (True, ⟨some (tI .i64 b.size), [], []⟩)
      | _ => none
    | _ => none
  | none => none

theorem evLen_good (hT : TabOK Γ.P tab) (h : RR Γ U μ (lk st.t) (lk st.m) a w) {t ty : Nat} {x : T} {v : Value} (hx : RepT w U μ (lk st.m) x v) {p : Prop} {e : Eff} (he : evLen tab st t x = some (p, e)) (hp : p) : Good Γ st a e ((Builtin.len_ #[t] ty #[v]).run Γ.P w) := by
  unfold evLen at he
  split at he
  case h_2 => cases he
  rename_i ti hti
  have hE := hT t ti hti
  split at he
  · rename_i e0 hk
    have hund := hE.slice hk
    have hrun : ∀ (ao : Option Addr) (n c : Nat), (Builtin.len_ #[t] ty #[.slice ao n c]).run Γ.P w = .ok (.int .i64 n) w := fun ao n c => by
      simp [Builtin.len_, underlying, hund, goInt]
    split at he
    · rename_i n len
      split at he
      case h_2 => cases he
      rename_i ice ty' sz k f hn
      simp only [Option.some.injEq, Prod.mk.injEq] at he
      obtain ⟨rfl, rfl⟩ := he
      have hlen : len = k := hp
      cases hx with
      | c hx => cases hx with
        | row ice' ty' sz' k' f' hn' hk' h1 hv =>
          rw [hn] at hn'
          injection hn' with hn'
          injection hn' with e1 e2 e3 e4 e5
          subst e4
          have hv := hv hlen
          obtain ⟨ao, cap, rfl⟩ : ∃ ao cap, v = .slice ao k cap := by
            cases hμ : μ n with
            | none => rw [hμ] at hv; obtain ⟨h2, a, rfl⟩ := hv; exact ⟨a, 0, by rw [h2]⟩
            | some gc => obtain ⟨g, c⟩ := gc; rw [hμ] at hv; exact ⟨_, c, hv⟩
          exact Good.pure h (tI_rep _ _) (hrun ao k cap)
    · simp only [Option.some.injEq, Prod.mk.injEq] at he
      obtain ⟨rfl, rfl⟩ := he
      cases hx with
      | c hx => cases hx with
        | d hx => cases hx with
          | l _ _ a cap sz vals hnc => exact Good.pure h (tI_rep _ _) (hrun a _ cap)
    · simp only [Option.some.injEq, Prod.mk.injEq] at he
      obtain ⟨rfl, rfl⟩ := he
      cases hx with
      | c hx => cases hx with
        | d hx => cases hx with
          | s _ _ => exact Good.pure h (tI_rep _ _) (hrun _ _ _)
    · simp only [Option.some.injEq, Prod.mk.injEq] at he
      obtain ⟨rfl, rfl⟩ := he
      cases hx with
      | c hx => cases hx with
        | z ad => exact Good.pure h (tI_rep _ _) (hrun ad 0 0)
    · cases he
  · rename_i n e0 hk
    simp only [Option.some.injEq, Prod.mk.injEq] at he
    obtain ⟨rfl, rfl⟩ := he
    exact Good.pure h (tI_rep _ _) (by simp [Builtin.len_, underlying, hE.array hk, goInt])
  · rename_i hk
    have hund : Γ.P.underlying t = some .string := by
      obtain ⟨d, h1, h2⟩ := hE.desc
      rw [hk] at h2
      cases d <;> simp [kindOf] at h2
      exact h1
    split at he
    case h_2 => cases he
    simp only [Option.some.injEq, Prod.mk.injEq] at he
    obtain ⟨rfl, rfl⟩ := he
    cases hx with
    | c hx => cases hx with
      | d hx => cases hx with
        | s _ _ => exact Good.pure h (tI_rep _ _) (by simp [Builtin.len_, underlying, hund, goInt])
  · cases he

def allI : List T → Option (List (IntKind × Int))
  | [] => some []
  | x :: xs => match asI x, allI xs with
    | some p, some l => some (p :: l)
    | _, _ => none

def evMax (xs : List T) : Option (Prop × Eff) :=
  match allI xs with
  | some ((k, x) :: r) => some (True, ⟨some (tI k (r.foldl (fun m p => if p.2 > m then p.2 else m) x)), [], []⟩)
  | _ => none
def evMin (xs : List T) : Option (Prop × Eff) :=
  match allI xs with
  | some ((k, x) :: r) => some (True, ⟨some (tI k (r.foldl (fun m p => if p.2 < m then p.2 else m) x)), [], []⟩)
  | _ => none

/-- Operands' values. -/
def AllRep (w : World) (U : Nat → Prop) (μ : Mu) (m : Mem) (xs : List T) (vs : List Value) : Prop :=
  xs.length = vs.length ∧ ∀ (i : Nat) x, xs[i]? = some x → RepT w U μ m x (vs.getD i undef)

theorem AllRep.tail {x : T} {xs : List T} {v : Value} {vs : List Value} (h : AllRep w U μ m (x :: xs) (v :: vs)) : RepT w U μ m x v ∧ AllRep w U μ m xs vs :=
  ⟨by simpa using h.2 0 x rfl, by simpa using h.1, fun i y hy => by simpa using h.2 (i + 1) y (by simpa using hy)⟩

theorem allI_rep : ∀ {xs : List T} {vs : List Value} {l : List (IntKind × Int)}, AllRep w U μ m xs vs → allI xs = some l → vs = l.map fun p => .int p.1 p.2
  | [], [], l, _, hl => by simp only [allI, Option.some.injEq] at hl; subst hl; rfl
  | [], _ :: _, _, h, _ => by simp [AllRep] at h
  | _ :: _, [], _, h, _ => by simp [AllRep] at h
  | x :: xs, v :: vs, l, h, hl => by
    simp only [allI] at hl
    split at hl
    case h_2 => cases hl
    rename_i p l' hp hl'
    injection hl with hl
    subst hl
    obtain ⟨h1, h2⟩ := h.tail
    rw [allI_rep h2 hl', asI_rep h1 hp]
    rfl

theorem fold_max (k : IntKind) (r : List (IntKind × Int)) : ∀ x : Int, ((r.map fun p => Value.int p.1 p.2).foldlM Builtin.max2 (.int k x)).run Γ.P w = .ok (.int k (r.foldl (fun m p => if p.2 > m then p.2 else m) x)) w := by
  induction r with
  | nil => intro x; simp
  | cons p r ih => intro x; simp only [List.map_cons, List.foldlM_cons, Builtin.max2, Sem.run_bind, Sem.run_pure, Result.andThen, List.foldl_cons]; exact ih _
theorem fold_min (k : IntKind) (r : List (IntKind × Int)) : ∀ x : Int, ((r.map fun p => Value.int p.1 p.2).foldlM Builtin.min2 (.int k x)).run Γ.P w = .ok (.int k (r.foldl (fun m p => if p.2 < m then p.2 else m) x)) w := by
  induction r with
  | nil => intro x; simp
  | cons p r ih => intro x; simp only [List.map_cons, List.foldlM_cons, Builtin.min2, Sem.run_bind, Sem.run_pure, Result.andThen, List.foldl_cons]; exact ih _

theorem evMax_good (h : RR Γ U μ (lk st.t) (lk st.m) a w) {ts : Array TypeId} {ty : Nat} {xs : List T} {vs : Array Value} (hx : AllRep w U μ (lk st.m) xs vs.toList) {p : Prop} {e : Eff} (he : evMax xs = some (p, e)) : Good Γ st a e ((Builtin.max_ ts ty vs).run Γ.P w) := by
  unfold evMax at he
  split at he
  case h_2 => cases he
  rename_i k x r hl
  simp only [Option.some.injEq, Prod.mk.injEq] at he
  obtain ⟨_, rfl⟩ := he
  have := allI_rep hx hl
  exact Good.pure h (tI_rep _ _) (by simp only [Builtin.max_, this, List.map_cons]; exact fold_max k r x)
theorem evMin_good (h : RR Γ U μ (lk st.t) (lk st.m) a w) {ts : Array TypeId} {ty : Nat} {xs : List T} {vs : Array Value} (hx : AllRep w U μ (lk st.m) xs vs.toList) {p : Prop} {e : Eff} (he : evMin xs = some (p, e)) : Good Γ st a e ((Builtin.min_ ts ty vs).run Γ.P w) := by
  unfold evMin at he
  split at he
  case h_2 => cases he
  rename_i k x r hl
  simp only [Option.some.injEq, Prod.mk.injEq] at he
  obtain ⟨_, rfl⟩ := he
  have := allI_rep hx hl
  exact Good.pure h (tI_rep _ _) (by simp only [Builtin.min_, this, List.map_cons]; exact fold_min k r x)

/-! ### Functions as values; nil checks -/
def plainV : List C → Option (List Value)
  | [] => some []
  | .d (.s v) :: r => (plainV r).map (v :: ·)
  | _ => none
def oneC : List T → Option (List C)
  | [] => some []
  | .c x :: r => (oneC r).map (x :: ·)
  | _ => none

def evFunc (f : Fn) (xs ys : List T) : Option (Prop × Eff) :=
  match oneC xs, oneC ys with
  | some [], some cs => some (True, ⟨some (.c (.clo f cs)), [], []⟩)
  | some cs, some [] => (plainV cs).map fun vs => (True, ⟨some (.c (.d (.s (.func f vs.toArray #[])))), [], []⟩)
  | _, _ => none

theorem oneC_rep : ∀ {xs : List T} {vs : List Value} {cs : List C}, AllRep w U μ m xs vs → oneC xs = some cs → cs.length = vs.length ∧ ∀ (i : Nat) c, cs[i]? = some c → RepC w U μ m c (vs.getD i undef)
  | [], [], cs, _, hl => by simp only [oneC, Option.some.injEq] at hl; subst hl; exact ⟨rfl, fun i c hc => by simp at hc⟩
  | [], _ :: _, _, h, _ => by simp [AllRep] at h
  | _ :: _, [], _, h, _ => by simp [AllRep] at h
  | x :: xs, v :: vs, cs, h, hl => by
    unfold oneC at hl
    split at hl
    · rename_i heq; cases heq
    · rename_i y r heq
      injection heq with e1 e2
      subst e1 e2
      obtain ⟨l, hl', rfl⟩ := Option.map_eq_some_iff.1 hl
      obtain ⟨h1, h2⟩ := h.tail
      obtain ⟨i1, i2⟩ := oneC_rep h2 hl'
      refine ⟨by simp [i1], fun i c hc => ?_⟩
      cases i with
      | zero =>
        simp only [List.getElem?_cons_zero, Option.some.injEq] at hc
        subst hc
        cases h1 with
        | c h1 => simpa using h1
      | succ i => simpa using i2 i c (by simpa using hc)
    · cases hl

theorem plainV_rep : ∀ {cs : List C} {vs us : List Value}, cs.length = vs.length → (∀ (i : Nat) c, cs[i]? = some c → RepC w U μ m c (vs.getD i undef)) → plainV cs = some us → us = vs
  | [], [], us, _, _, h => by simp only [plainV, Option.some.injEq] at h; exact h.symm
  | c :: cs, v :: vs, us, hl, hr, h => by
    unfold plainV at h
    split at h
    · rename_i heq; cases heq
    · rename_i u r heq
      injection heq with e1 e2
      subst e1 e2
      obtain ⟨l, hl', rfl⟩ := Option.map_eq_some_iff.1 h
      have h0 := hr 0 _ rfl
      have := plainV_rep (vs := vs) (us := l) (by simpa using hl) (fun i c hc => by simpa using hr (i + 1) c (by simpa using hc)) hl'
      subst this
      simp only [List.getD_cons_zero] at h0
      cases h0 with
      | d h0 => cases h0 with
        | s _ _ => rfl
    · cases h

theorem evFunc_good (h : RR Γ U μ (lk st.t) (lk st.m) a w) {f : Fn} {xs ys : List T} {vs us : Array Value} (hx : AllRep w U μ (lk st.m) xs vs.toList) (hy : AllRep w U μ (lk st.m) ys us.toList) {p : Prop} {e : Eff} (he : evFunc f xs ys = some (p, e)) : Good Γ st a e ((Instr.makeFunc f vs us).run Γ.P w) := by
  unfold evFunc at he
  split at he
  · rename_i cs h1 h2
    simp only [Option.some.injEq, Prod.mk.injEq] at he
    obtain ⟨_, rfl⟩ := he
    obtain ⟨i1, i2⟩ := oneC_rep hx h1
    obtain ⟨j1, j2⟩ := oneC_rep hy h2
    have : vs = #[] := by simpa using i1.symm
    subst this
    refine Good.pure h (.c (.clo (by simpa using j1.symm) fun i c hc => ?_)) (by simp [Instr.makeFunc])
    simpa [List.getD_eq_getElem?_getD] using j2 i c hc
  · rename_i cs _ h1 h2
    obtain ⟨l, hl, he⟩ := Option.map_eq_some_iff.1 he
    simp only [Prod.mk.injEq] at he
    obtain ⟨_, rfl⟩ := he
    obtain ⟨i1, i2⟩ := oneC_rep hx h1
    obtain ⟨j1, j2⟩ := oneC_rep hy h2
    have hu : us = #[] := by simpa using j1.symm
    subst hu
    have := plainV_rep i1 i2 hl
    subst this
    exact Good.pure h (.c (.d (.s _ rfl))) (by simp [Instr.makeFunc])
  · cases he
end
end Go.V

/- V11m: maps. -/
set_option linter.unusedVariables false
namespace Go.V

def aput : List (List Int × Value) → List Int → Value → List (List Int × Value)
  | [], x, v => [(x, v)]
  | p :: r, x, v => if p.1 = x then (x, v) :: r else p :: aput r x v
/-- An entry is there. -/
def aent : List (List Int × Value) → List Int → Value → List (List Int × Value)
  | [], x, z => [(x, z)]
  | p :: r, x, z => if p.1 = x then p :: r else p :: aent r x z
def aset (l : List (List Int × Value)) (i : Nat) (v : Value) : List (List Int × Value) := l.modify i fun p => (p.1, v)

theorem aset_aent (l : List (List Int × Value)) (x : List Int) (z v : Value) : aset (aent l x z) (aix l x) v = aput l x v := by
  induction l with
  | nil => rfl
  | cons p r ih =>
    simp only [aent, aix, aput]
    split
    · rename_i h
      simp [aset, h]
    · simpa [aset] using ih
theorem aix_le (l : List (List Int × Value)) (x : List Int) : aix l x ≤ l.length := by
  induction l with
  | nil => exact Nat.le_refl 0
  | cons p r ih => simp only [aix, List.length_cons]; split <;> omega
theorem aix_lt_aent (l : List (List Int × Value)) (x : List Int) (z : Value) : aix l x < (aent l x z).length := by
  induction l with
  | nil => simp [aix, aent]
  | cons p r ih => simp only [aix, aent]; split <;> simp <;> exact ih
theorem aix_none {l : List (List Int × Value)} {x : List Int} (h : aget l x = none) : aix l x = l.length := by
  have := aix_le l x
  unfold aget at h
  simp at h
  omega
theorem aix_at {l : List (List Int × Value)} {x : List Int} {v : Value} (h : aget l x = some v) : l[aix l x]? = some (x, v) := by
  induction l with
  | nil => simp [aget] at h
  | cons p r ih =>
    unfold aget at h ih
    simp only [aix] at h ⊢
    split
    · rename_i hp
      simp only [hp, if_true, List.getElem?_cons_zero, Option.map_some, Option.some.injEq] at h
      subst hp h
      rfl
    · rename_i hp
      simp only [hp, if_false] at h
      simp only [List.getElem?_cons_succ] at h ⊢
      exact ih h

theorem ents_length (ag : Bool) : ∀ (i : Nat) (l : List (List Int × Value)), (ents ag i l).length = l.length
  | _, [] => rfl
  | i, p :: r => by simp [ents, ents_length ag (i + 1) r]
theorem ents_at (ag : Bool) : ∀ (i : Nat) (l : List (List Int × Value)) (j : Nat), (ents ag i l)[j]? = (l[j]?).map fun p => ⟨keyV ag p.1, p.2, i + j⟩
  | _, [], j => by simp [ents]
  | i, p :: r, 0 => by simp [ents]
  | i, p :: r, j + 1 => by
    simp only [ents, List.getElem?_cons_succ, ents_at ag (i + 1) r j]
    congr 1
    funext q
    simp; omega
theorem ents_push (ag : Bool) (x : List Int) (v : Value) : ∀ (i : Nat) (l : List (List Int × Value)), ents ag i l ++ [⟨keyV ag x, v, i + l.length⟩] = ents ag i (l ++ [(x, v)])
  | _, [] => rfl
  | i, p :: r => by
    have := ents_push ag x v (i + 1) r
    simp only [ents, List.cons_append, List.length_cons]
    rw [← this]
    simp; omega
theorem ents_modify (ag : Bool) (f : MapEntry → MapEntry) (g : List Int × Value → List Int × Value) : ∀ (i : Nat) (l : List (List Int × Value)) (j : Nat), (∀ p b, l[j]? = some p → f ⟨keyV ag p.1, p.2, b⟩ = ⟨keyV ag (g p).1, (g p).2, b⟩) → (ents ag i l).modify j f = ents ag i (l.modify j g)
  | _, [], j, _ => by simp [ents]
  | i, p :: r, 0, h => by simp [ents, h p i rfl]
  | i, p :: r, j + 1, h => by
    have := ents_modify ag f g (i + 1) r j (fun q b hq => h q b (by simpa using hq))
    simp [ents, this]
theorem aput_none {l : List (List Int × Value)} {x : List Int} {v : Value} (h : aget l x = none) : aput l x v = l ++ [(x, v)] := by
  induction l with
  | nil => rfl
  | cons p r ih =>
    unfold aget at h ih
    simp only [aix, aput] at h ⊢
    split
    · rename_i hp; simp [hp] at h
    · rename_i hp
      simp only [hp, if_false, List.getElem?_cons_succ] at h
      simp [ih h]
theorem aent_none {l : List (List Int × Value)} {x : List Int} {z : Value} (h : aget l x = none) : aent l x z = l ++ [(x, z)] := by
  induction l with
  | nil => rfl
  | cons p r ih =>
    unfold aget at h ih
    simp only [aix, aent] at h ⊢
    split
    · rename_i hp; simp [hp] at h
    · rename_i hp
      simp only [hp, if_false, List.getElem?_cons_succ] at h
      simp [ih h]
theorem aput_some {l : List (List Int × Value)} {x : List Int} {v u : Value} (h : aget l x = some u) : aput l x v = l.modify (aix l x) fun _ => (x, v) := by
  induction l with
  | nil => simp [aget] at h
  | cons p r ih =>
    unfold aget at h ih
    simp only [aix, aput] at h ⊢
    split
    · simp
    · rename_i hp
      simp only [hp, if_false, List.getElem?_cons_succ] at h
      simp [ih h]
theorem aent_some {l : List (List Int × Value)} {x : List Int} {z u : Value} (h : aget l x = some u) : aent l x z = l := by
  induction l with
  | nil => simp [aget] at h
  | cons p r ih =>
    unfold aget at h ih
    simp only [aix, aent] at h ⊢
    split
    · rfl
    · rename_i hp
      simp only [hp, if_false, List.getElem?_cons_succ] at h
      simp [ih h]
theorem mem_aput {l : List (List Int × Value)} {x : List Int} {v : Value} {p : List Int × Value} (h : p ∈ aput l x v) : p ∈ l ∨ p = (x, v) := by
  induction l with
  | nil => simp only [aput, List.mem_singleton] at h; exact .inr h
  | cons q r ih =>
    simp only [aput] at h
    split at h
    · rcases List.mem_cons.1 h with h | h
      · exact .inr h
      · exact .inl (List.mem_cons_of_mem _ h)
    · rcases List.mem_cons.1 h with h | h
      · exact .inl (by simp [h])
      · rcases ih h with h | h
        · exact .inl (List.mem_cons_of_mem _ h)
        · exact .inr h
theorem mem_aent {l : List (List Int × Value)} {x : List Int} {v : Value} {p : List Int × Value} (h : p ∈ aent l x v) : p ∈ l ∨ p = (x, v) := by
  induction l with
  | nil => simp only [aent, List.mem_singleton] at h; exact .inr h
  | cons q r ih =>
    simp only [aent] at h
    split at h
    · exact .inl h
    · rcases List.mem_cons.1 h with h | h
      · exact .inl (by simp [h])
      · rcases ih h with h | h
        · exact .inl (List.mem_cons_of_mem _ h)
        · exact .inr h
theorem mem_aset {l : List (List Int × Value)} {i : Nat} {v : Value} {p : List Int × Value} (h : p ∈ aset l i v) : p ∈ l ∨ ∃ q ∈ l, p = (q.1, v) := by
  obtain ⟨j, hj, rfl⟩ := List.mem_iff_getElem.1 h
  simp only [aset, List.getElem_modify]
  split
  · exact .inr ⟨_, List.getElem_mem (by simpa [aset] using hj), rfl⟩
  · exact .inl (List.getElem_mem _)

/-! ### Keys -/
theorem keyV_same (ag : Bool) (x : List Int) : Instr.sameBits 10000 (keyV ag x) (keyV ag x) = true := by
  cases ag with
  | false => simp [keyV, Instr.sameBits]
  | true =>
    simp only [keyV, if_true, Instr.sameBits, BEq.rfl, Bool.true_and]
    rw [List.all_eq_true]
    intro p hp
    obtain ⟨i, hi, rfl⟩ := List.mem_iff_getElem.1 hp
    simp [Instr.sameBits]

def keyI : List C → Option (List Int)
  | [] => some []
  | .d (.s (.int .i64 n)) :: r => (keyI r).map (n :: ·)
  | _ => none
def keyOfT (ag : Bool) (kn : Nat) : T → Option (List Int)
  | .agg cs => if ag then match keyI cs with
    | some xs => if xs.length = kn then some xs else none
    | none => none
    else none
  | .c (.d (.s (.int .i64 n))) => if ag = false ∧ kn = 1 then some [n] else none
  | _ => none
def valT : T → Option Value
  | .c (.d (.s v)) => some v
  | .c (.clo f []) => some (.func f #[] #[])
  | _ => none

section
variable {Γ : Ctx} {U : Nat → Prop} {μ : Mu} {m : Mem} {st : St} {a : Act} {w : World} {tab : Tab} {et : EqTab}

theorem keyI_rep : ∀ {cs : List C} {xs : List Int} {vs : List Value}, keyI cs = some xs → vs.length = cs.length → (∀ (i : Nat) c, cs[i]? = some c → RepC w U μ m c (vs.getD i undef)) → vs = xs.map fun n => Value.int .i64 n
  | [], xs, vs, h, hl, _ => by simp only [keyI, Option.some.injEq] at h; subst h; exact List.eq_nil_of_length_eq_zero (by simpa using hl)
  | c :: cs, xs, [], h, hl, _ => by simp at hl
  | c :: cs, xs, v :: vs, h, hl, hr => by
    unfold keyI at h
    split at h
    · rename_i e; cases e
    · rename_i n r e
      injection e with e1 e2
      subst e1 e2
      obtain ⟨l, hl', rfl⟩ := Option.map_eq_some_iff.1 h
      have h0 := hr 0 _ rfl
      simp only [List.getD_cons_zero] at h0
      have := keyI_rep (vs := vs) hl' (by simpa using hl) (fun i c hc => by simpa using hr (i + 1) c (by simpa using hc))
      subst this
      cases h0 with
      | d h0 => cases h0 with
        | s _ _ => rfl
    · cases h

theorem keyOfT_rep {ag : Bool} {kn : Nat} {x : T} {v : Value} {xs : List Int} (hx : RepT w U μ m x v) (h : keyOfT ag kn x = some xs) : v = keyV ag xs ∧ xs.length = kn := by
  unfold keyOfT at h
  split at h
  · rename_i cs
    split at h
    case isFalse => cases h
    rename_i hag
    split at h
    case h_2 => cases h
    rename_i ys hy
    split at h
    case isFalse => cases h
    rename_i hlen
    injection h with h
    subst h
    cases hx with
    | @agg _ vs hs hr =>
      have := keyI_rep (w := w) (U := U) (μ := μ) (m := m) (vs := vs.toList) hy (by simpa using hs) (fun i c hc => by simpa [List.getD_eq_getElem?_getD] using hr i c hc)
      refine ⟨?_, hlen⟩
      simp [keyV, hag, ← this]
  · split at h
    case isFalse => cases h
    rename_i n hh
    obtain ⟨rfl, rfl⟩ := hh
    injection h with h
    subst h
    cases hx with
    | c hx => cases hx with
      | d hx => cases hx with
        | s _ _ => exact ⟨by simp [keyV], rfl⟩
  · cases h

theorem valT_rep {x : T} {v u : Value} (hx : RepT w U μ m x v) (h : valT x = some u) : v = u ∧ u.oneCell' = true := by
  unfold valT at h
  split at h
  · injection h with h
    subst h
    cases hx with
    | c hx => cases hx with
      | d hx => cases hx with
        | s _ h1 => exact ⟨rfl, h1⟩
  · injection h with h
    subst h
    cases hx with
    | c hx => cases hx with
      | clo hs hr =>
        have : (_ : Array Value) = #[] := Array.eq_empty_of_size_eq_zero (by simpa using hs)
        subst this
        exact ⟨rfl, rfl⟩
  · cases h

/-! ### Operations -/
def evMakeMap (et : EqTab) (st : St) (dst : Option Nat) (t : Nat) (r : Option T) : Option (Prop × Eff) :=
  match dst, lk et.k t, r with
  | some d, some mk, none => match lk st.m (nm d 0) with
    | none => some (True, ⟨some (.c (.mp (nm d 0))), [(nm d 0, .map mk.kn mk.ag [])], [nm d 0]⟩)
    | some _ => none
  | _, _, _ => none

theorem evMakeMap_good (h : RR Γ U μ (lk st.t) (lk st.m) a w) {dst : Option Nat} {t : Nat} {p : Prop} {e : Eff} (he : evMakeMap et st dst t none = some (p, e)) : Good Γ st a e ((Instr.makeMap t none).run Γ.P w) := by
  unfold evMakeMap at he
  split at he
  case h_2 => cases he
  rename_i d mk _ _
  split at he
  case h_2 => cases he
  rename_i hn
  simp only [Option.some.injEq, Prod.mk.injEq] at he
  obtain ⟨_, rfl⟩ := he
  have hw : (w.alloc (.map #[] 0)).heap[w.heap.size]? = some (.map #[] 0) := heap_alloc_new w _
  have h1 := h.add (w' := w.alloc (.map #[] 0)) hn (.map mk.kn mk.ag []) (some (w.heap.size, 0)) rfl rfl rfl (by simp) (fun k hk => heap_alloc_old w _ k hk)
    (fun g c hg => by injection hg with hg; injection hg with e1 e2; omega)
    ⟨w.heap.size, #[], 0, by simp, hw, ⟨rfl, rfl, by simp⟩, fun hz => Nat.lt_irrefl _ (Nat.lt_of_lt_of_le (h.zlim _ hz) h.pres.size), fun hu => Nat.lt_irrefl _ (h.ulim _ hu).1⟩
  refine ⟨.map (some w.heap.size), w.alloc (.map #[] 0), U, fun k => if nm d 0 = k then some (w.heap.size, 0) else μ k, by simp [Instr.makeMap], ?_, fun x hx => ?_⟩
  · simp only [List.cons_append, List.nil_append]; rw [lk_cons_upd]; exact h1
  · injection hx with hx
    subst hx
    simp only [List.cons_append, List.nil_append]
    rw [lk_cons_upd]
    have := RepC.mp (w := w.alloc (.map #[] 0)) (U := U) (μ := fun k => if nm d 0 = k then some (w.heap.size, 0) else μ k) (m := upd (lk st.m) (nm d 0) (.map mk.kn mk.ag [])) (n := nm d 0) mk.kn mk.ag [] (by simp)
    exact .c (by simpa [blk] using this)

/-- The map that a value means, and a key in it. -/
def mapAt (et : EqTab) (st : St) (t : Nat) (x k : T) : Option (Nm × MK × List (List Int × Value) × List Int) :=
  match x, lk et.k t with
  | .c (.mp n), some mk => match lk st.m n with
    | some (.map kn ag l) => if kn = mk.kn ∧ ag = mk.ag then (keyOfT mk.ag mk.kn k).map fun xs => (n, mk, l, xs) else none
    | _ => none
  | _, _ => none

theorem mapAt_rep (hq : EqOK Γ.P et) (h : RR Γ U μ (lk st.t) (lk st.m) a w) {t : Nat} {x k : T} {v u : Value} (hx : RepT w U μ (lk st.m) x v) (hk : RepT w U μ (lk st.m) k u) {n : Nm} {mk : MK} {l : List (List Int × Value)} {xs : List Int} (he : mapAt et st t x k = some (n, mk, l, xs)) :
    ∃ g k e, Γ.P.underlying t = some (.map k e) ∧ KeyLaw Γ.P k mk.kn mk.ag ∧ (∀ w : World, (zeroValue e).run Γ.P w = .ok mk.zero w) ∧ mk.zero.oneCell' = true ∧ u = keyV mk.ag xs ∧ xs.length = mk.kn ∧ v = .map (some g) ∧ μ n = some (g, 0) ∧ w.heap[g]? = some (.map (ents mk.ag 0 l).toArray l.length) ∧
      (∀ p ∈ l, p.1.length = mk.kn ∧ p.2.oneCell' = true) ∧ ¬ Γ.Z g ∧ ¬ U g ∧ lk st.m n = some (.map mk.kn mk.ag l) := by
  unfold mapAt at he
  split at he
  case h_2 => cases he
  rename_i n' mk' hmk
  split at he
  case h_2 => cases he
  rename_i kn ag l' hn
  split at he
  case isFalse => cases he
  rename_i hkk
  obtain ⟨rfl, rfl⟩ := hkk
  obtain ⟨xs', hxs, he⟩ := Option.map_eq_some_iff.1 he
  simp only [Prod.mk.injEq] at he
  obtain ⟨rfl, rfl, rfl, rfl⟩ := he
  obtain ⟨kt, e, h1, h2, h3, h4⟩ := hq.k t _ hmk
  obtain ⟨h5, h6⟩ := keyOfT_rep hk hxs
  obtain ⟨g, es, clock, g1, g2, g3, g4, g5⟩ := h.mem.ok _ _ hn
  obtain ⟨rfl, rfl, r3⟩ := g3
  refine ⟨g, kt, e, h1, h2, h3, h4, h5, h6, ?_, g1, g2, r3, g4, g5, hn⟩
  cases hx with
  | c hx => cases hx with
    | mp ka va gg hm => simp [blk, g1]

theorem RR.setMap (h : RR Γ U μ (lk st.t) (lk st.m) a w) {n g : Nat} {kn : Nat} {ag : Bool} {l l' : List (List Int × Value)} (hn : lk st.m n = some (.map kn ag l)) (hg : μ n = some (g, 0)) (hZ : ¬ Γ.Z g) (hU : ¬ U g) (hb : g < w.heap.size) (ok : ∀ p ∈ l', p.1.length = kn ∧ p.2.oneCell' = true) :
    ∃ μ', RR Γ U μ' (lk st.t) (lk ((n, .map kn ag l') :: st.m)) a { w with heap := w.heap.setIfInBounds g (.map (ents ag 0 l').toArray l'.length) } ∧ μ' = μ := by
  have e1 : (fun k => if n = k then some (g, 0) else μ k) = μ := by funext k; split <;> simp_all
  have := h.change (w' := { w with heap := w.heap.setIfInBounds g (.map (ents ag 0 l').toArray l'.length) }) hn (.map kn ag l') (some (g, 0)) rfl rfl rfl (by simp)
    (fun g' c hc => by rw [hg] at hc; injection hc with hc; injection hc with e1 e2; subst e1; exact hU)
    (fun k hk hc => by
      have : g ≠ k := fun e => hc 0 (by rw [hg, e])
      simp [this])
    (fun g' c hc => by injection hc with hc; injection hc with e1 e2; subst e1; exact .inl ⟨0, hg⟩)
    (by
      rw [e1]
      refine ⟨fun k ice ty sz q f hk => ?_, fun k ice cs hk => ?_, fun k ka va gg hk => ?_⟩
      · have : n ≠ k := fun e => by subst e; rw [hn] at hk; cases hk
        exact ⟨ice, q, f, by rw [upd_ne _ _ this]; exact hk, Nat.le_refl _, fun _ => rfl⟩
      · have : n ≠ k := fun e => by subst e; rw [hn] at hk; cases hk
        exact ⟨ice, cs, by rw [upd_ne _ _ this]; exact hk, rfl⟩
      · by_cases e : n = k
        · subst e
          rw [hn] at hk
          injection hk with hk
          injection hk with e2 e3 e4
          subst e2 e3 e4
          exact ⟨l', by simp, rfl⟩
        · exact ⟨gg, by rw [upd_ne _ _ e]; exact hk, rfl⟩)
    ⟨g, (ents ag 0 l').toArray, l'.length, by simp, by simp [hb], ⟨rfl, rfl, ok⟩, hZ, hU⟩
  rw [e1] at this
  exact ⟨μ, by rw [lk_cons_upd]; exact this, rfl⟩

def evLookup (et : EqTab) (st : St) (t : Nat) (ok : Bool) (x k : T) : Option (Prop × Eff) :=
  match mapAt et st t x k with
  | some (n, mk, l, xs) => some (True, ⟨some (if ok then .tup [.c (.d (.s ((aget l xs).getD mk.zero))), tB (aget l xs).isSome] else .c (.d (.s ((aget l xs).getD mk.zero)))), [], [n]⟩)
  | none => none

def evMapPut (et : EqTab) (st : St) (t : Nat) (x k v : T) : Option (Prop × Eff) :=
  match mapAt et st t x k, valT v with
  | some (n, mk, l, xs), some u => some (True, ⟨none, [(n, .map mk.kn mk.ag (aput l xs u))], [n]⟩)
  | _, _ => none

def evMapEntry (et : EqTab) (st : St) (t : Nat) (x k : T) : Option (Prop × Eff) :=
  match mapAt et st t x k with
  | some (n, mk, l, xs) => some (True, ⟨some (.tup [.c (.d (.s ((aget l xs).getD mk.zero))), tI .i64 (aix l xs : Nat)]), [(n, .map mk.kn mk.ag (aent l xs mk.zero))], [n]⟩)
  | none => none

def evEntryStore (st : St) (x s v : T) : Option (Prop × Eff) :=
  match x, s, valT v with
  | .c (.mp n), .c (.d (.s (.int .i64 i))), some u => match lk st.m n with
    | some (.map kn ag l) => some (0 ≤ i ∧ i.toNat < l.length, ⟨none, [(n, .map kn ag (aset l i.toNat u))], [n]⟩)
    | _ => none
  | _, _, _ => none

theorem aget_one {l : List (List Int × Value)} {kn : Nat} (ok : ∀ p ∈ l, p.1.length = kn ∧ p.2.oneCell' = true) {z : Value} (hz : z.oneCell' = true) (x : List Int) : ((aget l x).getD z).oneCell' = true := by
  cases h : aget l x with
  | none => exact hz
  | some v => exact (ok _ (List.mem_of_getElem? (aix_at h))).2

theorem evLookup_good (hq : EqOK Γ.P et) (h : RR Γ U μ (lk st.t) (lk st.m) a w) {t : Nat} {ok : Bool} {x k : T} {v u : Value} (hx : RepT w U μ (lk st.m) x v) (hk : RepT w U μ (lk st.m) k u) {p : Prop} {e : Eff} (he : evLookup et st t ok x k = some (p, e)) : Good Γ st a e ((Instr.lookup t v u ok).run Γ.P w) := by
  unfold evLookup at he
  split at he
  case h_2 => cases he
  rename_i n mk l xs hm
  simp only [Option.some.injEq, Prod.mk.injEq] at he
  obtain ⟨_, rfl⟩ := he
  obtain ⟨g, kt, e, h1, h2, h3, h4, rfl, h6, rfl, h8, h9, h10, h11, h12, h13⟩ := mapAt_rep hq h hx hk hm
  have hone := aget_one h10 h4 xs
  have hrun : (Instr.lookup t (.map (some g)) (keyV mk.ag xs) ok).run Γ.P w = .ok (if ok then .tuple #[(aget l xs).getD mk.zero, .bool (aget l xs).isSome] else (aget l xs).getD mk.zero) w := by
    unfold Instr.lookup
    have hf := h2.find w xs h6 l fun p hp => (h10 p hp).1
    cases hg : aget l xs with
    | none => rw [hg] at hf; simp [run_underlying h1, MapKept.run_getObj_map h9, h2.check w _ xs h6, hf, h3, Result.andThen]
    | some y => rw [hg] at hf; simp [run_underlying h1, MapKept.run_getObj_map h9, h2.check w _ xs h6, hf, Result.andThen]
  cases ok with
  | false => exact Good.pure h (.c (.d (.s _ hone))) hrun
  | true =>
    refine Good.pure h (.tup rfl fun i y hy => ?_) hrun
    match i with
    | 0 => simp only [List.getElem?_cons_zero, Option.some.injEq] at hy; subst hy; exact .c (.d (.s _ hone))
    | 1 => simp only [List.getElem?_cons_succ, List.getElem?_cons_zero, Option.some.injEq] at hy; subst hy; exact tB_rep _
    | i + 2 => simp at hy

theorem modify_self {α : Type} (l : List α) (i : Nat) (f : α → α) (h : ∀ x, l[i]? = some x → f x = x) : l.modify i f = l := by
  apply List.ext_getElem?
  intro j
  rw [List.getElem?_modify]
  by_cases e : i = j
  · subst e
    cases hx : l[i]? with
    | none => simp
    | some x => simp [h x hx]
  · simp [e]

theorem evMapPut_good (hq : EqOK Γ.P et) (h : RR Γ U μ (lk st.t) (lk st.m) a w) {t : Nat} {x k z : T} {v u y : Value} (hx : RepT w U μ (lk st.m) x v) (hk : RepT w U μ (lk st.m) k u) (hz : RepT w U μ (lk st.m) z y) {p : Prop} {e : Eff} (he : evMapPut et st t x k z = some (p, e)) :
    ∃ w' U' μ', (Instr.mapUpdate t v u y).run Γ.P w = .ok () w' ∧ RR Γ U' μ' (lk st.t) (lk (e.up ++ st.m)) a w' ∧ e.v = none := by
  unfold evMapPut at he
  split at he
  case h_2 => cases he
  rename_i n mk l xs u' hm hv
  simp only [Option.some.injEq, Prod.mk.injEq] at he
  obtain ⟨_, rfl⟩ := he
  obtain ⟨rfl, hone⟩ := valT_rep hz hv
  obtain ⟨g, kt, e, h1, h2, h3, h4, rfl, h6, rfl, h8, h9, h10, h11, h12, h13⟩ := mapAt_rep hq h hx hk hm
  obtain ⟨μ', hR, _⟩ := h.setMap (l' := aput l xs y) h13 h8 h11 h12 (Array.getElem?_eq_some_iff.1 h9).1 (fun p hp => by
    rcases mem_aput hp with hp | rfl
    · exact h10 p hp
    · exact ⟨h6, hone⟩)
  refine ⟨_, U, μ', ?_, hR, rfl⟩
  unfold Instr.mapUpdate
  have hf := h2.find w xs h6 l fun p hp => (h10 p hp).1
  cases hg : aget l xs with
  | none =>
    rw [hg] at hf
    have := ents_push mk.ag xs y 0 l
    simp only [Nat.zero_add] at this
    simp [run_underlying h1, MapKept.run_getObj_map h9, MapKept.run_setObj_map _ h9, h2.check w _ xs h6, hf, aput_none hg, ← this, Result.andThen]
  | some y0 =>
    rw [hg] at hf
    have hat := aix_at hg
    have hst : Instr.keyThatStays (keyV mk.ag xs) (keyV mk.ag xs) = pure (keyV mk.ag xs) := by simp [Instr.keyThatStays, keyV_same]
    have hmod : (ents mk.ag 0 l).modify (aix l xs) (fun e => { e with key := keyV mk.ag xs, val := y }) = ents mk.ag 0 (aput l xs y) := by
      rw [aput_some hg]
      exact ents_modify _ _ _ 0 l _ fun p b hp => rfl
    have hes : ((ents mk.ag 0 l).toArray[aix l xs]?).map (·.key) = some (keyV mk.ag xs) := by simp [ents_at, hat]
    have hlen : (aput l xs y).length = l.length := by rw [aput_some hg]; simp
    simp only [Sem.run_bind, run_underlying h1, MapKept.run_getObj_map h9, h2.check w _ xs h6, hf, Option.map_some, Result.andThen, hes, hst, Option.getD_some, Sem.run_pure, MapKept.run_setObj_map _ h9, List.modify_toArray, hmod, hlen]

theorem evMapEntry_good (hq : EqOK Γ.P et) (h : RR Γ U μ (lk st.t) (lk st.m) a w) {t : Nat} {x k : T} {v u : Value} (hx : RepT w U μ (lk st.m) x v) (hk : RepT w U μ (lk st.m) k u) {p : Prop} {e : Eff} (he : evMapEntry et st t x k = some (p, e)) : Good Γ st a e ((Instr.mapEntry t v u).run Γ.P w) := by
  unfold evMapEntry at he
  split at he
  case h_2 => cases he
  rename_i n mk l xs hm
  simp only [Option.some.injEq, Prod.mk.injEq] at he
  obtain ⟨_, rfl⟩ := he
  obtain ⟨g, kt, e, h1, h2, h3, h4, rfl, h6, rfl, h8, h9, h10, h11, h12, h13⟩ := mapAt_rep hq h hx hk hm
  have hone := aget_one h10 h4 xs
  obtain ⟨μ', hR, _⟩ := h.setMap (l' := aent l xs mk.zero) h13 h8 h11 h12 (Array.getElem?_eq_some_iff.1 h9).1 (fun p hp => by
    rcases mem_aent hp with hp | rfl
    · exact h10 p hp
    · exact ⟨h6, h4⟩)
  have hres : ∀ w', RepT w' U μ' (lk ((n, .map mk.kn mk.ag (aent l xs mk.zero)) :: st.m)) (.tup [.c (.d (.s ((aget l xs).getD mk.zero))), tI .i64 (aix l xs : Nat)]) (.tuple #[(aget l xs).getD mk.zero, .int .i64 (aix l xs : Nat)]) := fun w' => .tup rfl fun i y hy => by
    match i with
    | 0 => simp only [List.getElem?_cons_zero, Option.some.injEq] at hy; subst hy; exact .c (.d (.s _ hone))
    | 1 => simp only [List.getElem?_cons_succ, List.getElem?_cons_zero, Option.some.injEq] at hy; subst hy; exact tI_rep _ _
    | i + 2 => simp at hy
  refine ⟨_, _, U, μ', ?_, hR, fun x hx => by injection hx with hx; subst hx; exact hres _⟩
  unfold Instr.mapEntry
  have hf := h2.find w xs h6 l fun p hp => (h10 p hp).1
  cases hg : aget l xs with
  | none =>
    rw [hg] at hf
    have := ents_push mk.ag xs mk.zero 0 l
    simp only [Nat.zero_add] at this
    simp [run_underlying h1, MapKept.run_getObj_map h9, MapKept.run_setObj_map _ h9, h2.check w _ xs h6, hf, aent_none hg, ← this, h3, aix_none hg, goInt, Result.andThen]
  | some y0 =>
    rw [hg] at hf
    have hat := aix_at hg
    have hst : Instr.keyThatStays (keyV mk.ag xs) (keyV mk.ag xs) = pure (keyV mk.ag xs) := by simp [Instr.keyThatStays, keyV_same]
    have hmod : (ents mk.ag 0 l).modify (aix l xs) (fun e => { e with key := keyV mk.ag xs }) = ents mk.ag 0 (aent l xs mk.zero) := by
      rw [aent_some hg]
      refine modify_self _ _ _ fun e he => ?_
      rw [ents_at, hat] at he
      simp only [Option.map_some, Option.some.injEq] at he
      rw [← he]
    have hes : ((ents mk.ag 0 l).toArray[aix l xs]?).map (·.key) = some (keyV mk.ag xs) := by simp [ents_at, hat]
    have heb : ((ents mk.ag 0 l).toArray[aix l xs]?).map (fun x => (x.born : Int)) = some ((aix l xs : Nat) : Int) := by simp [ents_at, hat]
    have hlen : (aent l xs mk.zero).length = l.length := by rw [aent_some hg]
    simp only [Sem.run_bind, run_underlying h1, MapKept.run_getObj_map h9, h2.check w _ xs h6, hf, Option.map_some, Result.andThen, hes, heb, hst, Option.getD_some, Sem.run_pure, MapKept.run_setObj_map _ h9, List.modify_toArray, hmod, hlen, goInt]

theorem ents_born (ag : Bool) (k : Int) : ∀ (j : Nat) (l : List (List Int × Value)) (i : Nat), i < l.length → k = ((j + i : Nat) : Int) → (ents ag j l).findIdx? (fun e => (e.born : Int) == k) = some i
  | j, [], i, h, _ => by simp at h
  | j, p :: r, 0, h, e => by subst e; simp [ents, List.findIdx?_cons]
  | j, p :: r, i + 1, h, e => by
    have := ents_born ag k (j + 1) r i (by simpa using h) (by rw [e]; congr 1; omega)
    have hne : ((j : Int) == k) = false := by rw [e]; simp; omega
    simp [ents, List.findIdx?_cons, this, hne]

theorem evEntryStore_good (h : RR Γ U μ (lk st.t) (lk st.m) a w) {t : Nat} {x s z : T} {v u y : Value} (hx : RepT w U μ (lk st.m) x v) (hs : RepT w U μ (lk st.m) s u) (hz : RepT w U μ (lk st.m) z y) {p : Prop} {e : Eff} (he : evEntryStore st x s z = some (p, e)) (hp : p) :
    ∃ w' U' μ', (Instr.entryStore t v u y).run Γ.P w = .ok () w' ∧ RR Γ U' μ' (lk st.t) (lk (e.up ++ st.m)) a w' ∧ e.v = none := by
  unfold evEntryStore at he
  split at he
  case h_2 => cases he
  rename_i n i u' hv
  split at he
  case h_2 => cases he
  rename_i kn ag l hn
  simp only [Option.some.injEq, Prod.mk.injEq] at he
  obtain ⟨rfl, rfl⟩ := he
  obtain ⟨hp0, hp1⟩ : 0 ≤ i ∧ i.toNat < l.length := hp
  obtain ⟨rfl, hone⟩ := valT_rep hz hv
  obtain ⟨g, es, clock, g1, g2, ⟨rfl, rfl, r3⟩, g4, g5⟩ := h.mem.ok _ _ hn
  have hu : u = .int .i64 i := by
    cases hs with
    | c hs => cases hs with
      | d hs => cases hs with
        | s _ _ => rfl
  have hv' : v = .map (some g) := by
    cases hx with
    | c hx => cases hx with
      | mp ka va gg hm => simp [blk, g1]
  subst hu hv'
  obtain ⟨μ', hR, _⟩ := h.setMap (l' := aset l i.toNat y) hn g1 g4 g5 (Array.getElem?_eq_some_iff.1 g2).1 (fun p hp => by
    rcases mem_aset hp with hp | ⟨q, hq, rfl⟩
    · exact r3 p hp
    · exact ⟨(r3 q hq).1, hone⟩)
  refine ⟨_, U, μ', ?_, hR, rfl⟩
  have hb := ents_born ag i 0 l i.toNat hp1 (by omega)
  have hmod : (ents ag 0 l).modify i.toNat (fun e => { e with val := y }) = ents ag 0 (aset l i.toNat y) := ents_modify _ _ _ 0 l _ fun p b hp => rfl
  have hlen : (aset l i.toNat y).length = l.length := by simp [aset]
  have hb' : (ents ag 0 l).toArray.findIdx? (fun e => (e.born : Int) == i) = some i.toNat := by rw [List.findIdx?_toArray]; exact hb
  unfold Instr.entryStore
  simp only [Sem.run_bind, MapKept.run_getObj_map g2, Result.andThen, asInt, asIntOf, Sem.run_pure, hb', List.modify_toArray, hmod, hlen, MapKept.run_setObj_map _ g2]
end

/-! ### A slice of an array in memory: the variable is frozen -/
def evSliceP (tab : Tab) (st : St) (t : Nat) (n off : Nat) (lo hi mx : Option T) : Option (Prop × Eff) :=
  match ((lk tab t).map fun ti => ti.k), lo, hi, mx with
  | some (TK.array k e), none, none, none => match lk tab e, lk st.m n with
    | some te, some (.box _ cs) => match toDs st.m ((cs.drop off).take (k * te.sz)) with
      | some (p, ds, ns) => if off + k * te.sz ≤ cs.length ∧ 0 < k ∧ k ≤ 1000 then some (p, ⟨some (.c (.d (.l k fun j => (ds.drop (j * te.sz)).take te.sz))), iceUp st.m (n :: ns), n :: ns⟩) else none
      | none => none
    | _, _ => none
  | _, _, _, _ => none

section
variable {Γ : Ctx} {U : Nat → Prop} {μ : Mu} {m : Mem} {st : St} {a : Act} {w : World} {tab : Tab} {et : EqTab}
theorem evSliceP_good (hT : TabOK Γ.P tab) (h : RR Γ U μ (lk st.t) (lk st.m) a w) {t n off : Nat} {v : Value} {lo hi mx : Option T} {vlo vhi vmx : Option Value} (hx : RepT w U μ (lk st.m) (.c (.ptr n off)) v)
    (hlo : BndRep w U μ (lk st.m) lo vlo) (hhi : BndRep w U μ (lk st.m) hi vhi) (hmx : BndRep w U μ (lk st.m) mx vmx) {p : Prop} {e : Eff} (he : evSliceP tab st t n off lo hi mx = some (p, e)) (hp : p) :
    Good Γ st a e ((Instr.sliceAt t v vlo vhi vmx).run Γ.P w) := by
  unfold evSliceP at he
  split at he
  case h_2 => cases he
  rename_i k el hti
  split at he
  case h_2 => cases he
  rename_i te ice cs hte hn
  split at he
  case h_2 => cases he
  rename_i pp ds ns hds
  split at he
  case isFalse => cases he
  rename_i hle
  simp only [Option.some.injEq, Prod.mk.injEq] at he
  obtain ⟨rfl, rfl⟩ := he
  obtain ⟨hle, hk0, hk1⟩ := hle
  have e1 : vlo = none := by cases vlo with
    | none => rfl
    | some v => exact hlo.elim
  have e2 : vhi = none := by cases vhi with
    | none => rfl
    | some v => exact hhi.elim
  have e3 : vmx = none := by cases vmx with
    | none => rfl
    | some v => exact hmx.elim
  subst e1 e2 e3
  obtain ⟨ti, hti, hk⟩ := Option.map_eq_some_iff.1 hti
  have hund := (hT t ti hti).array hk
  have hsz := (hT el te hte).size w
  obtain ⟨U1, g1, gu1, gi1⟩ := h.iceAll (n :: ns)
  have hm1 : ∀ q, lk (iceUp st.m (n :: ns) ++ st.m) q = lk st.m q ∨ ∃ o, lk st.m q = some o ∧ lk (iceUp st.m (n :: ns) ++ st.m) q = some o.ice := lk_iceUp st.m (n :: ns)
  have hn1 : ∃ ice2, lk (iceUp st.m (n :: ns) ++ st.m) n = some (.box ice2 cs) := by
    rcases hm1 n with e | ⟨o, ho, e⟩
    · exact ⟨ice, e.trans hn⟩
    · rw [hn] at ho; injection ho with ho; subst ho; exact ⟨true, e⟩
  obtain ⟨ice2, hn1⟩ := hn1
  obtain ⟨g, cur, ty, o1, o2, o3, o4, o5, o6, o7⟩ := g1.mem.ok n _ hn1
  have hU : U1 g := gi1 n (by simp) _ hn (fun _ _ _ => by simp) g 0 o1
  have hv : v = .pointer (some ⟨g, off, none⟩) := by
    cases hx with
    | c hx => cases hx with
      | ptr ice cs hm => simp [blk, o1]
  subst hv
  obtain ⟨d1, d2⟩ := toDs_rep g1 hm1 hds hp (fun q hq => gi1 q (List.mem_cons_of_mem _ hq)) (vs := (cur.toList.drop off).take (k * te.sz)) (fun i c hc => by
    have hi : i < k * te.sz := by
      have := (List.getElem?_eq_some_iff.1 hc).1
      simp at this
      omega
    rw [getD_take_drop _ _ _ _ _ hi]
    rw [List.getElem?_take, if_pos hi, List.getElem?_drop] at hc
    simpa [List.getD_eq_getElem?_getD] using o4 _ c hc)
  have hdl : ds.length = k * te.sz := by rw [d1]; simp; omega
  refine ⟨.slice (some ⟨g, off, none⟩) k k, w, U1, μ, ?_, g1, fun y hy => ?_⟩
  · simp [Instr.sliceAt, underlying, hund, Instr.sliceBounds, Instr.sureAddr, hsz, Addr.add]
  · injection hy with hy
    subst hy
    have hrow : ∀ j q, j < k → q < te.sz → j * te.sz + q < k * te.sz := fun j q hj hq => row_lt hj (Nat.le_refl k) hq
    refine .c (.d (.l k _ _ k te.sz (fun j q => cur.getD (off + (j * te.sz + q)) undef) (Nat.le_refl _) (Nat.le_trans hk1 (by decide)) (fun j hj => ?_) (fun _ => ⟨⟨g, off, none⟩, rfl, hU, fun j q hj hq => ?_⟩) fun j q d hj hd => ?_))
    · have : (j + 1) * te.sz ≤ k * te.sz := Nat.mul_le_mul_right _ hj
      rw [Nat.add_mul, Nat.one_mul] at this
      simp [hdl]; omega
    · have := hrow j q hj hq
      rw [add_off, cell_of_row w g _ cur ty (0, 0) o2]
      have hlt : off + (j * te.sz + q) < cur.size := by omega
      simp [hlt]
    · have hq : q < te.sz := by
        have := (List.getElem?_eq_some_iff.1 hd).1
        simp at this
        omega
      have := hrow j q hj hq
      rw [List.getElem?_take, if_pos hq, List.getElem?_drop] at hd
      have := d2 _ d hd
      rw [getD_take_drop _ _ _ _ _ (hrow j q hj hq)] at this
      simpa [List.getD_eq_getElem?_getD] using this
end

/-! ### Types of keys -/
theorem KeyLaw.int {P : Program} {k : Nat} (hk : P.underlying k = some (.int .i64)) : KeyLaw P k 1 false := by
  have hnow : ∀ (x : Int) (l : List (List Int × Value)), (∀ p ∈ l, p.1.length = 1) → ∀ i, Instr.findNow (.int .i64) (.int .i64 x) (ents false i l) i = some ((aget l [x]).map fun v => (i + aix l [x], v)) := by
    intro x l
    induction l with
    | nil => intro _ i; rfl
    | cons p r ih =>
      intro hl i
      obtain ⟨y, hy⟩ : ∃ y, p.1 = [y] := List.length_eq_one_iff.1 (hl p (by simp))
      have hkv : keyV false p.1 = .int .i64 y := by simp [keyV, hy]
      simp only [ents, Instr.findNow, hkv, Instr.sameNow, if_true]
      by_cases e : x = y
      · subst e
        simp [aget, aix, hy]
      · have e' : (x == y) = false := by simpa using e
        have e2 : p.1 ≠ [x] := by rw [hy]; simpa using fun h => e h.symm
        simp only [e', aget, aix, if_neg e2, List.getElem?_cons_succ]
        have := ih (fun q hq => hl q (by simp [hq])) (i + 1)
        unfold aget at this
        rw [this]
        congr 1
        cases r[aix r [x]]? <;> simp; omega
  refine ⟨fun w em x hx => ?_, fun w x hx l hl => ?_⟩
  · unfold Instr.checkKey
    obtain ⟨y, rfl⟩ := List.length_eq_one_iff.1 hx
    simp [run_underlying hk, keyV, Result.andThen]
  · obtain ⟨y, rfl⟩ := List.length_eq_one_iff.1 hx
    have := hnow y l hl 0
    unfold Instr.findKey
    simp only [Nat.zero_add] at this
    simp only [Sem.run_bind, run_underlying hk, Result.andThen, show keyV false [y] = .int .i64 y from rfl, this, Sem.run_pure]

theorem KeyLaw.agg {P : Program} {k kn : Nat} {d : TypeDesc} (hk : P.underlying k = some d) (hd : ∀ q, d ≠ .int q) (check : ∀ (w : World) (em : Bool) (x : List Int), x.length = kn → (Instr.checkKey em 10000 k (keyV true x)).run P w = .ok () w)
    (eq : ∀ (w : World) (x y : List Int), x.length = kn → y.length = kn → (Op.equal k (keyV true x) (keyV true y)).run P w = .ok (decide (x = y)) w) : KeyLaw P k kn true := by
  refine ⟨check, fun w x hx l hl => ?_⟩
  have hask : ∀ (l : List (List Int × Value)), (∀ p ∈ l, p.1.length = kn) → ∀ i, (Instr.findAsking k (keyV true x) (ents true i l) i).run P w = .ok ((aget l x).map fun v => (i + aix l x, v)) w := by
    intro l
    induction l with
    | nil => intro _ i; rfl
    | cons p r ih =>
      intro hl i
      have he := eq w x p.1 hx (hl p (by simp))
      simp only [ents, Instr.findAsking, Sem.run_bind, he, Result.andThen]
      by_cases e : x = p.1
      · simp [e, aget, aix]
      · have e2 : p.1 ≠ x := fun h => e h.symm
        have := ih (fun q hq => hl q (by simp [hq])) (i + 1)
        simp only [e, decide_false, Bool.false_eq_true, if_false, this, aget, aix, if_neg e2, List.getElem?_cons_succ]
        congr 1
        cases r[aix r x]? <;> simp; omega
  unfold Instr.findKey
  simp only [Sem.run_bind, run_underlying hk, Result.andThen]
  cases l with
  | nil => rfl
  | cons p r =>
    have hn : Instr.findNow d (keyV true x) (ents true 0 (p :: r)) 0 = none := by
      simp only [ents, Instr.findNow]
      have : Instr.sameNow d (keyV true x) (keyV true p.1) = none := by simp [keyV, Instr.sameNow]
      rw [this]
    rw [hn]
    simpa using hask (p :: r) hl 0
end Go.V

/- V12: every operation without a call, in one. -/
set_option linter.unusedVariables false
namespace Go.V

def opdL (st : St) : List Operand → Option (List T)
  | [] => some []
  | x :: r => match opd st x, opdL st r with
    | some y, some l => some (y :: l)
    | _, _ => none
def opdP (st : St) : List (Nat × Operand) → Option (List (Nat × T))
  | [] => some []
  | (i, x) :: r => match opd st x, opdP st r with
    | some y, some l => some ((i, y) :: l)
    | _, _ => none
def opdO (st : St) : Option Operand → Option (Option T)
  | none => some none
  | some x => (opd st x).map some

/-- What an operation leaves that is not wanted. -/
def unT : T → Bool
  | .tup [] => true
  | _ => false

def evPick (c : T) (x y : Option T) : Option (Prop × Eff) :=
  match asB c with
  | none => none
  | some b => match x, y with
    | some u, some v => match asB u, asB v with
      | some b1, some b2 => some (True, ⟨some (tB (bif b then b1 else b2)), [], []⟩)
      | _, _ => if unT v then some (b = true, ⟨some u, [], []⟩) else if unT u then some (b = false, ⟨some v, [], []⟩) else none
    | some u, none => some (b = true, ⟨some u, [], []⟩)
    | none, some v => some (b = false, ⟨some v, [], []⟩)
    | none, none => none

def evNil (x : T) : Option (Prop × Eff) :=
  match x with
  | .c (.ptr _ _) => some (True, ⟨some x, [], []⟩)
  | .el _ _ _ _ => some (True, ⟨some x, [], []⟩)
  | .rp _ => some (True, ⟨some x, [], []⟩)
  | .c (.clo (.func _) _) => some (True, ⟨some x, [], []⟩)
  | .c (.d (.s (.func (.func _) _ _))) => some (True, ⟨some x, [], []⟩)
  | _ => none

def ev2 (f : T → T → Option (Prop × Eff)) (x y : Option T) : Option (Prop × Eff) :=
  match x, y with
  | some u, some v => f u v
  | _, _ => none

def ev3 (f : T → T → T → Option (Prop × Eff)) (x y z : Option T) : Option (Prop × Eff) :=
  match x, y, z with
  | some u, some v, some r => f u v r
  | _, _, _ => none
def evSl (tab : Tab) (st : St) (t : Nat) (u : T) (l h m : Option T) : Option (Prop × Eff) := match u with
  | .c (.ptr n off) => evSliceP tab st t n off l h m
  | u => evSlice tab st t u l h m

def evB (tab : Tab) (st : St) (dst : Option Nat) (b : Builtin) (ts : List Nat) (xs : List T) : Option (Prop × Eff) :=
  match b, ts, xs with
  | .append, [t, t'], [x, y] => if t = t' then evAppend tab st dst t x y else none
  | .len, [t], [x] => evLen tab st t x
  | .max, _, xs => evMax xs
  | .min, _, xs => evMin xs
  | _, _, _ => none

def ev (tab : Tab) (et : EqTab) (st : St) (dst : Option Nat) : Op → Option (Prop × Eff)
  | .move x => (opd st x).map fun v => (True, ⟨some v, [], []⟩)
  | .assign x => (opd st x).map fun v => (True, ⟨some v, [], []⟩)
  | .pick c x y => (opd st c).bind fun u => evPick u (opd st x) (opd st y)
  | .alloc t => evAlloc tab st dst t
  | .box _ x => (opd st x).bind (evBox st dst)
  | .build t ps => (opdP st ps.toList).bind (evBuild tab t)
  | .buildSlice t len ps => (opdP st ps.toList).bind (evBuildSlice tab st dst t len)
  | .load t x => (opd st x).bind (evLoad tab st t)
  | .store t x y => ev2 (evStore tab st t) (opd st x) (opd st y)
  | .nilCheck x => (opd st x).bind evNil
  | .binOp op t x y _ => ev2 (evBin tab et op t) (opd st x) (opd st y)
  | .unOp op _ x => (opd st x).bind (evUn op)
  | .convert s t x => (opd st x).bind (evConv tab s t)
  | .makeFunc f xs ys => match opdL st xs.toList, opdL st ys.toList with
    | some us, some vs => evFunc f us vs
    | _, _ => none
  | .makeSlice t x y => ev2 (evMake tab st dst t) (opd st x) (opd st y)
  | .slice t x lo hi mx => match opd st x, opdO st lo, opdO st hi, opdO st mx with
    | some u, some l, some h, some m => evSl tab st t u l h m
    | _, _, _, _ => none
  | .fieldAddr s x i => (opd st x).bind fun u => evFieldAddr tab s u i
  | .field t x i => (opd st x).bind fun u => evField tab t u i
  | .indexAddr t x y => ev2 (evIndexAddr tab st t) (opd st x) (opd st y)
  | .index t x y => ev2 (evIndex tab t) (opd st x) (opd st y)
  | .extract x i => (opd st x).bind fun u => evExtract u i
  | .makeMap t r => (opdO st r).bind (evMakeMap et st dst t)
  | .lookup t x k ok => ev2 (evLookup et st t ok) (opd st x) (opd st k)
  | .mapUpdate t x k v => ev3 (evMapPut et st t) (opd st x) (opd st k) (opd st v)
  | .insert t x k v => ev3 (evMapPut et st t) (opd st x) (opd st k) (opd st v)
  | .mapEntry t x k => ev2 (evMapEntry et st t) (opd st x) (opd st k)
  | .entryStore _ x i v => ev3 (evEntryStore st) (opd st x) (opd st i) (opd st v)
  | .call { callee := .builtin b, args := args, argTypes := ts } => (opdL st args.toList).bind (evB tab st dst b ts.toList)
  | _ => none

section
variable {Γ : Ctx} {U : Nat → Prop} {μ : Mu} {m : Mem} {st : St} {a : Act} {w : World} {tab : Tab} {et : EqTab} {Q : Exit → Act → World → Prop}

theorem opdL_rep (h : RR Γ U μ (lk st.t) m a w) : ∀ {xs : List Operand} {l : List T}, opdL st xs = some l → AllRep w U μ m l (xs.map a.eval)
  | [], l, hl => by simp only [opdL, Option.some.injEq] at hl; subst hl; exact ⟨rfl, fun i x hx => by simp at hx⟩
  | x :: xs, l, hl => by
    simp only [opdL] at hl
    split at hl
    case h_2 => cases hl
    rename_i y l' hy hl'
    injection hl with hl
    subst hl
    obtain ⟨i1, i2⟩ := opdL_rep h hl'
    refine ⟨by simp [i1], fun i z hz => ?_⟩
    cases i with
    | zero =>
      simp only [List.getElem?_cons_zero, Option.some.injEq] at hz
      subst hz
      simpa using opd_rep h hy
    | succ i => simpa using i2 i z (by simpa using hz)

theorem opdP_rep (h : RR Γ U μ (lk st.t) m a w) : ∀ {xs : List (Nat × Operand)} {l : List (Nat × T)}, opdP st xs = some l → PartsRep w U μ m l (xs.map fun p => (p.1, a.eval p.2))
  | [], l, hl => by simp only [opdP, Option.some.injEq] at hl; subst hl; exact ⟨rfl, fun j i y i' v hx => by simp at hx⟩
  | (i, x) :: xs, l, hl => by
    simp only [opdP] at hl
    split at hl
    case h_2 => cases hl
    rename_i y l' hy hl'
    injection hl with hl
    subst hl
    obtain ⟨i1, i2⟩ := opdP_rep h hl'
    refine ⟨by simp [i1], fun j k z k' v hz hv => ?_⟩
    cases j with
    | zero =>
      simp only [List.getElem?_cons_zero, Option.some.injEq, Prod.mk.injEq, List.map_cons] at hz hv
      obtain ⟨rfl, rfl⟩ := hz
      obtain ⟨rfl, rfl⟩ := hv
      exact ⟨rfl, opd_rep h hy⟩
    | succ j => exact i2 j k z k' v (by simpa using hz) (by simpa using hv)

theorem opdO_rep (h : RR Γ U μ (lk st.t) m a w) {x : Option Operand} {l : Option T} (hl : opdO st x = some l) : BndRep w U μ m l (x.map a.eval) := by
  cases x with
  | none => simp only [opdO, Option.some.injEq] at hl; subst hl; trivial
  | some x =>
    simp only [opdO] at hl
    obtain ⟨y, hy, rfl⟩ := Option.map_eq_some_iff.1 hl
    exact opd_rep h hy

theorem evPick_good (h : RR Γ U μ (lk st.t) (lk st.m) a w) {c : T} {x y : Operand} {vc : Value} (hc : RepT w U μ (lk st.m) c vc) {p : Prop} {e : Eff} (he : evPick c (opd st x) (opd st y) = some (p, e)) (hp : p) :
    Good Γ st a e ((do pure (if ← asBool vc then a.eval x else a.eval y) : Sem Value).run Γ.P w) := by
  unfold evPick at he
  split at he
  · cases he
  rename_i b hb
  have := asB_rep hc hb
  subst this
  split at he
  · rename_i u v hx hy
    split at he
    · rename_i b1 b2 h1 h2
      simp only [Option.some.injEq, Prod.mk.injEq] at he
      obtain ⟨_, rfl⟩ := he
      have e1 := asB_rep (opd_rep h hx) h1
      have e2 := asB_rep (opd_rep h hy) h2
      refine Good.pure h (tB_rep _) (by cases b <;> simp [asBool, e1, e2])
    · split at he
      · simp only [Option.some.injEq, Prod.mk.injEq] at he
        obtain ⟨rfl, rfl⟩ := he
        have hp : b = true := hp
        subst hp
        exact Good.pure h (opd_rep h hx) (by simp [asBool])
      · split at he
        · simp only [Option.some.injEq, Prod.mk.injEq] at he
          obtain ⟨rfl, rfl⟩ := he
          have hp : b = false := hp
          subst hp
          exact Good.pure h (opd_rep h hy) (by simp [asBool])
        · cases he
  · rename_i u hx hy
    simp only [Option.some.injEq, Prod.mk.injEq] at he
    obtain ⟨rfl, rfl⟩ := he
    have hp : b = true := hp
    subst hp
    exact Good.pure h (opd_rep h hx) (by simp [asBool])
  · rename_i v hx hy
    simp only [Option.some.injEq, Prod.mk.injEq] at he
    obtain ⟨rfl, rfl⟩ := he
    have hp : b = false := hp
    subst hp
    exact Good.pure h (opd_rep h hy) (by simp [asBool])
  · cases he

theorem wp_good {o : Oper} {e : Eff} {s : Sem Value} (hs : execOp a.eval o = (do pure (.value (← s)))) (hg : Good Γ st a e (s.run Γ.P w)) (hd : ∀ d, o.dst = some d → d < Γ.N) : o.wp Γ.P a w (R Γ (st.app o.dst e)) Q := by
  obtain ⟨v, w', U', μ', hr, hR, hv⟩ := hg
  unfold Oper.wp
  rw [hs]
  simp only [Sem.run_bind, hr, Result.andThen, Sem.run_pure, Oper.upon]
  exact R.app hR hd hv

/-- The operation's value in one step. -/
theorem wp_good' {o : Oper} {e : Eff} {v : Value} (hs : execOp a.eval o = pure (.value v)) (hg : Good Γ st a e (.ok v w)) (hd : ∀ d, o.dst = some d → d < Γ.N) : o.wp Γ.P a w (R Γ (st.app o.dst e)) Q :=
  wp_good (s := pure v) (by rw [hs]; rfl) (by simpa using hg) hd

theorem evNil_good (h : RR Γ U μ (lk st.t) (lk st.m) a w) {x : T} {v : Value} (hx : RepT w U μ (lk st.m) x v) {p : Prop} {e : Eff} (he : evNil x = some (p, e)) :
    Good Γ st a e (.ok v w) ∧ ((∃ ad, v = .pointer (some ad)) ∨ ∃ f u c, v = .func (.func f) u c) := by
  unfold evNil at he
  split at he <;> first | (cases he; done) | skip
  all_goals
    simp only [Option.some.injEq, Prod.mk.injEq] at he
    obtain ⟨_, rfl⟩ := he
    refine ⟨Good.pure h hx rfl, ?_⟩
  · cases hx with
    | c hx => cases hx with
      | ptr ice cs hm => exact .inl ⟨_, rfl⟩
  · cases hx with
    | el ice ty sz k f hm hk hj hv => exact .inl ⟨_, rfl⟩
  · cases hx with
    | rp ad vals hU h => exact .inl ⟨_, rfl⟩
  · cases hx with
    | c hx => cases hx with
      | clo hs h => exact .inr ⟨_, _, _, rfl⟩
  · cases hx with
    | c hx => cases hx with
      | d hx => cases hx with
        | s _ _ => exact .inr ⟨_, _, _, rfl⟩

theorem ev2_some {f : T → T → Option (Prop × Eff)} {x y : Option T} {r : Prop × Eff} (h : ev2 f x y = some r) : ∃ u v, x = some u ∧ y = some v ∧ f u v = some r := by
  unfold ev2 at h
  split at h
  · exact ⟨_, _, rfl, rfl, h⟩
  · cases h

theorem ev3_some {f : T → T → T → Option (Prop × Eff)} {x y z : Option T} {r : Prop × Eff} (h : ev3 f x y z = some r) : ∃ u v t, x = some u ∧ y = some v ∧ z = some t ∧ f u v t = some r := by
  unfold ev3 at h
  split at h
  · exact ⟨_, _, _, rfl, rfl, rfl, h⟩
  · cases h

theorem evSl_good (hT : TabOK Γ.P tab) (h : RR Γ U μ (lk st.t) (lk st.m) a w) {t : Nat} {x : T} {v : Value} {lo hi mx : Option T} {vlo vhi vmx : Option Value} (hx : RepT w U μ (lk st.m) x v)
    (hlo : BndRep w U μ (lk st.m) lo vlo) (hhi : BndRep w U μ (lk st.m) hi vhi) (hmx : BndRep w U μ (lk st.m) mx vmx) {p : Prop} {e : Eff} (he : evSl tab st t x lo hi mx = some (p, e)) (hp : p) :
    Good Γ st a e ((Instr.sliceAt t v vlo vhi vmx).run Γ.P w) := by
  unfold evSl at he
  split at he
  · exact evSliceP_good hT h hx hlo hhi hmx he hp
  · exact evSlice_good hT h hx hlo hhi hmx he hp

theorem ev_sound (hT : TabOK Γ.P tab) (hq : EqOK Γ.P et) (hR : R Γ st a w) {o : Oper} {p : Prop} {e : Eff} (he : ev tab et st o.dst o.op = some (p, e)) (hp : p) (hd : ∀ d, o.dst = some d → d < Γ.N) : o.wp Γ.P a w (R Γ (st.app o.dst e)) Q := by
  obtain ⟨U, μ, h⟩ := hR
  obtain ⟨dst, op, type, pos, after, guard⟩ := o
  simp only at he hd
  cases op <;> simp only [ev, reduceCtorEq] at he
  case move x =>
    obtain ⟨v, hv, he⟩ := Option.map_eq_some_iff.1 he
    simp only [Prod.mk.injEq] at he
    obtain ⟨_, rfl⟩ := he
    exact wp_good' (v := a.eval x) rfl (Good.pure h (opd_rep h hv) rfl) hd
  case assign x =>
    obtain ⟨v, hv, he⟩ := Option.map_eq_some_iff.1 he
    simp only [Prod.mk.injEq] at he
    obtain ⟨_, rfl⟩ := he
    exact wp_good' (v := a.eval x) rfl (Good.pure h (opd_rep h hv) rfl) hd
  case pick c x y =>
    obtain ⟨u, hu, he⟩ := Option.bind_eq_some_iff.1 he
    exact wp_good (s := do pure (if ← asBool (a.eval c) then a.eval x else a.eval y)) (by simp [execOp]) (evPick_good h (opd_rep h hu) he hp) hd
  case alloc t => exact wp_good rfl (evAlloc_good hT h he) hd
  case box t x =>
    obtain ⟨u, hu, he⟩ := Option.bind_eq_some_iff.1 he
    exact wp_good rfl (evBox_good h (opd_rep h hu) he) hd
  case build t ps =>
    obtain ⟨u, hu, he⟩ := Option.bind_eq_some_iff.1 he
    exact wp_good rfl (evBuild_good hT h (by simpa using opdP_rep h hu) he) hd
  case buildSlice t len ps =>
    obtain ⟨u, hu, he⟩ := Option.bind_eq_some_iff.1 he
    exact wp_good rfl (evBuildSlice_good hT h (by simpa using opdP_rep h hu) he hp) hd
  case load t x =>
    obtain ⟨u, hu, he⟩ := Option.bind_eq_some_iff.1 he
    exact wp_good rfl (evLoad_good hT h (opd_rep h hu) he hp) hd
  case store t x y =>
    obtain ⟨u, v, hu, hv, he⟩ := ev2_some he
    obtain ⟨w', U', μ', hr, hR', hn⟩ := evStore_good hT h (opd_rep h hu) (opd_rep h hv) he hp
    unfold Oper.wp execOp
    simp only [Sem.run_bind, hr, Result.andThen, Sem.run_pure, Oper.upon]
    exact R.app hR' hd (fun x hx => by rw [hn] at hx; cases hx)
  case nilCheck x =>
    obtain ⟨u, hu, he⟩ := Option.bind_eq_some_iff.1 he
    obtain ⟨hg, hv⟩ := evNil_good h (opd_rep h hu) he
    refine wp_good' (v := a.eval x) ?_ hg hd
    rcases hv with ⟨ad, hv⟩ | ⟨f, u, c, hv⟩
    · simp only [execOp, hv]
    · simp only [execOp, hv]
  case binOp op t x y t2 =>
    obtain ⟨u, v, hu, hv, he⟩ := ev2_some he
    exact wp_good rfl (evBin_good hT hq h (opd_rep h hu) (opd_rep h hv) he hp x y) hd
  case unOp op t x =>
    obtain ⟨u, hu, he⟩ := Option.bind_eq_some_iff.1 he
    exact wp_good rfl (evUn_good h (opd_rep h hu) he) hd
  case convert s t x =>
    obtain ⟨u, hu, he⟩ := Option.bind_eq_some_iff.1 he
    exact wp_good rfl (evConv_good hT h (opd_rep h hu) he) hd
  case makeFunc f xs ys =>
    split at he
    case h_2 => cases he
    rename_i us vs hu hv
    exact wp_good rfl (evFunc_good h (by simpa using opdL_rep h hu) (by simpa using opdL_rep h hv) he) hd
  case makeSlice t x y =>
    obtain ⟨u, v, hu, hv, he⟩ := ev2_some he
    exact wp_good rfl (evMake_good hT h (opd_rep h hu) (opd_rep h hv) he hp) hd
  case slice t x lo hi mx =>
    split at he
    case h_2 => cases he
    rename_i u l hh mm hu hl hh' hm
    exact wp_good rfl (evSl_good hT h (opd_rep h hu) (opdO_rep h hl) (opdO_rep h hh') (opdO_rep h hm) he hp) hd
  case fieldAddr s x i =>
    obtain ⟨u, hu, he⟩ := Option.bind_eq_some_iff.1 he
    exact wp_good rfl (evFieldAddr_good hT h (opd_rep h hu) he hp) hd
  case field t x i =>
    obtain ⟨u, hu, he⟩ := Option.bind_eq_some_iff.1 he
    exact wp_good rfl (evField_good hT h (opd_rep h hu) he) hd
  case indexAddr t x y =>
    obtain ⟨u, v, hu, hv, he⟩ := ev2_some he
    exact wp_good rfl (evIndexAddr_good hT h (opd_rep h hu) (opd_rep h hv) he hp) hd
  case index t x y =>
    obtain ⟨u, v, hu, hv, he⟩ := ev2_some he
    exact wp_good rfl (evIndex_good hT h (opd_rep h hu) (opd_rep h hv) he hp) hd
  case extract x i =>
    obtain ⟨u, hu, he⟩ := Option.bind_eq_some_iff.1 he
    exact wp_good rfl (evExtract_good h (opd_rep h hu) he) hd
  case makeMap t r =>
    obtain ⟨u, hu, he⟩ := Option.bind_eq_some_iff.1 he
    cases r with
    | none =>
      simp only [opdO, Option.some.injEq] at hu
      subst hu
      exact wp_good rfl (evMakeMap_good h he) hd
    | some r =>
      exfalso
      simp only [opdO] at hu
      obtain ⟨y, _, rfl⟩ := Option.map_eq_some_iff.1 hu
      cases dst <;> cases hmk : lk et.k t <;> simp [evMakeMap, hmk] at he
  case lookup t x k ok =>
    obtain ⟨u, v, hu, hv, he⟩ := ev2_some he
    exact wp_good rfl (evLookup_good hq h (opd_rep h hu) (opd_rep h hv) he) hd
  case mapUpdate t x k v =>
    obtain ⟨u, v, r, hu, hv, hr, he⟩ := ev3_some he
    obtain ⟨w', U', μ', hrun, hR', hn⟩ := evMapPut_good hq h (opd_rep h hu) (opd_rep h hv) (opd_rep h hr) he
    unfold Oper.wp execOp
    simp only [Sem.run_bind, hrun, Result.andThen, Sem.run_pure, Oper.upon]
    exact R.app hR' hd (fun x hx => by rw [hn] at hx; cases hx)
  case mapEntry t x k =>
    obtain ⟨u, v, hu, hv, he⟩ := ev2_some he
    exact wp_good rfl (evMapEntry_good hq h (opd_rep h hu) (opd_rep h hv) he) hd
  case insert t x k v =>
    obtain ⟨u, v, r, hu, hv, hr, he⟩ := ev3_some he
    obtain ⟨w', U', μ', hrun, hR', hn⟩ := evMapPut_good hq h (opd_rep h hu) (opd_rep h hv) (opd_rep h hr) he
    unfold Oper.wp execOp
    simp only [Sem.run_bind, hrun, Result.andThen, Sem.run_pure, Oper.upon]
    exact R.app hR' hd (fun x hx => by rw [hn] at hx; cases hx)
  case entryStore t x i v =>
    obtain ⟨u, v, r, hu, hv, hr, he⟩ := ev3_some he
    obtain ⟨w', U', μ', hrun, hR', hn⟩ := evEntryStore_good (t := t) h (opd_rep h hu) (opd_rep h hv) (opd_rep h hr) he hp
    unfold Oper.wp execOp
    simp only [Sem.run_bind, hrun, Result.andThen, Sem.run_pure, Oper.upon]
    exact R.app hR' hd (fun x hx => by rw [hn] at hx; cases hx)
  case call c =>
    obtain ⟨callee, args, ts⟩ := c
    cases callee <;> simp only [reduceCtorEq] at he
    rename_i b
    obtain ⟨us, hus, he⟩ := Option.bind_eq_some_iff.1 he
    have hrep := opdL_rep h hus
    have hargs : (args.map a.eval).toList = args.toList.map a.eval := by simp
    unfold evB at he
    split at he
    · rename_i t t' x y hts _
      split at he
      case isFalse => cases he
      rename_i heq
      subst heq
      have hts' : ts = #[t, t] := by rw [show ts = ts.toList.toArray from rfl, hts]
      obtain ⟨u, v, hav⟩ : ∃ u v, args.map a.eval = #[u, v] := by
        have := hrep.1
        match hl : args.toList.map a.eval, this with
        | [u, v], _ => exact ⟨u, v, by rw [show args.map a.eval = (args.map a.eval).toList.toArray from rfl, hargs, hl]⟩
      have hl : args.toList.map a.eval = [u, v] := by rw [← hargs, hav]
      rw [hl] at hrep
      obtain ⟨r1, r2⟩ := hrep.tail
      obtain ⟨r2, _⟩ := r2.tail
      refine wp_good (s := Builtin.append_ #[t, t] type #[u, v]) ?_ (evAppend_good hT h r1 r2 he hp) hd
      simp only [execOp, resolve, invoke, builtin, hav, hts']
      rfl
    · rename_i t x hts _
      have hts' : ts = #[t] := by rw [show ts = ts.toList.toArray from rfl, hts]
      obtain ⟨u, hav⟩ : ∃ u, args.map a.eval = #[u] := by
        have := hrep.1
        match hl : args.toList.map a.eval, this with
        | [u], _ => exact ⟨u, by rw [show args.map a.eval = (args.map a.eval).toList.toArray from rfl, hargs, hl]⟩
      have hl : args.toList.map a.eval = [u] := by rw [← hargs, hav]
      rw [hl] at hrep
      obtain ⟨r1, _⟩ := hrep.tail
      refine wp_good (s := Builtin.len_ #[t] type #[u]) ?_ (evLen_good hT h r1 he hp) hd
      simp only [execOp, resolve, invoke, builtin, hav, hts']
      rfl
    · refine wp_good (s := Builtin.max_ ts type (args.map a.eval)) ?_ (evMax_good h (by rw [hargs]; exact hrep) he) hd
      simp only [execOp, resolve, invoke, builtin]
      rfl
    · refine wp_good (s := Builtin.min_ ts type (args.map a.eval)) ?_ (evMin_good h (by rw [hargs]; exact hrep) he) hd
      simp only [execOp, resolve, invoke, builtin]
      rfl
    · cases he
end
end Go.V
