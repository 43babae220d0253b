/- V29: the arguments that a statement speaks of, as pure data; and how a contract of a law closes its row. -/
import Derived.ProofKit
import Derived.Deep.Slices
import Derived.OpenShut
import Derived.JoinedCond
import Derived.Test.YtiajgnpobcidmabVa
import Derived.Test.YtiajgnpobcidmabVb
import Derived.Test.YtiajgnpobcidmabVc
set_option linter.unusedSimpArgs false
set_option linter.unusedVariables false

set_option linter.unusedVariables false
namespace Go.V
open Go.ChangeShapes Go.WideShapes Go.WideElems Go.RowKit

/-- Shapes of cells. -/
inductive Sh where
  | int (k : IntKind) | bool | str | slice (l : List Sh)

/-- Data of a shape. -/
inductive Fits : Sh → D → Prop
  | int {k : IntKind} {n : Int} (h : (Lit.int k n).wf = true) : Fits (.int k) (.s (.int k n))
  | bool (b : Bool) : Fits .bool (.s (.bool b))
  | str {s : ByteArray} (h : s.size ≤ maxLen) : Fits .str (.s (.string s))
  | slice {l : List Sh} {n : Nat} {f : Nat → List D} (hn : n ≤ maxLen) (hl : ∀ j, j < n → (f j).length = l.length) (h : ∀ (j q : Nat) s d, j < n → l[q]? = some s → (f j)[q]? = some d → Fits s d) : Fits (.slice l) (.l n f)

def shpFs (tab : Tab) (sub : Nat → Option (List Sh)) : Nat → List (Nat × Nat) → Option (List Sh)
  | _, [] => some []
  | o, (off, ft) :: r => if off = o then match lk tab ft, sub ft with
    | some ti, some l => if l.length = ti.sz then (shpFs tab sub (o + ti.sz) r).map (l ++ ·) else none
    | _, _ => none
    else none
def shp (tab : Tab) : Nat → Nat → Option (List Sh)
  | 0, _ => none
  | m + 1, t => match lk tab t with
    | none => none
    | some ti => match ti.k with
      | .int k => some [.int k]
      | .bool => some [.bool]
      | .str => some [.str]
      | .slice e => match lk tab e, shp tab m e with
        | some te, some l => if 0 < te.sz ∧ l.length = te.sz then some [.slice l] else none
        | _, _ => none
      | .struct fs => (shpFs tab (shp tab m) 0 fs).bind fun l => if l.length = ti.sz then some l else none
      | .array n e => match lk tab e, shp tab m e with
        | some te, some l => if l.length = te.sz ∧ n * te.sz = ti.sz then some (List.replicate n l).flatten else none
        | _, _ => none
      | _ => none

/-- Cells, and data of their shapes. -/
def R3 (w : World) (U : Nat → Prop) : List Sh → List Value → List D → Prop
  | [], [], [] => True
  | s :: ss, v :: vs, d :: ds => (Fits s d ∧ RepD w U d v) ∧ R3 w U ss vs ds
  | _, _, _ => False

section
variable {w : World} {U : Nat → Prop} {H : Type} {enc : TypeId × Value → H} {P : Program} {tab : Tab} {held : Bool}

theorem R3.append : ∀ {s1 : List Sh} {v1 : List Value} {d1 : List D} {s2 v2 d2}, R3 w U s1 v1 d1 → R3 w U s2 v2 d2 → R3 w U (s1 ++ s2) (v1 ++ v2) (d1 ++ d2)
  | [], [], [], _, _, _, _, k => k
  | _ :: _, _ :: _, _ :: _, _, _, _, h, k => ⟨h.1, R3.append h.2 k⟩
  | [], _ :: _, _, _, _, _, h, _ => by simp [R3] at h
  | [], [], _ :: _, _, _, _, h, _ => by simp [R3] at h
  | _ :: _, [], _, _, _, _, h, _ => by simp [R3] at h
  | _ :: _, _ :: _, [], _, _, _, h, _ => by simp [R3] at h

theorem R3.spec : ∀ {ss : List Sh} {vs : List Value} {ds : List D}, R3 w U ss vs ds → vs.length = ss.length ∧ ds.length = ss.length ∧ ∀ (i : Nat) s d, ss[i]? = some s → ds[i]? = some d → Fits s d ∧ RepD w U d (vs.getD i undef)
  | [], [], [], _ => ⟨rfl, rfl, fun i s d h => by simp at h⟩
  | s :: ss, v :: vs, d :: ds, h => by
    obtain ⟨h1, h2, h3⟩ := R3.spec h.2
    refine ⟨by simp [h1], by simp [h2], fun i s' d' hs hd => ?_⟩
    cases i with
    | zero =>
      simp only [List.getElem?_cons_zero, Option.some.injEq] at hs hd
      subst hs hd
      exact h.1
    | succ i => simpa using h3 i s' d' (by simpa using hs) (by simpa using hd)
  | [], _ :: _, _, h => by simp [R3] at h
  | [], [], _ :: _, h => by simp [R3] at h
  | _ :: _, [], _, h => by simp [R3] at h
  | _ :: _, _ :: _, [], h => by simp [R3] at h

theorem Ent.cellsOf {t : Nat} {ti : TI} (h : Ent P t ti) : P.cellsOf t = ti.sz := by
  obtain ⟨i, z, hi, hs, _⟩ := h.info
  simp [Program.cellsOf, hi, hs]

theorem take_drop_cat {α : Type} (cs : List α) (o n : Nat) : cs.drop o = (cs.drop o).take n ++ cs.drop (o + n) := by
  rw [← List.drop_drop, List.take_append_drop]

theorem trod_fits (hT : TabOK P tab) : ∀ (m t : Nat) (shs : List Sh) (fuel : Nat) (cs : List Value) (x : DataW H × List MemPlace), shp tab m t = some shs →
    DataW.trod enc P w 0 (fun _ => true) held fuel t cs = some x → ∃ ds, R3 w (fun k => k < w.heap.size) shs cs ds
  | 0, t, shs, fuel, cs, x, hs, h => by simp [shp] at hs
  | m + 1, t, shs, fuel, cs, x, hs, h => by
    simp only [shp] at hs
    split at hs
    · cases hs
    rename_i ti hti
    have hE := hT t ti hti
    split at hs
    · rename_i k hk
      injection hs with hs
      subst hs
      obtain ⟨n, rfl, _, hw⟩ := DataW.trod_int (hE.int hk) h
      exact ⟨[.s (.int k n)], ⟨.int hw, .s _ rfl⟩, trivial⟩
    · rename_i hk
      injection hs with hs
      subst hs
      obtain ⟨b, rfl, _⟩ := DataW.trod_bool (hE.bool hk) h
      exact ⟨[.s (.bool b)], ⟨.bool b, .s _ rfl⟩, trivial⟩
    · rename_i hk
      injection hs with hs
      subst hs
      have hu : P.underlying t = some .string := by
        obtain ⟨d, hd, hkd⟩ := hE.desc
        rw [hk] at hkd
        cases d <;> simp [kindOf] at hkd
        exact hd
      obtain ⟨s, rfl, _, hw⟩ := DataW.trod_string hu h
      exact ⟨[.s (.string s)], ⟨.str hw, .s _ rfl⟩, trivial⟩
    · rename_i e hk
      split at hs
      case h_2 => cases hs
      rename_i te l hte hl
      split at hs
      case isFalse => cases hs
      rename_i hle
      obtain ⟨hpos, hle⟩ := hle
      injection hs with hs
      subst hs
      have hEe := hT e te hte
      rcases Go.Deep.open_slice (hE.slice hk) h with ⟨rfl, _⟩ | ⟨a, len, cap, mm, n, Dd, Pl, rfl, hb, hlc, hcm, hmm, _, hi⟩
      · exact ⟨[.l 0 fun _ => []], ⟨.slice (Nat.zero_le _) (fun j hj => by omega) (fun j q s d hj => by omega), .l 0 _ none 0 0 (fun _ _ => undef) (Nat.le_refl _) (Nat.zero_le _) (fun j hj => by omega) (fun h0 => by omega) (fun j q d hj => by omega)⟩, trivial⟩
      · have hel : ∀ j, ∃ ds, j < len → ∃ cs', w.cells? 0 (a.add (j * te.sz)) te.sz = some cs' ∧ R3 w (fun k => k < w.heap.size) l cs' ds := fun j => by
          by_cases hj : j < len
          · obtain ⟨cs', h1, h2⟩ := hi j (by rw [hmm]; show j < cap; omega)
            rw [hEe.cellsOf] at h1
            obtain ⟨ds, hds⟩ := trod_fits hT m e l n cs' _ hl h2
            exact ⟨ds, fun _ => ⟨cs', h1, hds⟩⟩
          · exact ⟨[], fun h => absurd h hj⟩
        have hel2 := Classical.axiomOfChoice hel
        obtain ⟨f, hf⟩ := hel2
        have hlen : ∀ j, j < len → (f j).length = l.length := fun j hj => by
          obtain ⟨cs', _, h2⟩ := hf j hj
          exact h2.spec.2.1
        refine ⟨[.l len f], ⟨.slice (Nat.le_trans hlc hcm) hlen fun j q s d hj hs hd => ?_, ?_⟩, trivial⟩
        · obtain ⟨cs', _, h2⟩ := hf j hj
          exact (h2.spec.2.2 q s d hs hd).1
        · refine .l len f (some a) cap te.sz (fun j q => (w.cell? (a.add (j * te.sz + q))).getD undef) hlc hcm (fun j hj => by rw [hlen j hj, hle]) (fun h0 => ⟨a, rfl, ?_, fun j q hj hq => ?_⟩) (fun j q d hj hd => ?_)
          · obtain ⟨cs', h1, _⟩ := hf 0 h0
            obtain ⟨_, hl1, hc1⟩ := World.cells?_some h1
            have := hc1 0 hpos
            rw [List.getElem?_eq_getElem (by omega)] at this
            have hb2 : ((a.add (0 * te.sz)).add 0).block = a.block := by unfold Addr.add; split <;> (try split) <;> rfl
            unfold World.cell? at this
            rw [hb2] at this
            refine Nat.lt_of_not_le fun hge => ?_
            rw [Array.getElem?_eq_none hge] at this
            simp at this
          · obtain ⟨cs', h1, _⟩ := hf j hj
            obtain ⟨_, hl1, hc1⟩ := World.cells?_some h1
            have := hc1 q hq
            rw [add_add', List.getElem?_eq_getElem (by omega)] at this
            rw [this]
            rfl
          · obtain ⟨cs', h1, h2⟩ := hf j hj
            obtain ⟨_, hl1, hc1⟩ := World.cells?_some h1
            have hq : q < te.sz := by rw [← hle, ← hlen j hj]; exact (List.getElem?_eq_some_iff.1 hd).1
            have := hc1 q hq
            rw [add_add'] at this
            obtain ⟨s1, s2, s3⟩ := h2.spec
            obtain ⟨s, hs⟩ : ∃ s, l[q]? = some s := ⟨l[q], List.getElem?_eq_getElem (by omega)⟩
            have r := (s3 q s d hs hd).2
            rw [this, List.getD_eq_getElem?_getD] at *
            exact r
    · rename_i fs hk
      obtain ⟨l, hl, hs⟩ := Option.bind_eq_some_iff.1 hs
      split at hs
      case isFalse => cases hs
      rename_i hll
      injection hs with hs
      subst hs
      obtain ⟨fields, hu, hfs⟩ := hE.struct hk
      obtain ⟨xs, n, _, _, hlen, _, hget⟩ := DataW.trod_struct hu h
      have key : ∀ (k : Nat) (o : Nat) (r : List (Nat × Nat)) (l : List Sh), (∀ (i : Nat) off ft, r[i]? = some (off, ft) → ∃ y, DataW.trod enc P w 0 (fun _ => true) held n ft ((cs.drop off).take (P.cellsOf ft)) = some y) → shpFs tab (shp tab m) o r = some l → o + l.length = cs.length →
          ∃ ds, R3 w (fun k => k < w.heap.size) l (cs.drop o) ds := by
        intro k o r
        induction r generalizing o with
        | nil =>
          intro l _ h1 h2
          simp only [shpFs, Option.some.injEq] at h1
          subst h1
          have : cs.drop o = [] := List.drop_eq_nil_of_le (by simp at h2; omega)
          rw [this]
          exact ⟨[], trivial⟩
        | cons p r ih =>
          obtain ⟨off, ft⟩ := p
          intro l hget h1 h2
          simp only [shpFs] at h1
          split at h1
          case isFalse => cases h1
          rename_i heq
          subst heq
          split at h1
          case h_2 => cases h1
          rename_i tf lf htf hlf
          split at h1
          case isFalse => cases h1
          rename_i hlen2
          obtain ⟨l2, hl2, rfl⟩ := Option.map_eq_some_iff.1 h1
          obtain ⟨y, hy⟩ := hget 0 off ft rfl
          rw [(hT ft tf htf).cellsOf] at hy
          obtain ⟨d1, hd1⟩ := trod_fits hT m ft lf n _ y hlf hy
          obtain ⟨d2, hd2⟩ := ih (off + tf.sz) l2 (fun i o f hf => hget (i + 1) o f (by simpa using hf)) hl2 (by simp at h2; omega)
          rw [take_drop_cat cs off tf.sz]
          exact ⟨d1 ++ d2, hd1.append hd2⟩
      have := key 0 0 fs l (fun i off ft hi => ?_) hl (by rw [hlen, hE.cellsOf, hll]; omega)
      · simpa using this
      · rw [← hfs] at hi
        rw [List.getElem?_map] at hi
        obtain ⟨f, hf, he⟩ := Option.map_eq_some_iff.1 hi
        simp only [Prod.mk.injEq] at he
        obtain ⟨rfl, rfl⟩ := he
        have hg := hget i f (by simpa using hf)
        have hlt : i < fields.size := by simpa using (List.getElem?_eq_some_iff.1 hf).1
        rename_i hxl _
        rw [List.getElem?_eq_getElem (by omega)] at hg
        exact ⟨_, hg⟩
    · rename_i n e hk
      split at hs
      case h_2 => cases hs
      rename_i te l hte hl
      split at hs
      case isFalse => cases hs
      rename_i hle
      obtain ⟨hle, hsz⟩ := hle
      injection hs with hs
      subst hs
      have hEe := hT e te hte
      obtain ⟨xs, mm, _, _, hlen, hxl, hget⟩ := DataW.trod_array (hE.array hk) h
      rw [hE.cellsOf] at hlen
      have key : ∀ k, k ≤ n → ∃ ds, R3 w (fun k => k < w.heap.size) (List.replicate k l).flatten (cs.drop ((n - k) * te.sz)) ds := by
        intro k
        induction k with
        | zero =>
          intro _
          have : cs.drop ((n - 0) * te.sz) = [] := List.drop_eq_nil_of_le (by simp; omega)
          rw [this]
          exact ⟨[], trivial⟩
        | succ k ih =>
          intro hk1
          obtain ⟨d2, hd2⟩ := ih (by omega)
          have hg := hget (n - (k + 1)) (by omega)
          rw [List.getElem?_eq_getElem (by omega), hEe.cellsOf] at hg
          obtain ⟨d1, hd1⟩ := trod_fits hT m e l mm _ _ hl hg
          rw [take_drop_cat cs ((n - (k + 1)) * te.sz) te.sz, List.replicate_succ, List.flatten_cons]
          have : (n - (k + 1)) * te.sz + te.sz = (n - k) * te.sz := by
            rw [← Nat.succ_mul]
            congr 1
            omega
          rw [this]
          exact ⟨d1 ++ d2, hd1.append hd2⟩
      have := key n (Nat.le_refl _)
      simpa using this
    · cases hs

/-! ### Whole arguments -/
def tOf (tab : Tab) (t : Nat) (ds : List D) : T := match lk tab t with
  | some ti => if ti.k.agg then .agg (ds.map .d) else match ds with
    | [d] => .c (.d d)
    | _ => .tup []
  | none => .tup []
def tsOf (tab : Tab) : List Nat → List (List D) → List T
  | t :: ts, ds :: dss => tOf tab t ds :: tsOf tab ts dss
  | _, _ => []
def shps (tab : Tab) (m : Nat) : List Nat → Option (List (List Sh))
  | [] => some []
  | t :: ts => match shp tab m t, shps tab m ts with
    | some l, some r => some (l :: r)
    | _, _ => none
def FitsL : List Sh → List D → Prop
  | [], [] => True
  | s :: ss, d :: ds => Fits s d ∧ FitsL ss ds
  | _, _ => False
def FitsLL : List (List Sh) → List (List D) → Prop
  | [], [] => True
  | s :: ss, d :: ds => FitsL s d ∧ FitsLL ss ds
  | _, _ => False
theorem R3.fits : ∀ {ss : List Sh} {vs : List Value} {ds : List D}, R3 w U ss vs ds → FitsL ss ds
  | [], [], [], _ => trivial
  | _ :: _, _ :: _, _ :: _, h => ⟨h.1.1, R3.fits h.2⟩
  | [], _ :: _, _, h => by simp [R3] at h
  | [], [], _ :: _, h => by simp [R3] at h
  | _ :: _, [], _, h => by simp [R3] at h
  | _ :: _, _ :: _, [], h => by simp [R3] at h

theorem shp_agg {m t : Nat} {ti : TI} {l : List Sh} (h : shp tab m t = some l) (ht : lk tab t = some ti) (ha : ti.k.agg = false) : ∃ s, l = [s] ∧ ((∃ k, ti.k = .int k) ∨ ti.k = .bool ∨ ti.k = .str ∨ ∃ e, ti.k = .slice e) := by
  cases m with
  | zero => simp [shp] at h
  | succ m =>
    simp only [shp, ht] at h
    split at h
    · rename_i k hk; injection h with h; exact ⟨_, h.symm, .inl ⟨k, hk⟩⟩
    · rename_i hk; injection h with h; exact ⟨_, h.symm, .inr (.inl hk)⟩
    · rename_i hk; injection h with h; exact ⟨_, h.symm, .inr (.inr (.inl hk))⟩
    · rename_i e hk
      split at h
      case h_2 => cases h
      split at h
      case isFalse => cases h
      injection h with h
      exact ⟨_, h.symm, .inr (.inr (.inr ⟨e, hk⟩))⟩
    · rename_i fs hk; rw [hk] at ha; cases ha
    · rename_i n e hk; rw [hk] at ha; cases ha
    · cases h

theorem arg_fits (hT : TabOK P tab) {m t : Nat} {shs : List Sh} {v : Value} {d : DataW H} {ps : List MemPlace} {b0 : Nat} (hs : shp tab m t = some shs) (hv : Value.okWide P w .any b0 t v) (h : DataW.Trod enc P w 0 (fun _ => true) true t v d ps) :
    ∃ ds, FitsL shs ds ∧ ∀ μ m0, RepT w (fun k => k < w.heap.size) μ m0 (tOf tab t ds) v := by
  obtain ⟨fuel, hf⟩ := h
  obtain ⟨ds, hds⟩ := trod_fits hT m t shs fuel v.cells.toList _ hs hf
  refine ⟨ds, hds.fits, fun μ m0 => ?_⟩
  obtain ⟨s1, s2, s3⟩ := hds.spec
  obtain ⟨ti, hti⟩ : ∃ ti, lk tab t = some ti := by
    cases hl : lk tab t with
    | some ti => exact ⟨ti, rfl⟩
    | none => cases m <;> simp [shp, hl] at hs
  have hE := hT t ti hti
  unfold tOf
  simp only [hti]
  cases ha : ti.k.agg with
  | true =>
    simp only [if_true]
    obtain ⟨cs, rfl⟩ : ∃ cs, v = .agg cs := by
      obtain ⟨dd, hd, hk⟩ := hE.desc
      unfold Value.okWide at hv
      rw [hd] at hv
      cases dd <;> simp [kindOf] at hk <;> rw [← hk] at ha <;> simp [TK.agg] at ha
      · obtain ⟨cs, hcs, _⟩ := hv; exact ⟨cs, hcs⟩
      · obtain ⟨cs, hcs, _⟩ := hv; exact ⟨cs, hcs⟩
    simp only [Value.cells] at s1 s3
    refine .agg (by simp [s2]; simpa using s1) fun i c hc => ?_
    rw [List.getElem?_map] at hc
    obtain ⟨d', hd', rfl⟩ := Option.map_eq_some_iff.1 hc
    have hi : i < ds.length := (List.getElem?_eq_some_iff.1 hd').1
    have := (s3 i shs[i] d' (List.getElem?_eq_getElem (by omega)) hd').2
    exact .d (by simpa using this)
  | false =>
    simp only [Bool.false_eq_true, if_false]
    obtain ⟨s, rfl, hkk⟩ := shp_agg hs hti ha
    match ds, s2 with
    | [d'], _ =>
      have hv1 : v.cells = #[v] := by
        cases v <;> try rfl
        exfalso
        obtain ⟨dd, hd, hk⟩ := hE.desc
        unfold Value.okWide at hv
        rw [hd] at hv
        rcases hkk with ⟨k, e⟩ | e | e | ⟨q, e⟩ <;> rw [e] at hk <;> cases dd <;> simp [kindOf] at hk <;> simp [Cell.okWide, Cell.ok, hd] at hv
      have := (s3 0 s d' rfl rfl).2
      rw [hv1] at this
      exact .c (.d (by simpa using this))

theorem args_fits (hT : TabOK P tab) {m b0 : Nat} : ∀ {ts : List Nat} {vs : List Value} {ds : List (DataW H)} {ps : List MemPlace} {shss : List (List Sh)}, shps tab m ts = some shss → (∀ (j : Nat) t v, ts[j]? = some t → vs[j]? = some v → Value.okWide P w .any b0 t v) →
    DataW.TrodAll enc P w 0 (fun _ => true) true ts vs ds ps → ds.length = ts.length ∧ ∃ dss, FitsLL shss dss ∧ ∀ μ m0, AllRep w (fun k => k < w.heap.size) μ m0 (tsOf tab ts dss) vs
  | [], vs, ds, ps, shss, hs, hv, h => by
    obtain ⟨rfl, rfl, _⟩ := trodAll_nil h
    simp only [shps, Option.some.injEq] at hs
    subst hs
    exact ⟨rfl, [], trivial, fun μ m0 => ⟨rfl, fun i x hx => by simp [tsOf] at hx⟩⟩
  | t :: ts, vs, ds, ps, shss, hs, hv, h => by
    obtain ⟨v, vs', d, ds', p, q, rfl, rfl, rfl, h1, h2⟩ := trodAll_cons h
    simp only [shps] at hs
    split at hs
    case h_2 => cases hs
    rename_i l r hl hr
    injection hs with hs
    subst hs
    obtain ⟨dd, hd1, hd2⟩ := arg_fits hT hl (hv 0 t v rfl rfl) h1
    obtain ⟨hlen, dss, hd3, hd4⟩ := args_fits hT hr (fun j t v ht hvv => hv (j + 1) t v (by simpa using ht) (by simpa using hvv)) h2
    refine ⟨by simp [hlen], dd :: dss, ⟨hd1, hd3⟩, fun μ m0 => ⟨by simp [tsOf, (hd4 μ m0).1], fun i x hx => ?_⟩⟩
    cases i with
    | zero => simp only [tsOf, List.getElem?_cons_zero, Option.some.injEq] at hx; subst hx; simpa using hd2 μ m0
    | succ i => simpa using (hd4 μ m0).2 i x (by simpa [tsOf] using hx)

/-- The arguments read behind the call as before. -/
theorem all_stays (hl : laidOutB P = true) {W W' : World} {sp' : Nat → Bool} (hsame : ∀ k, k < W.heap.size → W'.heap[k]? = W.heap[k]?) : ∀ {ts : List Nat} {vs : List Value} {ds : List (DataW H)} {ps : List MemPlace}, (∀ t ∈ ts, P.readableRec t = true ∧ t < P.types.size) →
    DataW.TrodAll enc P W 0 (fun _ => true) true ts vs ds ps → (∀ p ∈ ps, p.block < W.heap.size ∧ sp' p.block = true) → DataW.TrodAll enc P W' 0 sp' true ts vs ds ps
  | [], vs, ds, ps, hr, h, hp => by
    obtain ⟨rfl, rfl, rfl⟩ := trodAll_nil h
    exact trodAll_mk0
  | t :: ts, vs, ds, ps, hr, h, hp => by
    obtain ⟨v, vs', d, ds', p, q, rfl, rfl, rfl, h1, h2⟩ := trodAll_cons h
    refine trodAll_cons_mk (Trod_stays hl (hr t (by simp)).1 (hr t (by simp)).2 h1 (fun x hx => ?_) fun x hx => (hp x (List.mem_append_left _ hx)).2) (all_stays hl hsame (fun t ht => hr t (List.mem_cons_of_mem _ ht)) h2 fun x hx => hp x (List.mem_append_right _ hx))
    have hlt := (hp x (List.mem_append_left _ hx)).1
    cases x with
    | cell b off => exact cell_same (hsame b hlt)
    | map b => exact hsame b hlt

theorem kept_of_same {W W' : World} (hos : W'.os = W.os) (hout : W'.output = W.output) (hsame : ∀ k, k < W.heap.size → W'.heap[k]? = W.heap[k]?) (may : MemPlace → Prop) : W.keptBut W' may := by
  refine ⟨hos, hout, fun i hi => ?_⟩
  rw [hsame i hi]
  cases W.heap[i]? with
  | none => rfl
  | some o => cases o <;> first | exact ⟨rfl, rfl, rfl, fun _ _ => rfl⟩ | exact .inr ⟨rfl, rfl⟩ | rfl

/-- A law's contract, as its row asks for it. -/
theorem law_contract (hT : TabOK P tab) (hl : laidOutB P = true) {f : FuncId} {fn : Func} {s : ChangeSpec} {ts : List Nat} {tb m : Nat} {shss : List (List Sh)} (hts : fn.params.toList = ts) (hrr : ∀ t ∈ ts, P.readableRec t = true ∧ t < P.types.size) (hres : fn.resultTypes = #[tb]) (htb : P.underlying tb = some .bool) (hvars : s.vars = [])
    (hfn : ∀ ds : List (DataW H), ds.length = ts.length → s.fn H ds = { results := [.lit (.bool true)], args := ds }) (hsh : shps tab m ts = some shss) (hspec : ∀ dss, FitsLL shss dss → FSpec P f (tsOf tab ts dss) [] (tB true) [])
    (W : World) (base : Nat) (args : Array Value) (ds gs : List (DataW H)) (before : List MemPlace) (hval : ∀ (j : Nat) t v, fn.params[j]? = some t → args[j]? = some v → Value.okWide P W .any base t v)
    (hW : DataW.Whole enc P fn.params.toList s.vars false W args.toList ds gs before) :
    Calls P f args W fun e W' => ∃ v, e = .returned v ∧ s.post enc P fn false true false false W args v W' := by
  obtain ⟨p, q, hA, hV, rfl, hfz, hnd⟩ := id hW
  rw [hvars] at hV
  obtain ⟨rfl, rfl⟩ := trodVars_none hV
  rw [hts] at hA
  obtain ⟨hlen, dss, hfit, hrep⟩ := args_fits hT hsh (b0 := base) (fun j t v ht hv => hval j t v (by simpa [← hts] using ht) (by simpa using hv)) hA
  have hcall := (hspec dss hfit).2 W (fun k => k < W.heap.size) (fun _ => none) args (fun k hk => hk) ⟨fun n o ho => by simp at ho, fun n n' o o' g c c' ho => by simp at ho⟩ (hrep _ _)
  refine hcall.mono fun e W' hq => ?_
  obtain ⟨v, U', μ', rfl, q1, q2, q3, q4, q5, _⟩ := hq
  have hsame : ∀ k, k < W.heap.size → W'.heap[k]? = W.heap[k]? := fun k hk => q1.block k ⟨hk, fun n o c ho => by simp at ho⟩
  have hv : v = .bool true := by
    cases q5 with
    | c h => cases h with
      | d h => cases h with
        | s _ _ => rfl
  subst hv
  have hb : ∀ x ∈ p, x.block < W.heap.size := fun x hx => hW.lt x (List.mem_append_left _ hx)
  refine ⟨_, rfl, ds, [], p ++ [], [], p, [], hW, ?_, ?_, ?_, kept_of_same q1.os q1.output hsame _, fun h => by cases h⟩
  · rw [List.append_nil, hfn ds hlen, hres]
    exact trodAll_mk1 (shut_bool htb true)
  · rw [List.append_nil, hfn ds hlen, hts]
    exact all_stays hl hsame hrr hA fun x hx => ⟨hb x hx, by simpa using hb x hx⟩
  · rw [List.append_nil, hfn ds hlen, hvars]
    rfl
end
end Go.V

/- V30: arguments of bounded bulk. -/
set_option linter.unusedVariables false
namespace Go.V
open Go.ChangeShapes Go.WideShapes Go.WideElems Go.RowKit

/-- Every slice, at any depth, has at most B elements. -/
inductive BndD (B : Nat) : D → Prop
  | s (v : Value) : BndD B (.s v)
  | l {n : Nat} {f : Nat → List D} (hn : n ≤ B) (h : ∀ j, j < n → ∀ d ∈ f j, BndD B d) : BndD B (.l n f)
/-- What is asked of a measure of data. -/
structure BulkOK {H : Type} (b : DataW H → Nat) : Prop where
  el : ∀ es sp e, e ∈ es → b e ≤ b (.slice es sp)
  len : ∀ es sp, es.length ≤ b (.slice es sp)
  part : ∀ ps p, p ∈ ps → b p ≤ b (.agg ps)
theorem one_bnd {B : Nat} {x : D} (h : BndD B x) : ∀ d ∈ [x], BndD B d := fun d hd => by
  simp at hd
  subst hd
  exact h

section
variable {w : World} {U : Nat → Prop} {H : Type} {enc : TypeId × Value → H} {P : Program} {tab : Tab} {held : Bool}

theorem trod_fitsB (hT : TabOK P tab) {b : DataW H → Nat} (hb : BulkOK b) {B : Nat} : ∀ (m t : Nat) (shs : List Sh) (fuel : Nat) (cs : List Value) (x : DataW H × List MemPlace), shp tab m t = some shs →
    DataW.trod enc P w 0 (fun _ => true) held fuel t cs = some x → b x.1 ≤ B → ∃ ds, R3 w (fun k => k < w.heap.size) shs cs ds ∧ ∀ d ∈ ds, BndD B d
  | 0, t, shs, fuel, cs, x, hs, h, hB => by simp [shp] at hs
  | m + 1, t, shs, fuel, cs, x, hs, h, hB => by
    simp only [shp] at hs
    split at hs
    · cases hs
    rename_i ti hti
    have hE := hT t ti hti
    split at hs
    · rename_i k hk
      injection hs with hs
      subst hs
      obtain ⟨n, rfl, _, hw⟩ := DataW.trod_int (hE.int hk) h
      exact ⟨[.s (.int k n)], ⟨⟨.int hw, .s _ rfl⟩, trivial⟩, one_bnd (.s _)⟩
    · rename_i hk
      injection hs with hs
      subst hs
      obtain ⟨bb, rfl, _⟩ := DataW.trod_bool (hE.bool hk) h
      exact ⟨[.s (.bool bb)], ⟨⟨.bool bb, .s _ rfl⟩, trivial⟩, one_bnd (.s _)⟩
    · rename_i hk
      injection hs with hs
      subst hs
      have hu : P.underlying t = some .string := by
        obtain ⟨d, hd, hkd⟩ := hE.desc
        rw [hk] at hkd
        cases d <;> simp [kindOf] at hkd
        exact hd
      obtain ⟨s, rfl, _, hw⟩ := DataW.trod_string hu h
      exact ⟨[.s (.string s)], ⟨⟨.str hw, .s _ rfl⟩, trivial⟩, one_bnd (.s _)⟩
    · rename_i e hk
      split at hs
      case h_2 => cases hs
      rename_i te l hte hl
      split at hs
      case isFalse => cases hs
      rename_i hle
      obtain ⟨hpos, hle⟩ := hle
      injection hs with hs
      subst hs
      have hEe := hT e te hte
      rcases Go.Deep.open_slice (hE.slice hk) h with ⟨rfl, _⟩ | ⟨a, len, cap, mm, n, Dd, Pl, rfl, hb', hlc, hcm, hmm, hx, hi⟩
      · exact ⟨[.l 0 fun _ => []], ⟨⟨.slice (Nat.zero_le _) (fun j hj => by omega) (fun j q s d hj => by omega), .l 0 _ none 0 0 (fun _ _ => undef) (Nat.le_refl _) (Nat.zero_le _) (fun j hj => by omega) (fun h0 => by omega) (fun j q d hj => by omega)⟩, trivial⟩, one_bnd (.l (Nat.zero_le _) fun j hj => by omega)⟩
      · rw [hx] at hB
        have hB1 : len ≤ B := Nat.le_trans (by simpa using hb.len ((List.range len).map Dd) ((List.range (mm - len)).map fun j => Dd (len + j))) hB
        have hB2 : ∀ j, j < len → b (Dd j) ≤ B := fun j hj => Nat.le_trans (hb.el _ _ _ (List.mem_map.2 ⟨j, by simpa using hj, rfl⟩)) hB
        have hel : ∀ j, ∃ ds, j < len → ∃ cs', w.cells? 0 (a.add (j * te.sz)) te.sz = some cs' ∧ R3 w (fun k => k < w.heap.size) l cs' ds ∧ ∀ d ∈ ds, BndD B d := fun j => by
          by_cases hj : j < len
          · obtain ⟨cs', h1, h2⟩ := hi j (by rw [hmm]; show j < cap; omega)
            rw [hEe.cellsOf] at h1
            obtain ⟨ds, hds⟩ := trod_fitsB hT hb m e l n cs' _ hl h2 (hB2 j hj)
            exact ⟨ds, fun _ => ⟨cs', h1, hds⟩⟩
          · exact ⟨[], fun h => absurd h hj⟩
        have hel2 := Classical.axiomOfChoice hel
        obtain ⟨f, hf⟩ := hel2
        have hlen : ∀ j, j < len → (f j).length = l.length := fun j hj => by
          obtain ⟨cs', _, h2, _⟩ := hf j hj
          exact h2.spec.2.1
        refine ⟨[.l len f], ⟨⟨.slice (Nat.le_trans hlc hcm) hlen fun j q s d hj hs hd => ?_, ?_⟩, trivial⟩, one_bnd (.l hB1 fun j hj d hd => ?_)⟩
        · obtain ⟨cs', _, h2, _⟩ := hf j hj
          exact (h2.spec.2.2 q s d hs hd).1
        · refine .l len f (some a) cap te.sz (fun j q => (w.cell? (a.add (j * te.sz + q))).getD undef) hlc hcm (fun j hj => by rw [hlen j hj, hle]) (fun h0 => ⟨a, rfl, ?_, fun j q hj hq => ?_⟩) (fun j q d hj hd => ?_)
          · obtain ⟨cs', h1, _, _⟩ := hf 0 h0
            obtain ⟨_, hl1, hc1⟩ := World.cells?_some h1
            have := hc1 0 hpos
            rw [List.getElem?_eq_getElem (by omega)] at this
            have hb2 : ((a.add (0 * te.sz)).add 0).block = a.block := by unfold Addr.add; split <;> (try split) <;> rfl
            unfold World.cell? at this
            rw [hb2] at this
            refine Nat.lt_of_not_le fun hge => ?_
            rw [Array.getElem?_eq_none hge] at this
            simp at this
          · obtain ⟨cs', h1, _, _⟩ := hf j hj
            obtain ⟨_, hl1, hc1⟩ := World.cells?_some h1
            have := hc1 q hq
            rw [add_add', List.getElem?_eq_getElem (by omega)] at this
            rw [this]
            rfl
          · obtain ⟨cs', h1, h2, _⟩ := hf j hj
            obtain ⟨_, hl1, hc1⟩ := World.cells?_some h1
            have hq : q < te.sz := by rw [← hle, ← hlen j hj]; exact (List.getElem?_eq_some_iff.1 hd).1
            have := hc1 q hq
            rw [add_add'] at this
            obtain ⟨s1, s2, s3⟩ := h2.spec
            obtain ⟨s, hs⟩ : ∃ s, l[q]? = some s := ⟨l[q], List.getElem?_eq_getElem (by omega)⟩
            have r := (s3 q s d hs hd).2
            rw [this, List.getD_eq_getElem?_getD] at *
            exact r
        · obtain ⟨cs', _, _, h3⟩ := hf j hj
          exact h3 d hd
    · rename_i fs hk
      obtain ⟨l, hl, hs⟩ := Option.bind_eq_some_iff.1 hs
      split at hs
      case isFalse => cases hs
      rename_i hll
      injection hs with hs
      subst hs
      obtain ⟨fields, hu, hfs⟩ := hE.struct hk
      obtain ⟨xs, n, _, hx, hlen, hxl', hget⟩ := DataW.trod_struct hu h
      have hB2 : ∀ y ∈ xs, b y.1 ≤ B := fun y hy => Nat.le_trans (hb.part (xs.map (·.1)) y.1 (List.mem_map.2 ⟨y, hy, rfl⟩)) (by rw [hx] at hB; exact hB)
      have key : ∀ (k : Nat) (o : Nat) (r : List (Nat × Nat)) (l : List Sh), (∀ (i : Nat) off ft, r[i]? = some (off, ft) → ∃ y, DataW.trod enc P w 0 (fun _ => true) held n ft ((cs.drop off).take (P.cellsOf ft)) = some y ∧ b y.1 ≤ B) → shpFs tab (shp tab m) o r = some l → o + l.length = cs.length →
          ∃ ds, R3 w (fun k => k < w.heap.size) l (cs.drop o) ds ∧ ∀ d ∈ ds, BndD B d := by
        intro k o r
        induction r generalizing o with
        | nil =>
          intro l _ h1 h2
          simp only [shpFs, Option.some.injEq] at h1
          subst h1
          have : cs.drop o = [] := List.drop_eq_nil_of_le (by simp at h2; omega)
          rw [this]
          exact ⟨[], trivial, fun d hd => by cases hd⟩
        | cons p r ih =>
          obtain ⟨off, ft⟩ := p
          intro l hget h1 h2
          simp only [shpFs] at h1
          split at h1
          case isFalse => cases h1
          rename_i heq
          subst heq
          split at h1
          case h_2 => cases h1
          rename_i tf lf htf hlf
          split at h1
          case isFalse => cases h1
          rename_i hlen2
          obtain ⟨l2, hl2, rfl⟩ := Option.map_eq_some_iff.1 h1
          obtain ⟨y, hy, hyB⟩ := hget 0 off ft rfl
          rw [(hT ft tf htf).cellsOf] at hy
          obtain ⟨d1, hd1, hb1⟩ := trod_fitsB hT hb m ft lf n _ y hlf hy hyB
          obtain ⟨d2, hd2, hb2⟩ := ih (off + tf.sz) l2 (fun i o f hf => hget (i + 1) o f (by simpa using hf)) hl2 (by simp at h2; omega)
          rw [take_drop_cat cs off tf.sz]
          exact ⟨d1 ++ d2, hd1.append hd2, fun d hd => (List.mem_append.1 hd).elim (hb1 d) (hb2 d)⟩
      have := key 0 0 fs l (fun i off ft hi => ?_) hl (by rw [hlen, hE.cellsOf, hll]; omega)
      · simpa using this
      · rw [← hfs] at hi
        rw [List.getElem?_map] at hi
        obtain ⟨f, hf, he⟩ := Option.map_eq_some_iff.1 hi
        simp only [Prod.mk.injEq] at he
        obtain ⟨rfl, rfl⟩ := he
        have hg := hget i f (by simpa using hf)
        have hlt : i < fields.size := by simpa using (List.getElem?_eq_some_iff.1 hf).1
        rw [List.getElem?_eq_getElem (by omega)] at hg
        exact ⟨_, hg, hB2 _ (List.getElem_mem _)⟩
    · rename_i n e hk
      split at hs
      case h_2 => cases hs
      rename_i te l hte hl
      split at hs
      case isFalse => cases hs
      rename_i hle
      obtain ⟨hle, hsz⟩ := hle
      injection hs with hs
      subst hs
      have hEe := hT e te hte
      obtain ⟨xs, mm, _, hx, hlen, hxl, hget⟩ := DataW.trod_array (hE.array hk) h
      have hB2 : ∀ y ∈ xs, b y.1 ≤ B := fun y hy => Nat.le_trans (hb.part (xs.map (·.1)) y.1 (List.mem_map.2 ⟨y, hy, rfl⟩)) (by rw [hx] at hB; exact hB)
      rw [hE.cellsOf] at hlen
      have key : ∀ k, k ≤ n → ∃ ds, R3 w (fun k => k < w.heap.size) (List.replicate k l).flatten (cs.drop ((n - k) * te.sz)) ds ∧ ∀ d ∈ ds, BndD B d := by
        intro k
        induction k with
        | zero =>
          intro _
          have : cs.drop ((n - 0) * te.sz) = [] := List.drop_eq_nil_of_le (by simp; omega)
          rw [this]
          exact ⟨[], trivial, fun d hd => by cases hd⟩
        | succ k ih =>
          intro hk1
          obtain ⟨d2, hd2, hb2⟩ := ih (by omega)
          have hg := hget (n - (k + 1)) (by omega)
          rw [List.getElem?_eq_getElem (by omega), hEe.cellsOf] at hg
          obtain ⟨d1, hd1, hb1⟩ := trod_fitsB hT hb m e l mm _ _ hl hg (hB2 _ (List.getElem_mem _))
          rw [take_drop_cat cs ((n - (k + 1)) * te.sz) te.sz, List.replicate_succ, List.flatten_cons]
          have : (n - (k + 1)) * te.sz + te.sz = (n - k) * te.sz := by
            rw [← Nat.succ_mul]
            congr 1
            omega
          rw [this]
          exact ⟨d1 ++ d2, hd1.append hd2, fun d hd => (List.mem_append.1 hd).elim (hb1 d) (hb2 d)⟩
      have := key n (Nat.le_refl _)
      simpa using this
    · cases hs

theorem arg_fitsB (hT : TabOK P tab) {b : DataW H → Nat} (hb : BulkOK b) {B : Nat} {m t : Nat} {shs : List Sh} {v : Value} {d : DataW H} {ps : List MemPlace} {b0 : Nat} (hs : shp tab m t = some shs) (hv : Value.okWide P w .any b0 t v) (h : DataW.Trod enc P w 0 (fun _ => true) true t v d ps) (hB : b d ≤ B) :
    ∃ ds, FitsL shs ds ∧ (∀ x ∈ ds, BndD B x) ∧ ∀ μ m0, RepT w (fun k => k < w.heap.size) μ m0 (tOf tab t ds) v := by
  obtain ⟨fuel, hf⟩ := h
  obtain ⟨ds, hds, hbd⟩ := trod_fitsB hT hb m t shs fuel v.cells.toList _ hs hf hB
  refine ⟨ds, hds.fits, hbd, fun μ m0 => ?_⟩
  obtain ⟨s1, s2, s3⟩ := hds.spec
  obtain ⟨ti, hti⟩ : ∃ ti, lk tab t = some ti := by
    cases hl : lk tab t with
    | some ti => exact ⟨ti, rfl⟩
    | none => cases m <;> simp [shp, hl] at hs
  have hE := hT t ti hti
  unfold tOf
  simp only [hti]
  cases ha : ti.k.agg with
  | true =>
    simp only [if_true]
    obtain ⟨cs, rfl⟩ : ∃ cs, v = .agg cs := by
      obtain ⟨dd, hd, hk⟩ := hE.desc
      unfold Value.okWide at hv
      rw [hd] at hv
      cases dd <;> simp [kindOf] at hk <;> rw [← hk] at ha <;> simp [TK.agg] at ha
      · obtain ⟨cs, hcs, _⟩ := hv; exact ⟨cs, hcs⟩
      · obtain ⟨cs, hcs, _⟩ := hv; exact ⟨cs, hcs⟩
    simp only [Value.cells] at s1 s3
    refine .agg (by simp [s2]; simpa using s1) fun i c hc => ?_
    rw [List.getElem?_map] at hc
    obtain ⟨d', hd', rfl⟩ := Option.map_eq_some_iff.1 hc
    have hi : i < ds.length := (List.getElem?_eq_some_iff.1 hd').1
    have := (s3 i shs[i] d' (List.getElem?_eq_getElem (by omega)) hd').2
    exact .d (by simpa using this)
  | false =>
    simp only [Bool.false_eq_true, if_false]
    obtain ⟨s, rfl, hkk⟩ := shp_agg hs hti ha
    match ds, s2 with
    | [d'], _ =>
      have hv1 : v.cells = #[v] := by
        cases v <;> try rfl
        exfalso
        obtain ⟨dd, hd, hk⟩ := hE.desc
        unfold Value.okWide at hv
        rw [hd] at hv
        rcases hkk with ⟨k, e⟩ | e | e | ⟨q, e⟩ <;> rw [e] at hk <;> cases dd <;> simp [kindOf] at hk <;> simp [Cell.okWide, Cell.ok, hd] at hv
      have := (s3 0 s d' rfl rfl).2
      rw [hv1] at this
      exact .c (.d (by simpa using this))

theorem args_fitsB (hT : TabOK P tab) {b : DataW H → Nat} (hb : BulkOK b) {B : Nat} {m b0 : Nat} : ∀ {ts : List Nat} {vs : List Value} {ds : List (DataW H)} {ps : List MemPlace} {shss : List (List Sh)}, shps tab m ts = some shss → (∀ (j : Nat) t v, ts[j]? = some t → vs[j]? = some v → Value.okWide P w .any b0 t v) →
    DataW.TrodAll enc P w 0 (fun _ => true) true ts vs ds ps → (∀ d ∈ ds, b d ≤ B) → ds.length = ts.length ∧ ∃ dss, FitsLL shss dss ∧ (∀ l ∈ dss, ∀ x ∈ l, BndD B x) ∧ ∀ μ m0, AllRep w (fun k => k < w.heap.size) μ m0 (tsOf tab ts dss) vs
  | [], vs, ds, ps, shss, hs, hv, h, hB => by
    obtain ⟨rfl, rfl, _⟩ := trodAll_nil h
    simp only [shps, Option.some.injEq] at hs
    subst hs
    exact ⟨rfl, [], trivial, (fun l hl => by simp at hl), fun μ m0 => ⟨rfl, fun i x hx => by simp [tsOf] at hx⟩⟩
  | t :: ts, vs, ds, ps, shss, hs, hv, h, hB => by
    obtain ⟨v, vs', d, ds', p, q, rfl, rfl, rfl, h1, h2⟩ := trodAll_cons h
    simp only [shps] at hs
    split at hs
    case h_2 => cases hs
    rename_i l r hl hr
    injection hs with hs
    subst hs
    obtain ⟨dd, hd1, hd1b, hd2⟩ := arg_fitsB hT hb hl (hv 0 t v rfl rfl) h1 (hB d (by simp))
    obtain ⟨hlen, dss, hd3, hd3b, hd4⟩ := args_fitsB hT hb hr (fun j t v ht hvv => hv (j + 1) t v (by simpa using ht) (by simpa using hvv)) h2 (fun d hd => hB d (by simp [hd]))
    refine ⟨by simp [hlen], dd :: dss, ⟨hd1, hd3⟩, List.forall_mem_cons.2 ⟨hd1b, hd3b⟩, fun μ m0 => ⟨by simp [tsOf, (hd4 μ m0).1], fun i x hx => ?_⟩⟩
    cases i with
    | zero => simp only [tsOf, List.getElem?_cons_zero, Option.some.injEq] at hx; subst hx; simpa using hd2 μ m0
    | succ i => simpa using (hd4 μ m0).2 i x (by simpa [tsOf] using hx)

/-- A law's contract, as its row asks for it. -/
theorem law_contractB {b : DataW H → Nat} (hb : BulkOK b) {B : Nat} (hT : TabOK P tab) (hl : laidOutB P = true) {f : FuncId} {fn : Func} {s : ChangeSpec} {ts : List Nat} {tb m : Nat} {shss : List (List Sh)} (hts : fn.params.toList = ts) (hrr : ∀ t ∈ ts, P.readableRec t = true ∧ t < P.types.size) (hres : fn.resultTypes = #[tb]) (htb : P.underlying tb = some .bool) (hvars : s.vars = [])
    (hfn : ∀ ds : List (DataW H), ds.length = ts.length → s.fn H ds = { results := [.lit (.bool true)], args := ds }) (hsh : shps tab m ts = some shss) (hspec : ∀ dss, FitsLL shss dss → (∀ l ∈ dss, ∀ x ∈ l, BndD B x) → FSpec P f (tsOf tab ts dss) [] (tB true) [])
    (W : World) (base : Nat) (args : Array Value) (ds gs : List (DataW H)) (before : List MemPlace) (hval : ∀ (j : Nat) t v, fn.params[j]? = some t → args[j]? = some v → Value.okWide P W .any base t v)
    (hW : DataW.Whole enc P fn.params.toList s.vars false W args.toList ds gs before) (hB : ∀ d ∈ ds, b d ≤ B) :
    Calls P f args W fun e W' => ∃ v, e = .returned v ∧ s.post enc P fn false true false false W args v W' := by
  obtain ⟨p, q, hA, hV, rfl, hfz, hnd⟩ := id hW
  rw [hvars] at hV
  obtain ⟨rfl, rfl⟩ := trodVars_none hV
  rw [hts] at hA
  obtain ⟨hlen, dss, hfit, hbd, hrep⟩ := args_fitsB hT hb hsh (b0 := base) (fun j t v ht hv => hval j t v (by simpa [← hts] using ht) (by simpa using hv)) hA hB
  have hcall := (hspec dss hfit hbd).2 W (fun k => k < W.heap.size) (fun _ => none) args (fun k hk => hk) ⟨fun n o ho => by simp at ho, fun n n' o o' g c c' ho => by simp at ho⟩ (hrep _ _)
  refine hcall.mono fun e W' hq => ?_
  obtain ⟨v, U', μ', rfl, q1, q2, q3, q4, q5, _⟩ := hq
  have hsame : ∀ k, k < W.heap.size → W'.heap[k]? = W.heap[k]? := fun k hk => q1.block k ⟨hk, fun n o c ho => by simp at ho⟩
  have hv : v = .bool true := by
    cases q5 with
    | c h => cases h with
      | d h => cases h with
        | s _ _ => rfl
  subst hv
  have hb : ∀ x ∈ p, x.block < W.heap.size := fun x hx => hW.lt x (List.mem_append_left _ hx)
  refine ⟨_, rfl, ds, [], p ++ [], [], p, [], hW, ?_, ?_, ?_, kept_of_same q1.os q1.output hsame _, fun h => by cases h⟩
  · rw [List.append_nil, hfn ds hlen, hres]
    exact trodAll_mk1 (shut_bool htb true)
  · rw [List.append_nil, hfn ds hlen, hts]
    exact all_stays hl hsame hrr hA fun x hx => ⟨hb x hx, by simpa using hb x hx⟩
  · rw [List.append_nil, hfn ds hlen, hvars]
    rfl
end
end Go.V
