/- V18: a statement whose order Go leaves open: what does not touch the same places may come in any order. -/
import Derived.IntWalk
import Derived.Laws.StructEq
import Derived.Test.YtiajgnpobcidmabVa
import Derived.Test.YtiajgnpobcidmabVb
set_option linter.unusedSimpArgs false
set_option linter.unusedVariables false

set_option linter.unusedVariables false
namespace Go.V

def RunR (P : Program) (tab : Tab) (et : EqTab) (o : Oper) (st : St) (e : Eff) : Prop :=
  match o.op with
  | .call { callee := .value fo, args := args, argTypes := _ } => ∃ f us cs ts, (opd st fo).bind calleeOf = some (f, us, cs) ∧ opdL st args.toList = some ts ∧ ((∃ p ts' ns args' res, argTs st.m (allA us ts cs) = some (p, ts', ns) ∧ p ∧ LeTs ts' args' ∧ FSpec P f args' [] res [] ∧ e = ⟨some res, callUp st.m ns res, ns⟩) ∨
      ∃ ρ ma args' res mr ns, CallM P st (allA us ts cs) f ρ ma args' res mr ns ∧ e = ⟨some (renT ρ res), renM ρ mr ++ iceUp st.m ns, rdM ρ ma mr ns⟩)
  | op => ∃ p, ev tab et st o.dst op = some (p, e) ∧ p

def StepR (P : Program) (tab : Tab) (et : EqTab) (N : Nat) (ops : List Oper) (o : Oper) (st : St) (e : Eff) : Prop :=
  dstOK N o ∧ match o.guard with
    | none => RunR P tab et o st e
    | some (j, want) => (∃ b, gdV ops st j = some b ∧ (b = want → RunR P tab et o st e) ∧ (b = !want → e = skE)) ∨ (gdU ops st j = true ∧ e = skE)

section
variable {Γ : Ctx} {st st' : St} {a : Act} {w : World} {tab : Tab} {et : EqTab} {Q : Exit → Act → World → Prop} {ops : List Oper}

theorem RunR.sound (hT : TabOK Γ.P tab) (hq : EqOK Γ.P et) {o : Oper} {e : Eff} (hR : R Γ st a w) (hd : dstOK Γ.N o) (h : RunR Γ.P tab et o st e) : o.wp Γ.P a w (R Γ (st.app o.dst e)) Q := by
  have hd' : ∀ d, o.dst = some d → d < Γ.N := fun d e => by unfold dstOK at hd; rw [e] at hd; exact hd
  obtain ⟨U, μ, hRR⟩ := id hR
  unfold RunR at h
  split at h
  · rename_i fo args ats hop
    obtain ⟨f, us, cs, ts, h1, h2, h3⟩ := h
    have hcall : callE Γ.P ⟨st.t, st.m⟩ fo args.toList fun e' => e' = e := by
      rcases h3 with ⟨p, ts', ns, args', res, h3, h4, h5, h6, rfl⟩ | ⟨ρ, ma, args', res, mr, ns, hcm, rfl⟩
      · exact callE_ok h1 h2 h3 h4 h5 h6 rfl
      · exact callE_obj ρ h1 h2 hcm rfl
    obtain ⟨e', rfl, hw⟩ := callE_sound (Q := Q) hop ⟨U, μ, hRR⟩ hcall hd'
    exact hw
  · obtain ⟨p, he, hp⟩ := h
    exact ev_sound hT hq hR he hp hd'

theorem callUp_local {ns : List Nm} {res : T} (h : AgreeM st st' ns) : callUp st'.m ns res = callUp st.m ns res := by
  unfold callUp
  rw [iceUp_local h]

theorem cellR_local {R : List Nm} {x : C} {p : Prop} {y : C} {ns : List Nm} (h : cellR R st.m x = some (p, y, ns)) (ha : AgreeM st st' ns) : cellR R st'.m x = some (p, y, ns) := by
  unfold cellR at h ⊢
  split at h
  · split at h
    · rename_i hc; rw [if_pos hc]; exact h
    · rename_i hc
      rw [if_neg hc]
      obtain ⟨⟨q1, d, ns0⟩, e1, e2⟩ := Option.map_eq_some_iff.1 h
      simp only [Prod.mk.injEq] at e2
      obtain ⟨rfl, rfl, rfl⟩ := e2
      rw [toD_local e1 ha]
      rfl
  · exact h
  · exact h
  · exact h

theorem cellsR_local {R : List Nm} : ∀ {xs ys : List C} {p : Prop} {ns : List Nm}, cellsR R st.m xs = some (p, ys, ns) → AgreeM st st' ns → cellsR R st'.m xs = some (p, ys, ns)
  | [], _, _, _, h, _ => h
  | x :: xs, ys, p, ns, h, ha => by
    simp only [cellsR] at h ⊢
    split at h
    case h_2 => cases h
    rename_i p1 y1 ns1 p2 ys2 ns2 h1 h2
    simp only [Option.some.injEq, Prod.mk.injEq] at h
    obtain ⟨rfl, rfl, rfl⟩ := h
    rw [cellR_local h1 fun n hn => ha n (List.mem_append_left _ hn), cellsR_local h2 fun n hn => ha n (List.mem_append_right _ hn)]

theorem argRef_local {R : List Nm} {x : T} {p : Prop} {y : T} {ns : List Nm} (h : argRef R st.m x = some (p, y, ns)) (ha : AgreeM st st' ns) : argRef R st'.m x = some (p, y, ns) := by
  unfold argRef at h ⊢
  split at h
  · obtain ⟨⟨q1, d, ns0⟩, e1, e2⟩ := Option.map_eq_some_iff.1 h
    simp only [Prod.mk.injEq] at e2
    obtain ⟨rfl, rfl, rfl⟩ := e2
    rw [cellR_local e1 ha]
    rfl
  · obtain ⟨⟨q1, d, ns0⟩, e1, e2⟩ := Option.map_eq_some_iff.1 h
    simp only [Prod.mk.injEq] at e2
    obtain ⟨rfl, rfl, rfl⟩ := e2
    rw [cellsR_local e1 ha]
    rfl
  · exact h

theorem argRefs_local {R : List Nm} : ∀ {xs : List T} {p : Prop} {ys : List T} {ns : List Nm}, argRefs R st.m xs = some (p, ys, ns) → AgreeM st st' ns → argRefs R st'.m xs = some (p, ys, ns)
  | [], _, _, _, h, _ => h
  | x :: xs, p, ys, ns, h, ha => by
    simp only [argRefs] at h ⊢
    split at h
    case h_2 => cases h
    rename_i p1 y1 ns1 p2 ys2 ns2 h1 h2
    simp only [Option.some.injEq, Prod.mk.injEq] at h
    obtain ⟨rfl, rfl, rfl⟩ := h
    rw [argRef_local h1 fun n hn => ha n (List.mem_append_left _ hn), argRefs_local h2 fun n hn => ha n (List.mem_append_right _ hn)]

theorem CallM.local {P : Program} {ts : List T} {f : FuncId} {ρ : List (Nm × Nm)} {ma : List (Nm × Obj)} {args : List T} {res : T} {mr : List (Nm × Obj)} {ns : List Nm} (h : CallM P st ts f ρ ma args res mr ns) (ha : AgreeM st st' (rdM ρ ma mr ns)) : CallM P st' ts f ρ ma args res mr ns := by
  have hns : AgreeM st st' ns := fun n hn => ha n (List.mem_append_right _ hn)
  obtain ⟨⟨p, ts', h1, h2, h3⟩, h4, h5, h6, h7, h8, h9, h10, h11⟩ := h
  refine ⟨⟨p, ts', argRefs_local h1 hns, h2, h3⟩, h4, fun q hq => ?_, h6, h7, fun q hq => ?_, h9, h10, h11⟩
  · rw [iceUp_local hns, lk_append, ha (rn ρ q.1) (List.mem_append_left _ (List.mem_append_right _ (List.mem_map.2 ⟨q, hq, rfl⟩))), ← lk_append]
    exact h5 q hq
  · rw [ha (rn ρ q.1) (List.mem_append_left _ (List.mem_append_left _ (List.mem_map.2 ⟨q, hq, rfl⟩)))]
    exact h8 q hq

theorem RunR.local {P : Program} {o : Oper} {e : Eff} (h : RunR P tab et o st e) (hop : Agree st st' o.op.operands.toList) (ha : AgreeM st st' e.rd) : RunR P tab et o st' e := by
  unfold RunR at h ⊢
  split at h
  · rename_i fo args ats hopq
    obtain ⟨f, us, cs, ts, h1, h2, h3⟩ := h
    rw [hopq] at hop
    simp only [Op.operands, Call.operands] at hop
    refine ⟨f, us, cs, ts, ?_, ?_, ?_⟩
    · rw [opd_local fun t e => hop t (by simp [e])]; exact h1
    · rw [opdL_local fun t ht => hop t (by simp at ht ⊢; exact .inr ht)]; exact h2
    · rcases h3 with ⟨p, ts', ns, args', res, h3, h4, h5, h6, rfl⟩ | ⟨ρ, ma, args', res, mr, ns, hcm, rfl⟩
      · exact .inl ⟨p, ts', ns, args', res, argTs_local h3 ha, h4, h5, h6, by rw [callUp_local ha]⟩
      · have hns : AgreeM st st' ns := fun n hn => ha n (List.mem_append_right _ hn)
        exact .inr ⟨ρ, ma, args', res, mr, ns, hcm.local ha, by rw [iceUp_local hns]⟩
  · obtain ⟨p, he, hp⟩ := h
    exact ⟨p, ev_local hop he ha, hp⟩

theorem gdV_local {j : Nat} (h : ∀ t, (ops[j]?).bind (·.dst) = some t → lk st'.t t = lk st.t t) : gdV ops st' j = gdV ops st j := by
  unfold gdV
  split
  · rename_i t ht
    rw [h t ht]
  · rfl

theorem gdU_local {j : Nat} (hl : ∀ t, (ops[j]?).bind (·.dst) = some t → lk st'.t t = lk st.t t) : gdU ops st' j = gdU ops st j := by
  unfold gdU
  split
  · rename_i t ht
    rw [hl t ht]
  · rfl

theorem StepR.local {P : Program} {N : Nat} {o : Oper} {e : Eff} (h : StepR P tab et N ops o st e) (hop : ∀ t ∈ o.looksAt ops.toArray, lk st'.t t = lk st.t t) (ha : AgreeM st st' e.rd) : StepR P tab et N ops o st' e := by
  refine ⟨h.1, ?_⟩
  have h2 := h.2
  have hopA : Agree st st' o.op.operands.toList := fun t ht => hop t (by
    unfold Oper.looksAt
    exact List.mem_append_left _ (List.mem_filterMap.2 ⟨.tmp t, ht, rfl⟩))
  split at h2
  · exact h2.local hopA ha
  · rename_i j want hg
    have hlook : ∀ t, (ops[j]?).bind (·.dst) = some t → lk st'.t t = lk st.t t := fun t ht => hop t (by
      unfold Oper.looksAt
      rw [hg]
      refine List.mem_append_right _ ?_
      have : (ops.toArray[j]?).bind (·.dst) = some t := by simpa using ht
      simp only [this]
      simp)
    rcases h2 with ⟨b, hb, h3, h4⟩ | ⟨h3, h4⟩
    · refine .inl ⟨b, ?_, fun e => (h3 e).local hopA ha, h4⟩
      rw [gdV_local hlook]
      exact hb
    · exact .inr ⟨(gdU_local hlook).trans h3, h4⟩

theorem R_congr (h : R Γ st a w) (ht : ∀ t, lk st'.t t = lk st.t t) (hm : ∀ n, lk st'.m n = lk st.m n) : R Γ st' a w := by
  obtain ⟨U, μ, hR⟩ := h
  have e1 : lk st'.t = lk st.t := funext ht
  have e2 : lk st'.m = lk st.m := funext hm
  exact ⟨U, μ, by rw [e1, e2]; exact hR⟩

theorem StepR.wpOp (hT : TabOK Γ.P tab) (hq : EqOK Γ.P et) {i : Nat} {o : Oper} (ho : ops[i]? = some o) {e : Eff} (hR : R Γ st a w) (h : StepR Γ.P tab et Γ.N ops o st e) {K : Act → World → Prop} (hK : ∀ a w, R Γ (st.app o.dst e) a w → K a w) :
    wpOp Γ.P ops.toArray Q i K a w := by
  unfold Go.wpOp
  have ho' : ops.toArray[i]? = some o := by simpa using ho
  simp only [ho']
  obtain ⟨hd, h⟩ := h
  split at h
  · rename_i hg
    rw [if_pos (by simp [Region.wanted, hg])]
    exact .inl (Oper.wp_mono hK (h.sound hT hq hR hd))
  · rename_i j want hg
    have hsk : Region.wanted o (yielded ops.toArray a.tmps) = false → e = skE → _ := fun hw he => by
      show (if Region.wanted o (yielded ops.toArray a.tmps) then (o.wp Γ.P a w K Q ∨ (o.asks Γ.P a w ∧ LetsOut Q)) else K (a.put o.dst undef) w)
      rw [if_neg (by simp [hw])]
      subst he
      refine hK _ _ ?_
      obtain ⟨U, μ, hRR⟩ := hR
      exact R.app (e := skE) (by simpa [skE] using hRR) (fun d e => by unfold dstOK at hd; rw [e] at hd; exact hd) fun x hx => by
        injection hx with hx
        subst hx
        exact .tup rfl fun i t ht => by simp at ht
    rcases h with ⟨b, hb, h3, h4⟩ | ⟨h3, h4⟩
    case inr => exact hsk (by simp [Region.wanted, hg, gdU_rep hR h3]) h4
    have hy := gdV_rep hR hb
    by_cases hbw : b = want
    · rw [if_pos (by simp [Region.wanted, hg, hy, hbw])]
      exact .inl (Oper.wp_mono hK ((h3 hbw).sound hT hq hR hd))
    · have hnb : b = !want := by cases b <;> cases want <;> simp_all
      exact hsk (by simp [Region.wanted, hg, hy, hbw]) (h4 hnb)
end

/-! ### Effects in a row, and what is read behind them -/
def appI (ops : List Oper) (es : List Eff) (st : St) (i : Nat) : St :=
  match ops[i]?, es[i]? with
  | some o, some e => st.app o.dst e
  | _, _ => st

def wrT (ops : List Oper) (t : Nat) (i : Nat) : Bool := (ops[i]?).any fun o => o.dst == some t
def wrN (es : List Eff) (n : Nm) (i : Nat) : Bool := (es[i]?).any fun e => (lk e.up n).isSome

section
variable {ops : List Oper} {es : List Eff} (hl : es.length = ops.length)
include hl

theorem lk_appI_t (st : St) (i t : Nat) : lk (appI ops es st i).t t = if wrT ops t i then (es[i]?).bind (·.v) else lk st.t t := by
  unfold appI wrT
  cases ho : ops[i]? with
  | none => simp
  | some o =>
    have hlt : i < es.length := by rw [hl]; exact (List.getElem?_eq_some_iff.1 ho).1
    rw [List.getElem?_eq_getElem hlt]
    simp only [Option.any_some, Option.bind_some]
    unfold St.app
    cases hd : o.dst with
    | none => simp
    | some d =>
      cases hv : es[i].v with
      | none =>
        simp only [lk_del]
        by_cases e : d = t <;> simp [e]
      | some x =>
        simp only [lk_cons]
        by_cases e : d = t <;> simp [e]

theorem lk_appI_m (st : St) (i : Nat) (n : Nm) : lk (appI ops es st i).m n = if wrN es n i then (es[i]?).bind (fun e => lk e.up n) else lk st.m n := by
  unfold appI wrN
  cases ho : ops[i]? with
  | none =>
    have hlt : es.length ≤ i := by rw [hl]; exact List.getElem?_eq_none_iff.1 ho
    simp [List.getElem?_eq_none hlt]
  | some o =>
    have hlt : i < es.length := by rw [hl]; exact (List.getElem?_eq_some_iff.1 ho).1
    rw [List.getElem?_eq_getElem hlt]
    simp only [Option.any_some, Option.bind_some, St.app, lk_append]
    cases lk es[i].up n <;> simp

theorem lk_foldS_t (t : Nat) : ∀ (l : List Nat) (st : St), lk (l.foldl (appI ops es) st).t t = match (l.filter (wrT ops t)).getLast? with | some i => (es[i]?).bind (·.v) | none => lk st.t t
  | [], st => by simp
  | i :: l, st => by
    rw [List.foldl_cons, lk_foldS_t t l, lk_appI_t hl]
    by_cases h : wrT ops t i = true
    · rw [List.filter_cons_of_pos h]
      cases hf : (l.filter (wrT ops t)).getLast? with
      | none =>
        have : l.filter (wrT ops t) = [] := by simpa using hf
        simp [this, h]
      | some k =>
        have hne : l.filter (wrT ops t) ≠ [] := fun e => by rw [e] at hf; simp at hf
        have : (i :: l.filter (wrT ops t)).getLast? = some k := by
          rw [List.getLast?_cons, hf]; rfl
        rw [this]
    · rw [List.filter_cons_of_neg h]
      simp [h]

theorem lk_foldS_m (n : Nm) : ∀ (l : List Nat) (st : St), lk (l.foldl (appI ops es) st).m n = match (l.filter (wrN es n)).getLast? with | some i => (es[i]?).bind (fun e => lk e.up n) | none => lk st.m n
  | [], st => by simp
  | i :: l, st => by
    rw [List.foldl_cons, lk_foldS_m n l, lk_appI_m hl]
    by_cases h : wrN es n i = true
    · rw [List.filter_cons_of_pos h]
      cases hf : (l.filter (wrN es n)).getLast? with
      | none =>
        have : l.filter (wrN es n) = [] := by simpa using hf
        simp [this, h]
      | some k =>
        have : (i :: l.filter (wrN es n)).getLast? = some k := by
          rw [List.getLast?_cons, hf]; rfl
        rw [this]
    · rw [List.filter_cons_of_neg h]
      simp [h]
end

/-! ### The check -/
/-- Bit i of the j-th number: operation i comes before operation j in every order. -/
def befs : List Nat → List Oper → List Nat
  | acc, [] => acc
  | acc, o :: r => befs (acc ++ [o.after.toList.foldl (fun s e => if Region.binds .any e then s ||| (2 ^ e.on) ||| acc.getD e.on 0 else s) 0]) r

def edgesOK : Nat → List Oper → Bool
  | _, [] => true
  | i, o :: r => (o.after.toList.all fun e => !Region.binds .any e || decide (e.on < i)) && edgesOK (i + 1) r

abbrev Foot := List Nm × List Nm
def footOf (e : Eff) : Foot := (e.rd, e.up.map (·.1))

def clash (ops : List Oper) (o1 o2 : Oper) (f1 f2 : Foot) : Bool :=
  (match o1.dst with | some d => (o2.looksAt ops.toArray).contains d || o2.dst == some d | none => false) ||
  (match o2.dst with | some d => (o1.looksAt ops.toArray).contains d | none => false) ||
  f1.2.any (fun n => f2.1.contains n) || f2.2.any (fun n => f1.1.contains n)

def chkPairs (ops : List Oper) (bs : List Nat) (fs : List Foot) : Bool :=
  (List.range ops.length).all fun j => (List.range j).all fun i =>
    match ops[i]?, ops[j]?, fs[i]?, fs[j]? with
    | some o1, some o2, some f1, some f2 => !clash ops o1 o2 f1 f2 || (bs.getD j 0).testBit i
    | _, _, _, _ => false

def chk (ops : List Oper) (fs : List Foot) : Bool :=
  edgesOK 0 ops && fs.all (fun f => f.2.all fun n => f.1.contains n) && (fs.length == ops.length) && chkPairs ops (befs [] ops) fs

/-- An operation before another. -/
inductive Bef (ops : List Oper) : Nat → Nat → Prop
  | edge {j : Nat} {o : Oper} {e : Edge} (ho : ops[j]? = some o) (he : e ∈ o.after) (hb : Region.binds .any e = true) : Bef ops e.on j
  | trans {i k j : Nat} (h : Bef ops i k) (h' : Bef ops k j) : Bef ops i j

theorem fold_bits (acc : List Nat) (i : Nat) : ∀ (es : List Edge) (s : Nat), (es.foldl (fun s e => if Region.binds .any e then s ||| (2 ^ e.on) ||| acc.getD e.on 0 else s) s).testBit i = true → s.testBit i = true ∨ ∃ e ∈ es, Region.binds .any e = true ∧ (e.on = i ∨ (acc.getD e.on 0).testBit i = true)
  | [], s, h => .inl h
  | e :: es, s, h => by
    rw [List.foldl_cons] at h
    rcases fold_bits acc i es _ h with h1 | ⟨e', he', hb, h1⟩
    · split at h1
      · rename_i hb
        simp only [Nat.testBit_or, Bool.or_eq_true, Nat.testBit_two_pow] at h1
        rcases h1 with (h1 | h1) | h1
        · exact .inl h1
        · exact .inr ⟨e, by simp, hb, .inl (by simpa using h1)⟩
        · exact .inr ⟨e, by simp, hb, .inr h1⟩
      · exact .inl h1
    · exact .inr ⟨e', by simp [he'], hb, h1⟩

theorem befs_spec (ops : List Oper) : ∀ (r : List Oper) (acc : List Nat), ops = ops.take acc.length ++ r → acc.length ≤ ops.length → (∀ i j, (acc.getD j 0).testBit i = true → Bef ops i j) → ∀ i j, ((befs acc r).getD j 0).testBit i = true → Bef ops i j
  | [], acc, _, _, h => h
  | o :: r, acc, he, hle, h => by
    have ho : ops[acc.length]? = some o := by
      rw [he, List.getElem?_append_right (by simp; omega)]
      simp [Nat.min_eq_left hle]
    have hlt : acc.length < ops.length := (List.getElem?_eq_some_iff.1 ho).1
    refine befs_spec ops r _ ?_ (by simp; omega) fun i j hij => ?_
    · rw [List.length_append, List.length_singleton, List.take_succ_eq_append_getElem hlt]
      have : ops[acc.length] = o := (List.getElem?_eq_some_iff.1 ho).2
      rw [this]
      simpa using he
    · by_cases hj : j < acc.length
      · rw [List.getD_eq_getElem?_getD, List.getElem?_append_left hj, ← List.getD_eq_getElem?_getD] at hij
        exact h i j hij
      · by_cases hj2 : j = acc.length
        · subst hj2
          rw [List.getD_eq_getElem?_getD, List.getElem?_append_right (Nat.le_refl _)] at hij
          simp only [Nat.sub_self, List.getElem?_cons_zero, Option.getD_some] at hij
          rcases fold_bits acc i _ _ hij with h0 | ⟨e, hem, hb, h1⟩
          · simp at h0
          · have hem' : e ∈ o.after := by simpa using hem
            rcases h1 with rfl | h1
            · exact .edge ho hem' hb
            · exact .trans (h i e.on h1) (.edge ho hem' hb)
        · rw [List.getD_eq_getElem?_getD, List.getElem?_append_right (by omega), List.getElem?_eq_none (by simp; omega)] at hij
          simp at hij

theorem edgesOK_spec : ∀ (r : List Oper) (i : Nat), edgesOK i r = true → ∀ j o e, r[j]? = some o → e ∈ o.after → Region.binds .any e = true → e.on < i + j
  | [], _, _, j, o, e, h => by simp at h
  | o0 :: r, i, h, j, o, e, ho => by
    intro he hb
    simp only [edgesOK, Bool.and_eq_true, List.all_eq_true] at h
    cases j with
    | zero =>
      simp only [List.getElem?_cons_zero, Option.some.injEq] at ho
      subst ho
      have := h.1 e (by simpa using he)
      simpa [hb] using this
    | succ j =>
      have := edgesOK_spec r (i + 1) h.2 j o e (by simpa using ho) he hb
      omega
end Go.V

/- V19: any order, the theorem; a statement with open order; a region that is drawn. -/
set_option linter.unusedVariables false
namespace Go.V

theorem clash_wr {ops : List Oper} {o1 o2 : Oper} {f1 f2 : Foot} {n : Nm} (h : n ∈ f1.2) (k : n ∈ f2.1) : clash ops o1 o2 f1 f2 = true := by
  have : f1.2.any (fun n => f2.1.contains n) = true := List.any_eq_true.2 ⟨n, h, by simpa using k⟩
  unfold clash
  rw [this, Bool.or_true, Bool.true_or]
theorem clash_rw {ops : List Oper} {o1 o2 : Oper} {f1 f2 : Foot} {n : Nm} (h : n ∈ f2.2) (k : n ∈ f1.1) : clash ops o1 o2 f1 f2 = true := by
  have : f2.2.any (fun n => f1.1.contains n) = true := List.any_eq_true.2 ⟨n, h, by simpa using k⟩
  unfold clash
  rw [this, Bool.or_true]

theorem countP_lt {p q : Nat → Bool} : ∀ {l : List Nat}, (∀ x ∈ l, p x = true → q x = true) → (∃ x ∈ l, q x = true ∧ p x = false) → l.countP p < l.countP q
  | [], _, ⟨x, hx, _⟩ => by simp at hx
  | y :: l, h, ⟨x, hx, h1, h2⟩ => by
    have hle : l.countP p ≤ l.countP q := List.countP_mono_left fun z hz => h z (by simp [hz])
    simp only [List.countP_cons]
    rcases List.mem_cons.1 hx with rfl | hx
    · simp [h1, h2]; omega
    · have := countP_lt (fun z hz => h z (List.mem_cons_of_mem _ hz)) ⟨x, hx, h1, h2⟩
      have hy := h y (by simp)
      cases hp : p y
      · simp; omega
      · simp [hy hp]; omega

theorem filter_range_lt {n i : Nat} (h : i ≤ n) (p : Nat → Bool) (hp : ∀ j, j < n → p j = true → j < i) : (List.range n).filter p = (List.range i).filter p := by
  obtain ⟨k, rfl⟩ : ∃ k, n = i + k := ⟨n - i, by omega⟩
  rw [List.range_add, List.filter_append]
  have : ((List.range k).map (i + ·)).filter p = [] := by
    rw [List.filter_eq_nil_iff]
    intro x hx
    obtain ⟨y, hy, rfl⟩ := List.mem_map.1 hx
    have := List.mem_range.1 hy
    intro hc
    have := hp (i + y) (by omega) hc
    omega
  rw [this, List.append_nil]

theorem getLast_filter_range {n i : Nat} (h : i < n) (p : Nat → Bool) (hi : p i = true) (hp : ∀ j, j < n → p j = true → j ≤ i) : ((List.range n).filter p).getLast? = some i := by
  rw [filter_range_lt (i := i + 1) (by omega) p (fun j hj hpj => by have := hp j hj hpj; omega), List.range_succ, List.filter_append]
  simp [hi]

theorem Bef.lt {ops : List Oper} (he : edgesOK 0 ops = true) {i j : Nat} (h : Bef ops i j) : i < j := by
  induction h with
  | edge ho hem hb => have := edgesOK_spec ops 0 he _ _ _ ho (by simpa using hem) hb; omega
  | trans _ _ h1 h2 => omega

/-- Those listed are closed under 'before'. -/
def Closed (ops : List Oper) (li : Nat → Bool) : Prop := ∀ i j, Bef ops i j → li j = true → li i = true

theorem Bef.ready {ops : List Oper} {li : Nat → Bool} (hc : Closed ops li) {i j : Nat} (h : Bef ops i j) (hr : ∀ o e, ops[j]? = some o → e ∈ o.after → Region.binds .any e = true → li e.on = true) : li i = true := by
  induction h with
  | edge ho he hb => exact hr _ _ ho he hb
  | trans h1 _ _ ih2 => exact hc _ _ h1 (ih2 hr)

section
variable {ops : List Oper} {es : List Eff}

theorem chk_specF {fs : List Foot} (h : chk ops fs = true) : edgesOK 0 ops = true ∧ fs.length = ops.length ∧ (∀ (i : Nat) f n, fs[i]? = some f → n ∈ f.2 → n ∈ f.1) ∧
    ∀ (i j : Nat) oi oj fi fj, i < j → ops[i]? = some oi → ops[j]? = some oj → fs[i]? = some fi → fs[j]? = some fj → clash ops oi oj fi fj = true → Bef ops i j := by
  simp only [chk, Bool.and_eq_true, beq_iff_eq] at h
  obtain ⟨⟨⟨h1, h2⟩, h3⟩, h4⟩ := h
  refine ⟨h1, h3, fun i f n hf hn => ?_, fun i j oi oj fi fj hij hi hj hfi hfj hc => ?_⟩
  · simp only [List.all_eq_true] at h2
    have := h2 f (List.mem_of_getElem? hf) n hn
    simpa using this
  · simp only [chkPairs, List.all_eq_true, List.mem_range] at h4
    have hjl : j < ops.length := (List.getElem?_eq_some_iff.1 hj).1
    have := h4 j hjl i hij
    simp only [hi, hj, hfi, hfj, hc, Bool.not_true, Bool.false_or] at this
    exact befs_spec ops ops [] (by simp) (by simp) (fun i j h => by simp at h) i j this
end

section
variable {Γ : Ctx} {tab : Tab} {et : EqTab} {Q : Exit → Act → World → Prop} {ops : List Oper} {es : List Eff} {st0 : St}

/-- The state that a set of operations leaves. -/
def stOf (ops : List Oper) (es : List Eff) (st0 : St) (li : Nat → Bool) : St := ((List.range ops.length).filter li).foldl (appI ops es) st0
def preOf (ops : List Oper) (es : List Eff) (st0 : St) (i : Nat) : St := (List.range i).foldl (appI ops es) st0

theorem any_local (hl : es.length = ops.length) {li : Nat → Bool} {i : Nat} (hi : i < ops.length) {wr : Nat → Bool} (hw : ∀ j, j < ops.length → wr j = true → li j = true → j < i) (hw2 : ∀ j, j < i → wr j = true → li j = true) :
    ((List.range ops.length).filter li).filter wr = (List.range i).filter wr := by
  rw [List.filter_filter]
  rw [filter_range_lt (i := i) (by omega) _ (fun j hj h => by simp only [Bool.and_eq_true] at h; exact hw j hj h.1 h.2)]
  refine List.filter_congr fun j hj => ?_
  cases hwj : wr j with
  | false => simp
  | true => simp [hw2 j (List.mem_range.1 hj) hwj]

theorem wpAny_goF (hT : TabOK Γ.P tab) (hq : EqOK Γ.P et) {fs : List Foot} (hchk : chk ops fs = true) (hlen : es.length = ops.length) (hfw : ∀ (i : Nat) e f, es[i]? = some e → fs[i]? = some f → f.2 = e.up.map (·.1))
    (hloc : ∀ (i : Nat) o e f (li : Nat → Bool), ops[i]? = some o → es[i]? = some e → fs[i]? = some f → Closed ops li → li i = false → (∀ t ∈ o.looksAt ops.toArray, lk (stOf ops es st0 li).t t = lk (preOf ops es st0 i).t t) → (∀ n ∈ f.1, lk (stOf ops es st0 li).m n = lk (preOf ops es st0 i).m n) → StepR Γ.P tab et Γ.N ops o (stOf ops es st0 li) e)
    (hK : ∀ a w, R Γ (preOf ops es st0 ops.length) a w → Q .normal a w) : ∀ (fuel : Nat) (listed : Array Bool) (a : Act) (w : World), listed.size = ops.length → Closed ops (fun i => listed.getD i false) → (List.range ops.length).countP (fun i => !listed.getD i false) ≤ fuel → R Γ (stOf ops es st0 (fun i => listed.getD i false)) a w → wpAny Γ.P .any ops.toArray Q fuel listed a w := by
  obtain ⟨hedge, hfl, hup, hclash⟩ := chk_specF hchk
  have hl := hlen
  -- when nothing is ready, everything is listed
  have hall : ∀ (listed : Array Bool), listed.size = ops.length → Region.ready .any ops.toArray listed = [] → ∀ i, i < ops.length → listed.getD i false = true := by
    intro listed hs hr i
    induction i using Nat.strongRecOn with
    | _ i ih =>
      intro hi
      cases hli : listed.getD i false with
      | true => rfl
      | false =>
        exfalso
        have : i ∈ Region.ready .any ops.toArray listed := by
          unfold Region.ready
          refine List.mem_filter.2 ⟨by simpa using hi, ?_⟩
          have ht : listed.getD i true = false := by
            have hlt : i < listed.size := by omega
            simpa [Array.getD_eq_getD_getElem?, hlt] using hli
          simp only [ht, Bool.not_false, Bool.true_and]
          have ho : ops.toArray[i]? = some ops[i] := by simp [hi]
          rw [ho]
          simp only [Option.map_some, Option.getD_some, Array.all_eq_true_iff_forall_mem, Bool.or_eq_true, Bool.not_eq_true']
          intro e he
          cases hb : Region.binds .any e with
          | false => exact .inl rfl
          | true =>
            have hlt := edgesOK_spec ops 0 hedge i ops[i] e (by simp [hi]) he hb
            exact .inr (ih e.on (by omega) (by omega))
        rw [hr] at this
        cases this
  have hend : ∀ (listed : Array Bool) a w, listed.size = ops.length → Region.ready .any ops.toArray listed = [] → R Γ (stOf ops es st0 (fun i => listed.getD i false)) a w → Q .normal a w := by
    intro listed a w hs hr hR
    refine hK a w ?_
    have hf : (List.range ops.length).filter (fun i => listed.getD i false) = List.range ops.length := List.filter_eq_self.2 fun i hi => hall listed hs hr i (List.mem_range.1 hi)
    unfold stOf at hR
    rw [hf] at hR
    exact hR
  intro fuel
  induction fuel with
  | zero =>
    intro listed a w hs hc hn hR
    have hr : Region.ready .any ops.toArray listed = [] := by
      have h0 : (List.range ops.length).countP (fun i => !listed.getD i false) = 0 := by omega
      rw [List.countP_eq_zero] at h0
      unfold Region.ready
      rw [List.filter_eq_nil_iff]
      intro i hi
      have hi' : i < ops.length := by simpa using hi
      have := h0 i (List.mem_range.2 hi')
      have hlt : i < listed.size := by omega
      have ht : listed.getD i true = true := by simpa [Array.getD_eq_getD_getElem?, hlt] using this
      simp [ht]
    exact ⟨hr, hend listed a w hs hr hR⟩
  | succ fuel ih =>
    intro listed a w hs hc hn hR
    refine ⟨fun hr => hend listed a w hs hr hR, fun i hi => ?_⟩
    unfold Region.ready at hi
    obtain ⟨hi1, hi2⟩ := List.mem_filter.1 hi
    have hil : i < ops.length := by simpa using hi1
    have hils : i < listed.size := by omega
    have ho : ops[i]? = some ops[i] := List.getElem?_eq_getElem hil
    have he : es[i]? = some es[i] := List.getElem?_eq_getElem (by omega)
    have hfi : i < fs.length := by omega
    have hf : fs[i]? = some fs[i] := List.getElem?_eq_getElem hfi
    simp only [Bool.and_eq_true, Bool.not_eq_true'] at hi2
    obtain ⟨hun, hrdy⟩ := hi2
    have hun' : listed.getD i false = false := by simpa [Array.getD_eq_getD_getElem?, hils] using hun
    have ho' : ops.toArray[i]? = some ops[i] := by simp [hil]
    rw [ho'] at hrdy
    simp only [Option.map_some, Option.getD_some, Array.all_eq_true_iff_forall_mem, Bool.or_eq_true, Bool.not_eq_true'] at hrdy
    have hbef : ∀ j, Bef ops j i → listed.getD j false = true := fun j hb => hb.ready (li := fun i => listed.getD i false) hc fun o e ho2 hem hbi => by
      rw [ho] at ho2; injection ho2 with ho2; subst ho2
      rcases hrdy e hem with h | h
      · rw [hbi] at h; cases h
      · exact h
    have haft : ∀ j, Bef ops i j → listed.getD j false = false := fun j hb => by
      cases hj : listed.getD j false with
      | false => rfl
      | true => have : listed.getD i false = true := hc i j hb hj
                rw [hun'] at this; cases this
    -- pairs that clash
    have hcl : ∀ j, j < ops.length → j ≠ i → (∀ (hj : j < ops.length) (hj2 : j < fs.length), clash ops ops[j] ops[i] fs[j] fs[i] = true ∧ clash ops ops[i] ops[j] fs[i] fs[j] = true) → (j < i → listed.getD j false = true) ∧ (listed.getD j false = true → j < i) := by
      intro j hj hne hcl
      have hje : j < fs.length := by omega
      obtain ⟨c1, c2⟩ := hcl hj hje
      refine ⟨fun hlt => hbef j (hclash j i _ _ _ _ hlt (List.getElem?_eq_getElem hj) ho (List.getElem?_eq_getElem hje) hf c1), fun hlj => ?_⟩
      rcases Nat.lt_or_ge j i with h | h
      · exact h
      · have hlt : i < j := by omega
        have := haft j (hclash i j _ _ _ _ hlt ho (List.getElem?_eq_getElem hj) hf (List.getElem?_eq_getElem hje) c2)
        rw [this] at hlj; cases hlj
    have hwrT : ∀ t j, j < ops.length → (wrT ops t j = true ↔ ∀ hj : j < ops.length, ops[j].dst = some t) := fun t j hj => by
      unfold wrT
      simp [List.getElem?_eq_getElem hj, hj]
    have hwrN : ∀ n j, j < ops.length → (wrN es n j = true ↔ ∀ hj : j < es.length, (lk es[j].up n).isSome = true) := fun n j hj => by
      unfold wrN
      have : j < es.length := by omega
      simp [List.getElem?_eq_getElem this, this]
    have hupn : ∀ j n (hj : j < es.length) (hj2 : j < fs.length), (lk es[j].up n).isSome = true → n ∈ fs[j].2 := fun j n hj hj2 h => by
      obtain ⟨o, hoo⟩ := Option.isSome_iff_exists.1 h
      rw [hfw j es[j] fs[j] (List.getElem?_eq_getElem hj) (List.getElem?_eq_getElem hj2)]
      exact List.mem_map.2 ⟨(n, o), lk_mem hoo, rfl⟩
    -- writers of what i looks at or writes
    have hTt : ∀ t, t ∈ ops[i].looksAt ops.toArray ∨ ops[i].dst = some t → ∀ j, j < ops.length → j ≠ i → wrT ops t j = true → (j < i → listed.getD j false = true) ∧ (listed.getD j false = true → j < i) := by
      intro t ht j hj hne hw
      refine hcl j hj hne fun hj hj2 => ?_
      have hd := (hwrT t j hj).1 hw hj
      unfold clash
      rcases ht with ht | ht
      · constructor
        · simp [hd, ht]
        · simp [hd, ht]
      · constructor
        · simp [hd, ht]
        · simp [hd, ht]
    have hNn : ∀ n, n ∈ fs[i].1 → ∀ j, j < ops.length → j ≠ i → wrN es n j = true → (j < i → listed.getD j false = true) ∧ (listed.getD j false = true → j < i) := by
      intro n hn j hj hne hw
      refine hcl j hj hne fun hj hj2 => ?_
      have hd := hupn j n (by omega) hj2 ((hwrN n j hj).1 hw (by omega))
      exact ⟨clash_wr hd hn, clash_rw hd hn⟩
    have hst : StepR Γ.P tab et Γ.N ops ops[i] (stOf ops es st0 (fun i => listed.getD i false)) es[i] := by
      refine hloc i _ _ _ (fun i => listed.getD i false) ho he hf hc hun' (fun t ht => ?_) fun n hn => ?_
      · rw [stOf, preOf, lk_foldS_t hl, lk_foldS_t hl, any_local hl hil]
        · intro j hj hw hlj
          by_cases hji : j = i
          · subst hji; rw [hun'] at hlj; cases hlj
          · exact (hTt t (.inl ht) j hj hji hw).2 hlj
        · intro j hj hw
          exact (hTt t (.inl ht) j (by omega) (by omega) hw).1 hj
      · rw [stOf, preOf, lk_foldS_m hl, lk_foldS_m hl, any_local hl hil]
        · intro j hj hw hlj
          by_cases hji : j = i
          · subst hji; rw [hun'] at hlj; cases hlj
          · exact (hNn n hn j hj hji hw).2 hlj
        · intro j hj hw
          exact (hNn n hn j (by omega) (by omega) hw).1 hj
    refine StepR.wpOp hT hq ho hR hst fun a' w' hR' => ?_
    have hgd : ∀ j, (listed.setIfInBounds i true).getD j false = if j = i then true else listed.getD j false := fun j => by
      rw [Array.getD_eq_getD_getElem?, Array.getD_eq_getD_getElem?, Array.getElem?_setIfInBounds]
      by_cases hji : i = j
      · subst hji; simp [hils]
      · have : ¬ j = i := fun e => hji e.symm
        simp [hji, this]
    refine ih _ a' w' (by simpa using hs) ?_ ?_ ?_
    · intro x y hb hy
      simp only [hgd] at hy ⊢
      split
      · rfl
      · split at hy
        · rename_i h1 h2; subst h2; exact hbef x hb
        · exact hc x y hb hy
    · have : (List.range ops.length).countP (fun j => !(listed.setIfInBounds i true).getD j false) < (List.range ops.length).countP (fun j => !listed.getD j false) := by
        refine countP_lt (fun j _ h => ?_) ⟨i, List.mem_range.2 hil, by rw [hun']; rfl, by rw [hgd]; simp⟩
        rw [hgd] at h
        split at h
        · cases h
        · exact h
      omega
    · have hst1 : (St.app (stOf ops es st0 (fun i => listed.getD i false)) ops[i].dst es[i]) = appI ops es (stOf ops es st0 (fun i => listed.getD i false)) i := by
        unfold appI; rw [ho, he]
      refine R_congr hR' (fun t => ?_) fun n => ?_
      · rw [hst1, lk_appI_t hl, stOf, stOf, lk_foldS_t hl, lk_foldS_t hl, List.filter_filter, List.filter_filter]
        by_cases hw : wrT ops t i = true
        · rw [if_pos hw]
          have := getLast_filter_range hil (fun a => wrT ops t a && (listed.setIfInBounds i true).getD a false) (by rw [hgd, hw]; simp) fun j hj hh => by
            simp only [Bool.and_eq_true, hgd] at hh
            by_cases hji : j = i
            · omega
            · rw [if_neg hji] at hh
              exact Nat.le_of_lt ((hTt t (.inr ((hwrT t i hil).1 hw hil)) j hj hji hh.1).2 hh.2)
          rw [this]
        · rw [if_neg hw]
          have hc2 : (List.range ops.length).filter (fun a => wrT ops t a && (listed.setIfInBounds i true).getD a false) = (List.range ops.length).filter (fun a => wrT ops t a && listed.getD a false) := by
            refine List.filter_congr fun j _ => ?_
            rw [hgd]
            by_cases hji : j = i
            · subst hji; simp only [Bool.not_eq_true] at hw; rw [hw]; simp
            · rw [if_neg hji]
          rw [hc2]
      · rw [hst1, lk_appI_m hl, stOf, stOf, lk_foldS_m hl, lk_foldS_m hl, List.filter_filter, List.filter_filter]
        by_cases hw : wrN es n i = true
        · rw [if_pos hw]
          have := getLast_filter_range hil (fun a => wrN es n a && (listed.setIfInBounds i true).getD a false) (by rw [hgd, hw]; simp) fun j hj hh => by
            simp only [Bool.and_eq_true, hgd] at hh
            by_cases hji : j = i
            · omega
            · rw [if_neg hji] at hh
              have hin := hup i _ n hf (hupn i n (by omega) hfi ((hwrN n i hil).1 hw (by omega)))
              exact Nat.le_of_lt ((hNn n hin j hj hji hh.1).2 hh.2)
          rw [this]
        · rw [if_neg hw]
          have hc2 : (List.range ops.length).filter (fun a => wrN es n a && (listed.setIfInBounds i true).getD a false) = (List.range ops.length).filter (fun a => wrN es n a && listed.getD a false) := by
            refine List.filter_congr fun j _ => ?_
            rw [hgd]
            by_cases hji : j = i
            · subst hji; simp only [Bool.not_eq_true] at hw; rw [hw]; simp
            · rw [if_neg hji]
          rw [hc2]

theorem wpAny_go (hT : TabOK Γ.P tab) (hq : EqOK Γ.P et) (hchk : chk ops (es.map footOf) = true) (hstep : ∀ i o e, ops[i]? = some o → es[i]? = some e → StepR Γ.P tab et Γ.N ops o (preOf ops es st0 i) e)
    (hK : ∀ a w, R Γ (preOf ops es st0 ops.length) a w → Q .normal a w) : ∀ (fuel : Nat) (listed : Array Bool) (a : Act) (w : World), listed.size = ops.length → Closed ops (fun i => listed.getD i false) → (List.range ops.length).countP (fun i => !listed.getD i false) ≤ fuel → R Γ (stOf ops es st0 (fun i => listed.getD i false)) a w → wpAny Γ.P .any ops.toArray Q fuel listed a w :=
  wpAny_goF hT hq hchk (by have := (chk_specF hchk).2.1; simpa using this) (fun i e f he hf => by
    rw [List.getElem?_map, he] at hf
    injection hf with hf
    subst hf
    rfl) (fun i o e f li ho he hf _ _ ht hm => by
    rw [List.getElem?_map, he] at hf
    injection hf with hf
    subst hf
    exact (hstep i o e ho he).local ht hm) hK
end

/-! ### A lookup beside the making of an entry -/
theorem aget_aent (l : List (List Int × Value)) (x y : List Int) (z : Value) : (aget (aent l y z) x).getD z = (aget l x).getD z := by
  induction l with
  | nil =>
    unfold aget
    simp only [aent, aix]
    split <;> simp
  | cons p r ih =>
    unfold aget at ih ⊢
    simp only [aent]
    by_cases h : p.1 = y
    · rw [if_pos h]
    · rw [if_neg h]
      simp only [aix]
      by_cases h2 : p.1 = x
      · simp [h2]
      · simpa [h2] using ih

def lookT (o : Oper) : Option Nat := match o.guard, o.op with
  | none, .lookup t _ _ false => some t
  | _, _ => none
def entryT (o : Oper) : Option Nat := match o.guard, o.op with
  | none, .mapEntry t _ _ => some t
  | _, _ => none
def dropN (fs : List Foot) (i n : Nat) : List Foot := fs.modify i fun f => (f.1.filter fun k => !(k == n), f.2)
def chk2At (ops : List Oper) (fs : List Foot) (i j n : Nat) : Bool :=
  (fs[i]?.map (·.1) == some [n]) && decide (i < j) && chk ops (dropN fs i n) &&
  (List.range ops.length).all fun k => k == j || !((fs[k]?.map fun f => f.2.contains n).getD true) || (decide (j < k) && ((befs [] ops).getD k 0).testBit i)
def chk2 (ops : List Oper) (fs : List Foot) : Bool :=
  (List.range ops.length).any fun i => (List.range ops.length).any fun j => match (ops[i]?).bind lookT, (ops[j]?).bind entryT with
    | some t, some t' => t == t' && chk2At ops fs i j ((fs[i]?.map fun f => f.1.headD 0).getD 0)
    | _, _ => false
def chkX (ops : List Oper) (fs : List Foot) : Bool := chk ops fs || chk2 ops fs

section
variable {Γ : Ctx} {tab : Tab} {et : EqTab} {Q : Exit → Act → World → Prop} {ops : List Oper} {es : List Eff} {st0 : St}

theorem chk2_loc {P : Program} {N : Nat} {i j n t : Nat} {oi oj : Oper} (hl : es.length = ops.length) (hoi : ops[i]? = some oi) (hoj : ops[j]? = some oj) (hti : lookT oi = some t) (htj : entryT oj = some t)
    (hrd : ((es.map footOf)[i]?).map (·.1) = some [n]) (hij : i < j) (hw : ∀ k, k < ops.length → wrN es n k = true → k = j ∨ (j < k ∧ Bef ops i k))
    (hstep : ∀ i o e, ops[i]? = some o → es[i]? = some e → StepR P tab et N ops o (preOf ops es st0 i) e) {e : Eff} (he : es[i]? = some e) (li : Nat → Bool) (hc : Closed ops li) (hli : li i = false)
    (ht : ∀ t ∈ oi.looksAt ops.toArray, lk (stOf ops es st0 li).t t = lk (preOf ops es st0 i).t t) : StepR P tab et N ops oi (stOf ops es st0 li) e := by
  have hs := hstep i oi e hoi he
  have hil : i < ops.length := (List.getElem?_eq_some_iff.1 hoi).1
  have hjl : j < ops.length := (List.getElem?_eq_some_iff.1 hoj).1
  obtain ⟨ej, hej⟩ : ∃ ej, es[j]? = some ej := ⟨_, List.getElem?_eq_getElem (by omega)⟩
  have hsj := hstep j oj ej hoj hej
  have hrdi : e.rd = [n] := by simpa [he, footOf] using hrd
  -- what both see of the map
  have pre0 : ∀ q, q ≤ j → lk (preOf ops es st0 q).m n = lk st0.m n := fun q hq => by
    rw [preOf, lk_foldS_m hl]
    have : (List.range q).filter (wrN es n) = [] := by
      rw [List.filter_eq_nil_iff]
      intro k hk hwk
      have hkq := List.mem_range.1 hk
      rcases hw k (by omega) hwk with h | ⟨h, _⟩ <;> omega
    rw [this]; rfl
  have hst : lk (stOf ops es st0 li).m n = lk st0.m n ∨ (wrN es n j = true ∧ lk (stOf ops es st0 li).m n = lk ej.up n) := by
    rw [stOf, lk_foldS_m hl]
    cases hg : (((List.range ops.length).filter li).filter (wrN es n)).getLast? with
    | none => exact .inl rfl
    | some k =>
      have hm := List.mem_of_getLast? hg
      obtain ⟨h1, h2⟩ := List.mem_filter.1 hm
      obtain ⟨h3, h4⟩ := List.mem_filter.1 h1
      rcases hw k (List.mem_range.1 h3) h2 with rfl | ⟨_, hb⟩
      · exact .inr ⟨h2, by simp [hej]⟩
      · have := hc _ _ hb h4
        rw [hli] at this; cases this
  -- the lookup
  obtain ⟨hd, hs⟩ := hs
  refine ⟨hd, ?_⟩
  unfold lookT at hti
  split at hti
  case h_2 => cases hti
  rename_i t0 x k hgd hop
  injection hti with hti
  subst hti
  rw [hgd] at hs ⊢
  simp only [RunR, hop] at hs ⊢
  obtain ⟨p, hev, hp⟩ := hs
  refine ⟨p, ?_, hp⟩
  have hlook : ∀ q : Nat, Operand.tmp q ∈ oi.op.operands.toList → lk (stOf ops es st0 li).t q = lk (preOf ops es st0 i).t q := fun q hq => ht q (by
    unfold Oper.looksAt
    exact List.mem_append_left _ (List.mem_filterMap.2 ⟨.tmp q, hq, rfl⟩))
  rw [hop] at hlook
  simp only [Op.operands] at hlook
  simp only [ev] at hev ⊢
  obtain ⟨u, v, hu, hv, hlk⟩ := ev2_some hev
  have hu' : opd (stOf ops es st0 li) x = some u := by rw [opd_local (st := preOf ops es st0 i) fun q e => hlook q (by simp [e])]; exact hu
  have hv' : opd (stOf ops es st0 li) k = some v := by rw [opd_local (st := preOf ops es st0 i) fun q e => hlook q (by simp [e])]; exact hv
  simp only [ev2, hu', hv']
  unfold evLookup at hlk ⊢
  split at hlk
  case h_2 => cases hlk
  rename_i n' mk l xs hm
  simp only [Option.some.injEq, Prod.mk.injEq] at hlk
  obtain ⟨rfl, rfl⟩ := hlk
  have hnn : n' = n := by simpa using hrdi
  subst hnn
  have hmm := hm
  unfold mapAt at hmm
  split at hmm
  case h_2 => cases hmm
  rename_i n2 mk2 hmk
  split at hmm
  case h_2 => cases hmm
  rename_i kn ag l2 hn2
  split at hmm
  case isFalse => cases hmm
  rename_i hkk
  obtain ⟨xs2, hxs, hmm⟩ := Option.map_eq_some_iff.1 hmm
  simp only [Prod.mk.injEq] at hmm
  obtain ⟨rfl, rfl, rfl, rfl⟩ := hmm
  obtain ⟨rfl, rfl⟩ := hkk
  have h0 : lk st0.m n2 = some (.map mk2.kn mk2.ag l2) := by rw [← pre0 i (by omega)]; exact hn2
  rcases hst with hst | ⟨hwj, hst⟩
  · have : mapAt et (stOf ops es st0 li) t0 (.c (.mp n2)) v = some (n2, mk2, l2, xs2) := by
      simp [mapAt, hmk, hst, h0, hxs]
    rw [this]
  · -- behind the entry
    obtain ⟨_, hsj⟩ := hsj
    unfold entryT at htj
    split at htj
    case h_2 => cases htj
    rename_i t1 x1 k1 hgj hoj1
    injection htj with htj
    subst htj
    rw [hgj] at hsj
    simp only [RunR, hoj1] at hsj
    obtain ⟨p1, hev1, _⟩ := hsj
    simp only [ev] at hev1
    obtain ⟨u1, v1, hq1, hq2, hlk1⟩ := ev2_some hev1
    clear hq1 hq2
    unfold evMapEntry at hlk1
    split at hlk1
    case h_2 => cases hlk1
    rename_i n3 mk3 l3 xs3 hm3
    simp only [Option.some.injEq, Prod.mk.injEq] at hlk1
    obtain ⟨_, rfl⟩ := hlk1
    unfold mapAt at hm3
    split at hm3
    case h_2 => cases hm3
    rename_i n4 mk4 hmk4
    split at hm3
    case h_2 => cases hm3
    rename_i kn4 ag4 l4 hn4
    split at hm3
    case isFalse => cases hm3
    rename_i hkk4
    obtain ⟨xs4, hxs4, hm3⟩ := Option.map_eq_some_iff.1 hm3
    simp only [Prod.mk.injEq] at hm3
    obtain ⟨rfl, rfl, rfl, rfl⟩ := hm3
    rw [hmk] at hmk4
    injection hmk4 with hmk4
    subst hmk4
    have hn34 : n4 = n2 := by
      unfold wrN at hwj
      rw [hej] at hwj
      simp only [Option.any_some, lk_cons, lk_nil] at hwj
      split at hwj
      · assumption
      · cases hwj
    subst hn34
    have h5 : lk st0.m n4 = some (.map kn4 ag4 l4) := by rw [← pre0 j (Nat.le_refl _)]; exact hn4
    rw [h0] at h5
    injection h5 with h5
    injection h5 with _ _ h5
    subst h5
    simp only [lk_same] at hst
    have : mapAt et (stOf ops es st0 li) t1 (.c (.mp n4)) v = some (n4, mk2, aent l2 xs4 mk2.zero, xs2) := by
      simp [mapAt, hmk, hst, hxs]
    rw [this]
    simp [aget_aent]
theorem chkX_len (h : chkX ops (es.map footOf) = true) : es.length = ops.length := by
  unfold chkX at h
  rcases Bool.or_eq_true_iff.1 h with h | h
  · have := (chk_specF h).2.1
    simpa using this
  · unfold chk2 at h
    obtain ⟨i, _, h⟩ := List.any_eq_true.1 h
    obtain ⟨j, _, h⟩ := List.any_eq_true.1 h
    split at h
    case h_2 => cases h
    simp only [chk2At, Bool.and_eq_true] at h
    have := (chk_specF h.2.1.2).2.1
    simpa [dropN] using this

theorem wpAny_goX (hT : TabOK Γ.P tab) (hq : EqOK Γ.P et) (hchk : chkX ops (es.map footOf) = true) (hstep : ∀ i o e, ops[i]? = some o → es[i]? = some e → StepR Γ.P tab et Γ.N ops o (preOf ops es st0 i) e)
    (hK : ∀ a w, R Γ (preOf ops es st0 ops.length) a w → Q .normal a w) : ∀ (fuel : Nat) (listed : Array Bool) (a : Act) (w : World), listed.size = ops.length → Closed ops (fun i => listed.getD i false) → (List.range ops.length).countP (fun i => !listed.getD i false) ≤ fuel → R Γ (stOf ops es st0 (fun i => listed.getD i false)) a w → wpAny Γ.P .any ops.toArray Q fuel listed a w := by
  have hl := chkX_len hchk
  unfold chkX at hchk
  rcases Bool.or_eq_true_iff.1 hchk with h | h
  · exact wpAny_go hT hq h hstep hK
  · unfold chk2 at h
    obtain ⟨i, _, h⟩ := List.any_eq_true.1 h
    obtain ⟨j, _, h⟩ := List.any_eq_true.1 h
    split at h
    case h_2 => cases h
    rename_i t t' hti htj
    obtain ⟨oi, hoi, hti⟩ := Option.bind_eq_some_iff.1 hti
    obtain ⟨oj, hoj, htj⟩ := Option.bind_eq_some_iff.1 htj
    generalize (((es.map footOf)[i]?.map fun f => f.1.headD 0).getD 0) = n at h
    simp only [chk2At, Bool.and_eq_true, beq_iff_eq, decide_eq_true_eq] at h
    obtain ⟨htt, ⟨⟨hrd, hij⟩, hc⟩, hall⟩ := h
    subst htt
    have hw : ∀ k, k < ops.length → wrN es n k = true → k = j ∨ (j < k ∧ Bef ops i k) := fun k hk hwk => by
      have := List.all_eq_true.1 hall k (List.mem_range.2 hk)
      simp only [Bool.or_eq_true, beq_iff_eq, Bool.not_eq_true', Bool.and_eq_true, decide_eq_true_eq] at this
      have hke : k < es.length := by omega
      have hcon : ((es.map footOf)[k]?.map fun f => f.2.contains n).getD true = true := by
        unfold wrN at hwk
        rw [List.getElem?_eq_getElem hke] at hwk
        simp only [Option.any_some] at hwk
        obtain ⟨o, hoo⟩ := Option.isSome_iff_exists.1 hwk
        have : n ∈ (footOf es[k]).2 := List.mem_map.2 ⟨(n, o), lk_mem hoo, rfl⟩
        simp only [List.getElem?_map, List.getElem?_eq_getElem hke, Option.map_some, Option.getD_some]
        simpa using this
      rcases this with (h | h) | h
      · exact .inl h
      · rw [hcon] at h; cases h
      · exact .inr ⟨h.1, befs_spec ops ops [] (by simp) (by simp) (fun i j h => by simp at h) i k h.2⟩
    refine wpAny_goF (fs := dropN (es.map footOf) i n) hT hq hc hl (fun q e f he hf => ?_) (fun q o e f li ho he hf hcl hli ht hm => ?_) hK
    · unfold dropN at hf
      rw [List.getElem?_modify, List.getElem?_map, he] at hf
      simp only [Option.map_some, Option.map_eq_map] at hf
      split at hf <;> (simp at hf; subst hf; rfl)
    · by_cases hqi : i = q
      · subst hqi
        rw [hoi] at ho
        injection ho with ho
        subst ho
        exact chk2_loc hl hoi hoj hti htj hrd hij hw hstep he li hcl hli ht
      · unfold dropN at hf
        rw [List.getElem?_modify, List.getElem?_map, he] at hf
        simp [hqi] at hf
        subst hf
        exact (hstep q o e ho he).local ht hm
end

/-! ### The rule -/
/-- As vops, for a statement whose order is open: the order of the text is followed, and what the others might see is checked. -/
def vopsD (P : Program) (tab : Tab) (et : EqTab) (N : Nat) (ops : List Oper) (K : St → Prop) : List Oper → List Foot → St → Prop
  | [], fs, st => chkX ops fs = true ∧ K st
  | o :: r, fs, st => match o.guard with
    | none => stepE P tab et N o st fun e => vopsD P tab et N ops K r (fs ++ [footOf e]) (st.app o.dst e)
    | some (j, true) => gdK (gdV ops st j) (gdU ops st j = true ∧ dstOK N o ∧ vopsD P tab et N ops K r (fs ++ [([], [])]) (st.app o.dst skE)) fun b => (b = true → stepE P tab et N o (st.set (gdT ops j) true) fun e => vopsD P tab et N ops K r (fs ++ [footOf e]) ((st.set (gdT ops j) true).app o.dst e)) ∧ (b = false → dstOK N o ∧ vopsD P tab et N ops K r (fs ++ [([], [])]) ((st.set (gdT ops j) false).app o.dst skE))
    | some (j, false) => gdK (gdV ops st j) (gdU ops st j = true ∧ dstOK N o ∧ vopsD P tab et N ops K r (fs ++ [([], [])]) (st.app o.dst skE)) fun b => (b = false → stepE P tab et N o (st.set (gdT ops j) false) fun e => vopsD P tab et N ops K r (fs ++ [footOf e]) ((st.set (gdT ops j) false).app o.dst e)) ∧ (b = true → dstOK N o ∧ vopsD P tab et N ops K r (fs ++ [([], [])]) ((st.set (gdT ops j) true).app o.dst skE))

def Chain (P : Program) (tab : Tab) (et : EqTab) (N : Nat) (ops : List Oper) : List Oper → List Eff → St → St → Prop
  | [], [], st, st' => st = st'
  | o :: r, e :: es, st, st' => StepR P tab et N ops o st e ∧ Chain P tab et N ops r es (st.app o.dst e) st'
  | _, _, _, _ => False

section
variable {P : Program} {N : Nat} {tab : Tab} {et : EqTab} {st : St} {K : St → Prop} {ops : List Oper}

theorem stepE_run {o : Oper} {k : Eff → Prop} (h : stepE P tab et N o st k) : dstOK N o ∧ ∃ e, RunR P tab et o st e ∧ k e := by
  obtain ⟨hd, h⟩ := h
  refine ⟨hd, ?_⟩
  unfold RunR
  split at h
  · rename_i fo args ats hop
    unfold callE at h
    split at h
    case h_2 => exact h.elim
    rename_i f us cs ts hf hts
    rcases h with h | ⟨ρ, ma, ar, res, mr, ns, hcm, hk⟩
    · split at h
      case h_2 => exact h.elim
      rename_i p ts' ns hat
      obtain ⟨hp, ar, res, hle, hspec, hk⟩ := h
      exact ⟨⟨some res, callUp st.m ns res, ns⟩, by simp only [hop]; exact ⟨f, us, cs, ts, hf, hts, .inl ⟨p, ts', ns, ar, res, hat, hp, hle, hspec, rfl⟩⟩, hk⟩
    · exact ⟨_, by simp only [hop]; exact ⟨f, us, cs, ts, hf, hts, .inr ⟨ρ, ma, ar, res, mr, ns, hcm, rfl⟩⟩, hk⟩
  · rename_i hn
    unfold evK at h
    split at h
    · rename_i p e he
      refine ⟨e, ?_, h.2⟩
      split
      · rename_i h2; exact absurd h2 (hn _ _ _)
      · exact ⟨p, he, h.1⟩
    · exact h.elim

/-- Two states that say the same. -/
def Same (st st' : St) : Prop := (∀ t, lk st'.t t = lk st.t t) ∧ ∀ n, lk st'.m n = lk st.m n
theorem Same.refl (st : St) : Same st st := ⟨fun _ => rfl, fun _ => rfl⟩
theorem Same.app {st st' : St} (h : Same st st') (dst : Option Nat) (e : Eff) : Same (st.app dst e) (st'.app dst e) := by
  refine ⟨fun t => ?_, fun n => by simp only [St.app, lk_append, h.2]⟩
  unfold St.app
  cases dst with
  | none => exact h.1 t
  | some d => cases e.v with
    | none => simp only [lk_del, h.1]
    | some x => simp only [lk_cons, h.1]
theorem asB_eq {x : T} {b : Bool} (h : asB x = some b) : x = tB b := by
  unfold asB at h
  split at h
  · injection h with h; subst h; rfl
  · cases h
theorem Same.set {st st2 : St} {j : Nat} {b : Bool} (hb : gdV ops st j = some b) (h : Same st st2) : Same (st.set (gdT ops j) b) st2 := by
  refine ⟨fun t => ?_, h.2⟩
  unfold gdV at hb
  split at hb
  · rename_i t' ht
    obtain ⟨x, hx, hxb⟩ := Option.bind_eq_some_iff.1 hb
    have hgt : gdT ops j = t' := by unfold gdT; rw [ht]; rfl
    rw [h.1]
    simp only [St.set, lk_cons, hgt]
    split
    · rename_i e
      subst e
      rw [hx, asB_eq hxb]
    · rfl
  · cases hb
theorem gdV_same {st st2 : St} (h : Same st st2) (j : Nat) : gdV ops st2 j = gdV ops st j := gdV_local fun t _ => h.1 t
theorem StepR.same {o : Oper} {e : Eff} {st st2 : St} (hs : StepR P tab et N ops o st e) (h : Same st st2) : StepR P tab et N ops o st2 e :=
  hs.local (fun t _ => h.1 t) fun n _ => h.2 n
theorem RunR.same {o : Oper} {e : Eff} {st st2 : St} (hs : RunR P tab et o st e) (h : Same st st2) : RunR P tab et o st2 e :=
  hs.local (fun t _ => h.1 t) fun n _ => h.2 n

theorem vopsD_chain : ∀ (r : List Oper) (fs : List Foot) (st st2 : St), Same st st2 → vopsD P tab et N ops K r fs st → ∃ es st' stK, Chain P tab et N ops r es st2 st' ∧ chkX ops (fs ++ es.map footOf) = true ∧ K stK ∧ Same stK st'
  | [], fs, st, st2, hs, h => ⟨[], st2, st, rfl, by simpa using h.1, h.2, hs⟩
  | o :: r, fs, st, st2, hs, h => by
    have hk : ∀ st e, Same st st2 → StepR P tab et N ops o st2 e → vopsD P tab et N ops K r (fs ++ [footOf e]) (st.app o.dst e) → ∃ es st' stK, Chain P tab et N ops (o :: r) es st2 st' ∧ chkX ops (fs ++ es.map footOf) = true ∧ K stK ∧ Same stK st' := fun st e hs hst hv => by
      obtain ⟨es, st', stK, h1, h2, h3, h4⟩ := vopsD_chain r _ _ _ (hs.app o.dst e) hv
      exact ⟨e :: es, st', stK, ⟨hst, h1⟩, by simpa using h2, h3, h4⟩
    simp only [vopsD] at h
    split at h
    · rename_i hg
      obtain ⟨hd, e, hr, hv⟩ := stepE_run h
      exact hk st e hs ⟨hd, by rw [hg]; exact hr.same hs⟩ hv
    · rename_i j hg
      unfold gdK at h
      split at h
      case h_2 => exact hk st skE hs ⟨h.2.1, by rw [hg]; exact .inr ⟨(gdU_local fun t _ => hs.1 t).trans h.1, rfl⟩⟩ h.2.2
      rename_i b hb
      have hset := hs.set hb
      have hb2 := (gdV_same hs j).trans hb
      cases b with
      | true =>
        obtain ⟨hd, e, hr, hv⟩ := stepE_run (h.1 rfl)
        exact hk _ e hset ⟨hd, by rw [hg]; exact .inl ⟨true, hb2, fun _ => hr.same hset, fun hn => by cases hn⟩⟩ hv
      | false =>
        obtain ⟨hd, hv⟩ := h.2 rfl
        exact hk _ skE hset ⟨hd, by rw [hg]; exact .inl (⟨false, hb2, (fun e => by cases e), fun _ => rfl⟩ : ∃ b, gdV ops st2 j = some b ∧ (b = true → RunR P tab et o st2 skE) ∧ (b = !true → skE = skE))⟩ hv
    · rename_i j hg
      unfold gdK at h
      split at h
      case h_2 => exact hk st skE hs ⟨h.2.1, by rw [hg]; exact .inr ⟨(gdU_local fun t _ => hs.1 t).trans h.1, rfl⟩⟩ h.2.2
      rename_i b hb
      have hset := hs.set hb
      have hb2 := (gdV_same hs j).trans hb
      cases b with
      | false =>
        obtain ⟨hd, e, hr, hv⟩ := stepE_run (h.1 rfl)
        exact hk _ e hset ⟨hd, by rw [hg]; exact .inl ⟨false, hb2, fun _ => hr.same hset, fun hn => by cases hn⟩⟩ hv
      | true =>
        obtain ⟨hd, hv⟩ := h.2 rfl
        exact hk _ skE hset ⟨hd, by rw [hg]; exact .inl (⟨true, hb2, (fun e => by cases e), fun _ => rfl⟩ : ∃ b, gdV ops st2 j = some b ∧ (b = false → RunR P tab et o st2 skE) ∧ (b = !false → skE = skE))⟩ hv

theorem chain_spec : ∀ (r : List Oper) (es : List Eff) (st st' : St), Chain P tab et N ops r es st st' → (∀ i o e, r[i]? = some o → es[i]? = some e → StepR P tab et N ops o ((List.range i).foldl (appI r es) st) e) ∧ (List.range r.length).foldl (appI r es) st = st'
  | [], [], st, st', h => ⟨fun i o e ho => by simp at ho, h⟩
  | [], _ :: _, _, _, h => h.elim
  | _ :: _, [], _, _, h => h.elim
  | o :: r, e :: es, st, st', h => by
    obtain ⟨h1, h2⟩ := chain_spec r es _ _ h.2
    have hf : ∀ i, (List.range (i + 1)).foldl (appI (o :: r) (e :: es)) st = (List.range i).foldl (appI r es) (st.app o.dst e) := fun i => by
      rw [List.range_succ_eq_map, List.foldl_cons, List.foldl_map]
      rfl
    refine ⟨fun i o' e' ho he => ?_, by rw [List.length_cons, hf]; exact h2⟩
    cases i with
    | zero =>
      simp only [List.getElem?_cons_zero, Option.some.injEq] at ho he
      subst ho he
      exact h.1
    | succ i => rw [hf]; exact h1 i o' e' (by simpa using ho) (by simpa using he)

theorem awp_region_draw (hm : P.follows .mixedOrders = true) (hT : TabOK P tab) (hq : EqOK P et) {Q : Exit → St → Prop} {id : Nat} {ops : List Oper} (h : vopsD P tab et N ops (Q .normal) ops [] st) : AWp P N (.region id ops.toArray true) Q st := by
  intro Γ hP hN a w hR
  subst hP hN
  obtain ⟨es, st', stK, h1, h2, h3, h4⟩ := vopsD_chain ops [] st st (Same.refl st) h
  obtain ⟨c1, c2⟩ := chain_spec ops es st st' h1
  have hl : es.length = ops.length := chkX_len (by simpa using h2)
  have hno : (List.range ops.length).filter (fun i => (Array.replicate ops.toArray.size false).getD i false) = [] := by
    rw [List.filter_eq_nil_iff]
    intro i hi
    simp [Array.getD_eq_getD_getElem?, Array.getElem?_replicate]
    split <;> simp
  have hst : stOf ops es st (fun i => (Array.replicate ops.toArray.size false).getD i false) = st := by
    unfold stOf
    rw [hno]
    rfl
  have hcnt : (List.range ops.length).countP (fun i => !(Array.replicate ops.toArray.size false).getD i false) ≤ ops.toArray.size := by
    have := List.countP_le_length (p := fun i => !(Array.replicate ops.toArray.size false).getD i false) (l := List.range ops.length)
    rw [List.length_range] at this
    simpa using this
  have hcl : Closed ops (fun i => (Array.replicate ops.toArray.size false).getD i false) := fun i j _ hj => by
    simp [Array.getD_eq_getD_getElem?, Array.getElem?_replicate] at hj
    split at hj <;> simp at hj
  have hR' : R Γ st a w.drew := by
    obtain ⟨U, μ, hRR⟩ := hR
    exact ⟨U, μ, hRR.drew⟩
  refine wp_region_any hm (wpAny_goX hT hq (es := es) (st0 := st) (by simpa using h2) (fun i o e ho he => c1 i o e ho he) (fun a w hR => ⟨stK, h3, ?_⟩) _ _ a _ (by simp) hcl hcnt (by rw [hst]; exact hR'))
  have : preOf ops es st ops.length = st' := c2
  rw [this] at hR
  exact R_congr hR (fun t => (h4.1 t).symm) fun n => (h4.2 n).symm
end
end Go.V

/- V20: how the tables are filled. -/
set_option linter.unusedVariables false
namespace Go.V
theorem Ent.mk' {P : Program} {t : Nat} {ti : TI} (i : (P.info? t).map (fun i => (i.size, i.bytes, i.zero.map fun z => z.cells.toList)) = some (ti.sz, ti.bytes, some ti.zero)) (d : (P.underlying t).map kindOf = some ti.k)
    (zs : (ti.zero.length == ti.sz) = true) (z1 : (ti.zero.all fun v => v.oneCell') = true) (a1 : (ti.k.agg || ti.sz == 1) = true) : Ent P t ti :=
  ⟨i, d, by simpa using zs, by simpa using z1, fun h => by rw [h] at a1; simpa using a1⟩
theorem TabOK.nil {P : Program} : TabOK P [] := fun t ti h => by cases h
theorem TabOK.cons {P : Program} {t : Nat} {ti : TI} {r : Tab} (h : Ent P t ti) (k : TabOK P r) : TabOK P ((t, ti) :: r) := fun u ui hu => by
  rw [lk_cons] at hu
  split at hu
  · rename_i e
    injection hu with hu
    subst e hu
    exact h
  · exact k u ui hu
theorem EqOK.nil {P : Program} : EqOK P ⟨[], []⟩ := ⟨(fun t sk h => by cases h), (fun t mk h => by cases h)⟩
end Go.V

/- V21: what 'simp' may do by itself, and where it must not look. -/
set_option linter.unusedVariables false
namespace Go.V

section
variable (P : Program) (tab : Tab) (et : EqTab) (N : Nat) (ops : List Oper) (K : St → Prop)

def vnext (r : List Oper) (st : St) (dst : Option Nat) (x : Option (Prop × Eff)) : Prop := evK x fun e => vops P tab et N ops K r (st.app dst e)
@[simp] theorem vnext_some (r : List Oper) (st : St) (dst : Option Nat) (p : Prop) (e : Eff) : vnext P tab et N ops K r st dst (some (p, e)) = (p ∧ vops P tab et N ops K r (st.app dst e)) := rfl
@[simp] theorem vnext_none (r : List Oper) (st : St) (dst : Option Nat) : vnext P tab et N ops K r st dst none = False := rfl
def vcall (r : List Oper) (st : St) (dst : Option Nat) (fo : Operand) (xs : List Operand) : Prop := callE P st fo xs fun e => vops P tab et N ops K r (st.app dst e)
def vcallA (r : List Oper) (st : St) (dst : Option Nat) (f : FuncId) (ts : List T) : Prop :=
  (match argTs st.m ts with
    | some (p, ts', ns) => p ∧ ∃ args res, LeTs ts' args ∧ FSpec P f args [] res [] ∧ vops P tab et N ops K r (st.app dst ⟨some res, callUp st.m ns res, ns⟩)
    | none => False) ∨ ∃ ρ ma args res mr ns, CallM P st ts f ρ ma args res mr ns ∧ vops P tab et N ops K r (st.app dst ⟨some (renT ρ res), renM ρ mr ++ iceUp st.m ns, rdM ρ ma mr ns⟩)
def vcallB (r : List Oper) (st : St) (dst : Option Nat) (c : Option (FuncId × List T × List C)) (ts : Option (List T)) : Prop := match c, ts with
  | some (f, us, cs), some ts => vcallA P tab et N ops K r st dst f (allA us ts cs)
  | _, _ => False
@[simp] theorem vcallB_some (r : List Oper) (st : St) (dst : Option Nat) (f : FuncId) (us ts : List T) (cs : List C) : vcallB P tab et N ops K r st dst (some (f, us, cs)) (some ts) = vcallA P tab et N ops K r st dst f (allA us ts cs) := rfl
theorem vcall_eq (r : List Oper) (st : St) (dst : Option Nat) (fo : Operand) (xs : List Operand) : vcall P tab et N ops K r st dst fo xs = vcallB P tab et N ops K r st dst ((opd st fo).bind calleeOf) (opdL st xs) := rfl
def dok (N : Nat) (dst : Option Nat) : Prop := match dst with | some d => d < N | none => True
@[simp] theorem dok_some (N d : Nat) : dok N (some d) = (d < N) := rfl
@[simp] theorem dok_none (N : Nat) : dok N none = True := rfl
def vstep (r : List Oper) (st : St) (dst : Option Nat) (op : Op) : Prop := dok N dst ∧ match op with
  | .call { callee := .value fo, args := args, argTypes := _ } => vcall P tab et N ops K r st dst fo args.toList
  | op => vnext P tab et N ops K r st dst (ev tab et st dst op)
def vskip (r : List Oper) (st : St) (dst : Option Nat) : Prop := dok N dst ∧ vops P tab et N ops K r (st.app dst skE)
def vgd (want : Bool) (r : List Oper) (st : St) (dst : Option Nat) (op : Op) (t : Nat) (u : Bool) (g : Option Bool) : Prop := match want with
  | true => gdK g (u = true ∧ vskip P tab et N ops K r st dst) fun b => (b = true → vstep P tab et N ops K r (st.set t true) dst op) ∧ (b = false → vskip P tab et N ops K r (st.set t false) dst)
  | false => gdK g (u = true ∧ vskip P tab et N ops K r st dst) fun b => (b = false → vstep P tab et N ops K r (st.set t false) dst op) ∧ (b = true → vskip P tab et N ops K r (st.set t true) dst)

@[simp] theorem vops_nil' (st : St) : vops P tab et N ops K [] st = K st := rfl
theorem vstep_eq (o : Oper) (r : List Oper) (st : St) : (stepE P tab et N o st fun e => vops P tab et N ops K r (st.app o.dst e)) = vstep P tab et N ops K r st o.dst o.op := by
  obtain ⟨dst, op, ty, pos, after, g⟩ := o
  cases op <;> rfl
@[simp] theorem vops_none (dst : Option Nat) (op : Op) (ty : TypeId) (pos : String) (after : Array Edge) (r : List Oper) (st : St) :
    vops P tab et N ops K (⟨dst, op, ty, pos, after, none⟩ :: r) st = vstep P tab et N ops K r st dst op := vstep_eq P tab et N ops K ⟨dst, op, ty, pos, after, none⟩ r st
@[simp] theorem vops_some (dst : Option Nat) (op : Op) (ty : TypeId) (pos : String) (after : Array Edge) (j : Nat) (want : Bool) (r : List Oper) (st : St) :
    vops P tab et N ops K (⟨dst, op, ty, pos, after, some (j, want)⟩ :: r) st = vgd P tab et N ops K want r st dst op (gdT ops j) (gdU ops st j) (gdV ops st j) := by
  cases want
  · simp only [vops, vgd]
    rfl
  · simp only [vops, vgd]
    rfl
@[simp high] theorem vgd_tt (r : List Oper) (st : St) (dst : Option Nat) (op : Op) (t : Nat) (u : Bool) : vgd P tab et N ops K true r st dst op t u (some true) = vstep P tab et N ops K r (st.set t true) dst op := by simp [vgd]
@[simp high] theorem vgd_tf (r : List Oper) (st : St) (dst : Option Nat) (op : Op) (t : Nat) (u : Bool) : vgd P tab et N ops K true r st dst op t u (some false) = vskip P tab et N ops K r (st.set t false) dst := by simp [vgd]
@[simp high] theorem vgd_ff (r : List Oper) (st : St) (dst : Option Nat) (op : Op) (t : Nat) (u : Bool) : vgd P tab et N ops K false r st dst op t u (some false) = vstep P tab et N ops K r (st.set t false) dst op := by simp [vgd]
@[simp high] theorem vgd_ft (r : List Oper) (st : St) (dst : Option Nat) (op : Op) (t : Nat) (u : Bool) : vgd P tab et N ops K false r st dst op t u (some true) = vskip P tab et N ops K r (st.set t true) dst := by simp [vgd]
theorem vgd_t (r : List Oper) (st : St) (dst : Option Nat) (op : Op) (t : Nat) (u : Bool) (b : Bool) : vgd P tab et N ops K true r st dst op t u (some b) = ((b = true → vstep P tab et N ops K r (st.set t true) dst op) ∧ (b = false → vskip P tab et N ops K r (st.set t false) dst)) := rfl
theorem vgd_f (r : List Oper) (st : St) (dst : Option Nat) (op : Op) (t : Nat) (u : Bool) (b : Bool) : vgd P tab et N ops K false r st dst op t u (some b) = ((b = false → vstep P tab et N ops K r (st.set t false) dst op) ∧ (b = true → vskip P tab et N ops K r (st.set t true) dst)) := rfl
@[simp] theorem vgd_none (want : Bool) (r : List Oper) (st : St) (dst : Option Nat) (op : Op) (t : Nat) (u : Bool) : vgd P tab et N ops K want r st dst op t u none = (u = true ∧ vskip P tab et N ops K r st dst) := by cases want <;> rfl
@[simp] theorem vstep_move (r : List Oper) (st : St) (dst : Option Nat) (x : Operand) : vstep P tab et N ops K r st dst (.move x) = (dok N dst ∧ vnext P tab et N ops K r st dst (ev tab et st dst (.move x))) := rfl
@[simp] theorem vstep_assign (r : List Oper) (st : St) (dst : Option Nat) (x : Operand) : vstep P tab et N ops K r st dst (.assign x) = (dok N dst ∧ vnext P tab et N ops K r st dst (ev tab et st dst (.assign x))) := rfl
@[simp] theorem vstep_pick (r : List Oper) (st : St) (dst : Option Nat) (c x y : Operand) : vstep P tab et N ops K r st dst (.pick c x y) = (dok N dst ∧ vnext P tab et N ops K r st dst (ev tab et st dst (.pick c x y))) := rfl
@[simp] theorem vstep_alloc (r : List Oper) (st : St) (dst : Option Nat) (t : TypeId) : vstep P tab et N ops K r st dst (.alloc t) = (dok N dst ∧ vnext P tab et N ops K r st dst (ev tab et st dst (.alloc t))) := rfl
@[simp] theorem vstep_box (r : List Oper) (st : St) (dst : Option Nat) (t : TypeId) (x : Operand) : vstep P tab et N ops K r st dst (.box t x) = (dok N dst ∧ vnext P tab et N ops K r st dst (ev tab et st dst (.box t x))) := rfl
@[simp] theorem vstep_build (r : List Oper) (st : St) (dst : Option Nat) (t : TypeId) (ps : Array (Nat × Operand)) : vstep P tab et N ops K r st dst (.build t ps) = (dok N dst ∧ vnext P tab et N ops K r st dst (ev tab et st dst (.build t ps))) := rfl
@[simp] theorem vstep_buildSlice (r : List Oper) (st : St) (dst : Option Nat) (t : TypeId) (l : Nat) (ps : Array (Nat × Operand)) : vstep P tab et N ops K r st dst (.buildSlice t l ps) = (dok N dst ∧ vnext P tab et N ops K r st dst (ev tab et st dst (.buildSlice t l ps))) := rfl
@[simp] theorem vstep_load (r : List Oper) (st : St) (dst : Option Nat) (t : TypeId) (x : Operand) : vstep P tab et N ops K r st dst (.load t x) = (dok N dst ∧ vnext P tab et N ops K r st dst (ev tab et st dst (.load t x))) := rfl
@[simp] theorem vstep_store (r : List Oper) (st : St) (dst : Option Nat) (t : TypeId) (x y : Operand) : vstep P tab et N ops K r st dst (.store t x y) = (dok N dst ∧ vnext P tab et N ops K r st dst (ev tab et st dst (.store t x y))) := rfl
@[simp] theorem vstep_nilCheck (r : List Oper) (st : St) (dst : Option Nat) (x : Operand) : vstep P tab et N ops K r st dst (.nilCheck x) = (dok N dst ∧ vnext P tab et N ops K r st dst (ev tab et st dst (.nilCheck x))) := rfl
@[simp] theorem vstep_binOp (r : List Oper) (st : St) (dst : Option Nat) (op : BinOp) (t : TypeId) (x y : Operand) (u : TypeId) : vstep P tab et N ops K r st dst (.binOp op t x y u) = (dok N dst ∧ vnext P tab et N ops K r st dst (ev tab et st dst (.binOp op t x y u))) := rfl
@[simp] theorem vstep_unOp (r : List Oper) (st : St) (dst : Option Nat) (op : UnOp) (t : TypeId) (x : Operand) : vstep P tab et N ops K r st dst (.unOp op t x) = (dok N dst ∧ vnext P tab et N ops K r st dst (ev tab et st dst (.unOp op t x))) := rfl
@[simp] theorem vstep_convert (r : List Oper) (st : St) (dst : Option Nat) (t u : TypeId) (x : Operand) : vstep P tab et N ops K r st dst (.convert t u x) = (dok N dst ∧ vnext P tab et N ops K r st dst (ev tab et st dst (.convert t u x))) := rfl
@[simp] theorem vstep_makeFunc (r : List Oper) (st : St) (dst : Option Nat) (f : Fn) (xs ys : Array Operand) : vstep P tab et N ops K r st dst (.makeFunc f xs ys) = (dok N dst ∧ vnext P tab et N ops K r st dst (ev tab et st dst (.makeFunc f xs ys))) := rfl
@[simp] theorem vstep_makeSlice (r : List Oper) (st : St) (dst : Option Nat) (t : TypeId) (x y : Operand) : vstep P tab et N ops K r st dst (.makeSlice t x y) = (dok N dst ∧ vnext P tab et N ops K r st dst (ev tab et st dst (.makeSlice t x y))) := rfl
@[simp] theorem vstep_slice (r : List Oper) (st : St) (dst : Option Nat) (t : TypeId) (x : Operand) (l h m : Option Operand) : vstep P tab et N ops K r st dst (.slice t x l h m) = (dok N dst ∧ vnext P tab et N ops K r st dst (ev tab et st dst (.slice t x l h m))) := rfl
@[simp] theorem vstep_fieldAddr (r : List Oper) (st : St) (dst : Option Nat) (t : TypeId) (x : Operand) (i : Nat) : vstep P tab et N ops K r st dst (.fieldAddr t x i) = (dok N dst ∧ vnext P tab et N ops K r st dst (ev tab et st dst (.fieldAddr t x i))) := rfl
@[simp] theorem vstep_field (r : List Oper) (st : St) (dst : Option Nat) (t : TypeId) (x : Operand) (i : Nat) : vstep P tab et N ops K r st dst (.field t x i) = (dok N dst ∧ vnext P tab et N ops K r st dst (ev tab et st dst (.field t x i))) := rfl
@[simp] theorem vstep_indexAddr (r : List Oper) (st : St) (dst : Option Nat) (t : TypeId) (x y : Operand) : vstep P tab et N ops K r st dst (.indexAddr t x y) = (dok N dst ∧ vnext P tab et N ops K r st dst (ev tab et st dst (.indexAddr t x y))) := rfl
@[simp] theorem vstep_index (r : List Oper) (st : St) (dst : Option Nat) (t : TypeId) (x y : Operand) : vstep P tab et N ops K r st dst (.index t x y) = (dok N dst ∧ vnext P tab et N ops K r st dst (ev tab et st dst (.index t x y))) := rfl
@[simp] theorem vstep_extract (r : List Oper) (st : St) (dst : Option Nat) (x : Operand) (i : Nat) : vstep P tab et N ops K r st dst (.extract x i) = (dok N dst ∧ vnext P tab et N ops K r st dst (ev tab et st dst (.extract x i))) := rfl
@[simp] theorem vstep_makeMap (r : List Oper) (st : St) (dst : Option Nat) (t : TypeId) (x : Option Operand) : vstep P tab et N ops K r st dst (.makeMap t x) = (dok N dst ∧ vnext P tab et N ops K r st dst (ev tab et st dst (.makeMap t x))) := rfl
@[simp] theorem vstep_lookup (r : List Oper) (st : St) (dst : Option Nat) (t : TypeId) (x k : Operand) (ok : Bool) : vstep P tab et N ops K r st dst (.lookup t x k ok) = (dok N dst ∧ vnext P tab et N ops K r st dst (ev tab et st dst (.lookup t x k ok))) := rfl
@[simp] theorem vstep_mapUpdate (r : List Oper) (st : St) (dst : Option Nat) (t : TypeId) (x k v : Operand) : vstep P tab et N ops K r st dst (.mapUpdate t x k v) = (dok N dst ∧ vnext P tab et N ops K r st dst (ev tab et st dst (.mapUpdate t x k v))) := rfl
@[simp] theorem vstep_insert (r : List Oper) (st : St) (dst : Option Nat) (t : TypeId) (x k v : Operand) : vstep P tab et N ops K r st dst (.insert t x k v) = (dok N dst ∧ vnext P tab et N ops K r st dst (ev tab et st dst (.insert t x k v))) := rfl
@[simp] theorem vstep_mapEntry (r : List Oper) (st : St) (dst : Option Nat) (t : TypeId) (x k : Operand) : vstep P tab et N ops K r st dst (.mapEntry t x k) = (dok N dst ∧ vnext P tab et N ops K r st dst (ev tab et st dst (.mapEntry t x k))) := rfl
@[simp] theorem vstep_entryStore (r : List Oper) (st : St) (dst : Option Nat) (t : TypeId) (x i v : Operand) : vstep P tab et N ops K r st dst (.entryStore t x i v) = (dok N dst ∧ vnext P tab et N ops K r st dst (ev tab et st dst (.entryStore t x i v))) := rfl
@[simp] theorem vstep_builtin (r : List Oper) (st : St) (dst : Option Nat) (b : Builtin) (xs : Array Operand) (ts : Array TypeId) : vstep P tab et N ops K r st dst (.call { callee := .builtin b, args := xs, argTypes := ts }) = (dok N dst ∧ vnext P tab et N ops K r st dst (ev tab et st dst (.call { callee := .builtin b, args := xs, argTypes := ts }))) := rfl
@[simp] theorem vstep_value (r : List Oper) (st : St) (dst : Option Nat) (f : Operand) (xs : Array Operand) (ts : Array TypeId) : vstep P tab et N ops K r st dst (.call { callee := .value f, args := xs, argTypes := ts }) = (dok N dst ∧ vcallB P tab et N ops K r st dst ((opd st f).bind calleeOf) (opdL st xs.toList)) := rfl
attribute [simp] vskip

end

theorem vcall_fn {P : Program} {tab : Tab} {et : EqTab} {N : Nat} {ops : List Oper} {K : St → Prop} {r : List Oper} {st : St} {dst : Option Nat} {f : FuncId} {ts ts' : List T} {p : Prop} {ns : List Nm} {args : List T} {res : T} (h3 : argTs st.m ts = some (p, ts', ns)) (hp : p)
    (hle : LeTs ts' args) (hs : FSpec P f args [] res []) (hk : vops P tab et N ops K r (st.app dst ⟨some res, callUp st.m ns res, ns⟩)) : vcallA P tab et N ops K r st dst f ts := by
  unfold vcallA
  rw [h3]
  exact .inl ⟨hp, args, res, hle, hs, hk⟩

theorem vcall_obj {P : Program} {tab : Tab} {et : EqTab} {N : Nat} {ops : List Oper} {K : St → Prop} {r : List Oper} {st : St} {dst : Option Nat} {f : FuncId} {ts : List T} (ρ : List (Nm × Nm)) {ns : List Nm} {ma : List (Nm × Obj)} {args : List T} {res : T} {mr : List (Nm × Obj)}
    (hc : CallM P st ts f ρ ma args res mr ns) (hk : vops P tab et N ops K r (st.app dst ⟨some (renT ρ res), renM ρ mr ++ iceUp st.m ns, rdM ρ ma mr ns⟩)) : vcallA P tab et N ops K r st dst f ts :=
  .inr ⟨ρ, ma, args, res, mr, ns, hc, hk⟩

section
variable (P : Program) (tab : Tab) (et : EqTab) (N : Nat) (ops : List Oper) (K : St → Prop)

def wnext (r : List Oper) (fs : List Foot) (st : St) (dst : Option Nat) (x : Option (Prop × Eff)) : Prop := evK x fun e => vopsD P tab et N ops K r (fs ++ [footOf e]) (st.app dst e)
@[simp] theorem wnext_some (r : List Oper) (fs : List Foot) (st : St) (dst : Option Nat) (p : Prop) (e : Eff) : wnext P tab et N ops K r fs st dst (some (p, e)) = (p ∧ vopsD P tab et N ops K r (fs ++ [footOf e]) (st.app dst e)) := rfl
@[simp] theorem wnext_none (r : List Oper) (fs : List Foot) (st : St) (dst : Option Nat) : wnext P tab et N ops K r fs st dst none = False := rfl
def wcall (r : List Oper) (fs : List Foot) (st : St) (dst : Option Nat) (fo : Operand) (xs : List Operand) : Prop := callE P st fo xs fun e => vopsD P tab et N ops K r (fs ++ [footOf e]) (st.app dst e)
def wcallA (r : List Oper) (fs : List Foot) (st : St) (dst : Option Nat) (f : FuncId) (ts : List T) : Prop :=
  (match argTs st.m ts with
    | some (p, ts', ns) => p ∧ ∃ args res, LeTs ts' args ∧ FSpec P f args [] res [] ∧ vopsD P tab et N ops K r (fs ++ [footOf ⟨some res, callUp st.m ns res, ns⟩]) (st.app dst ⟨some res, callUp st.m ns res, ns⟩)
    | none => False) ∨ ∃ ρ ma args res mr ns, CallM P st ts f ρ ma args res mr ns ∧ vopsD P tab et N ops K r (fs ++ [footOf ⟨some (renT ρ res), renM ρ mr ++ iceUp st.m ns, rdM ρ ma mr ns⟩]) (st.app dst ⟨some (renT ρ res), renM ρ mr ++ iceUp st.m ns, rdM ρ ma mr ns⟩)
def wcallB (r : List Oper) (fs : List Foot) (st : St) (dst : Option Nat) (c : Option (FuncId × List T × List C)) (ts : Option (List T)) : Prop := match c, ts with
  | some (f, us, cs), some ts => wcallA P tab et N ops K r fs st dst f (allA us ts cs)
  | _, _ => False
@[simp] theorem wcallB_some (r : List Oper) (fs : List Foot) (st : St) (dst : Option Nat) (f : FuncId) (us ts : List T) (cs : List C) : wcallB P tab et N ops K r fs st dst (some (f, us, cs)) (some ts) = wcallA P tab et N ops K r fs st dst f (allA us ts cs) := rfl
def wstep (r : List Oper) (fs : List Foot) (st : St) (dst : Option Nat) (op : Op) : Prop := dok N dst ∧ match op with
  | .call { callee := .value fo, args := args, argTypes := _ } => wcall P tab et N ops K r fs st dst fo args.toList
  | op => wnext P tab et N ops K r fs st dst (ev tab et st dst op)
def wskip (r : List Oper) (fs : List Foot) (st : St) (dst : Option Nat) : Prop := dok N dst ∧ vopsD P tab et N ops K r (fs ++ [([], [])]) (st.app dst skE)
def wgd (want : Bool) (r : List Oper) (fs : List Foot) (st : St) (dst : Option Nat) (op : Op) (t : Nat) (u : Bool) (g : Option Bool) : Prop := match want with
  | true => gdK g (u = true ∧ wskip P tab et N ops K r fs st dst) fun b => (b = true → wstep P tab et N ops K r fs (st.set t true) dst op) ∧ (b = false → wskip P tab et N ops K r fs (st.set t false) dst)
  | false => gdK g (u = true ∧ wskip P tab et N ops K r fs st dst) fun b => (b = false → wstep P tab et N ops K r fs (st.set t false) dst op) ∧ (b = true → wskip P tab et N ops K r fs (st.set t true) dst)

@[simp] theorem vopsD_nil' (fs : List Foot) (st : St) : vopsD P tab et N ops K [] fs st = (chkX ops fs = true ∧ K st) := rfl
theorem wstep_eq (o : Oper) (r : List Oper) (fs : List Foot) (st : St) : (stepE P tab et N o st fun e => vopsD P tab et N ops K r (fs ++ [footOf e]) (st.app o.dst e)) = wstep P tab et N ops K r fs st o.dst o.op := by
  obtain ⟨dst, op, ty, pos, after, g⟩ := o
  cases op <;> rfl
@[simp] theorem vopsD_none (dst : Option Nat) (op : Op) (ty : TypeId) (pos : String) (after : Array Edge) (r : List Oper) (fs : List Foot) (st : St) :
    vopsD P tab et N ops K (⟨dst, op, ty, pos, after, none⟩ :: r) fs st = wstep P tab et N ops K r fs st dst op := wstep_eq P tab et N ops K ⟨dst, op, ty, pos, after, none⟩ r fs st
@[simp] theorem vopsD_some (dst : Option Nat) (op : Op) (ty : TypeId) (pos : String) (after : Array Edge) (j : Nat) (want : Bool) (r : List Oper) (fs : List Foot) (st : St) :
    vopsD P tab et N ops K (⟨dst, op, ty, pos, after, some (j, want)⟩ :: r) fs st = wgd P tab et N ops K want r fs st dst op (gdT ops j) (gdU ops st j) (gdV ops st j) := by
  cases want
  · simp only [vopsD, wgd]
    rfl
  · simp only [vopsD, wgd]
    rfl
@[simp high] theorem wgd_tt (r : List Oper) (fs : List Foot) (st : St) (dst : Option Nat) (op : Op) (t : Nat) (u : Bool) : wgd P tab et N ops K true r fs st dst op t u (some true) = wstep P tab et N ops K r fs (st.set t true) dst op := by simp [wgd]
@[simp high] theorem wgd_tf (r : List Oper) (fs : List Foot) (st : St) (dst : Option Nat) (op : Op) (t : Nat) (u : Bool) : wgd P tab et N ops K true r fs st dst op t u (some false) = wskip P tab et N ops K r fs (st.set t false) dst := by simp [wgd]
@[simp high] theorem wgd_ff (r : List Oper) (fs : List Foot) (st : St) (dst : Option Nat) (op : Op) (t : Nat) (u : Bool) : wgd P tab et N ops K false r fs st dst op t u (some false) = wstep P tab et N ops K r fs (st.set t false) dst op := by simp [wgd]
@[simp high] theorem wgd_ft (r : List Oper) (fs : List Foot) (st : St) (dst : Option Nat) (op : Op) (t : Nat) (u : Bool) : wgd P tab et N ops K false r fs st dst op t u (some true) = wskip P tab et N ops K r fs (st.set t true) dst := by simp [wgd]
theorem wgd_t (r : List Oper) (fs : List Foot) (st : St) (dst : Option Nat) (op : Op) (t : Nat) (u : Bool) (b : Bool) : wgd P tab et N ops K true r fs st dst op t u (some b) = ((b = true → wstep P tab et N ops K r fs (st.set t true) dst op) ∧ (b = false → wskip P tab et N ops K r fs (st.set t false) dst)) := rfl
theorem wgd_f (r : List Oper) (fs : List Foot) (st : St) (dst : Option Nat) (op : Op) (t : Nat) (u : Bool) (b : Bool) : wgd P tab et N ops K false r fs st dst op t u (some b) = ((b = false → wstep P tab et N ops K r fs (st.set t false) dst op) ∧ (b = true → wskip P tab et N ops K r fs (st.set t true) dst)) := rfl
@[simp] theorem wgd_none (want : Bool) (r : List Oper) (fs : List Foot) (st : St) (dst : Option Nat) (op : Op) (t : Nat) (u : Bool) : wgd P tab et N ops K want r fs st dst op t u none = (u = true ∧ wskip P tab et N ops K r fs st dst) := by cases want <;> rfl
@[simp] theorem wstep_move (r : List Oper) (fs : List Foot) (st : St) (dst : Option Nat) (x : Operand) : wstep P tab et N ops K r fs st dst (.move x) = (dok N dst ∧ wnext P tab et N ops K r fs st dst (ev tab et st dst (.move x))) := rfl
@[simp] theorem wstep_assign (r : List Oper) (fs : List Foot) (st : St) (dst : Option Nat) (x : Operand) : wstep P tab et N ops K r fs st dst (.assign x) = (dok N dst ∧ wnext P tab et N ops K r fs st dst (ev tab et st dst (.assign x))) := rfl
@[simp] theorem wstep_pick (r : List Oper) (fs : List Foot) (st : St) (dst : Option Nat) (c x y : Operand) : wstep P tab et N ops K r fs st dst (.pick c x y) = (dok N dst ∧ wnext P tab et N ops K r fs st dst (ev tab et st dst (.pick c x y))) := rfl
@[simp] theorem wstep_alloc (r : List Oper) (fs : List Foot) (st : St) (dst : Option Nat) (t : TypeId) : wstep P tab et N ops K r fs st dst (.alloc t) = (dok N dst ∧ wnext P tab et N ops K r fs st dst (ev tab et st dst (.alloc t))) := rfl
@[simp] theorem wstep_box (r : List Oper) (fs : List Foot) (st : St) (dst : Option Nat) (t : TypeId) (x : Operand) : wstep P tab et N ops K r fs st dst (.box t x) = (dok N dst ∧ wnext P tab et N ops K r fs st dst (ev tab et st dst (.box t x))) := rfl
@[simp] theorem wstep_build (r : List Oper) (fs : List Foot) (st : St) (dst : Option Nat) (t : TypeId) (ps : Array (Nat × Operand)) : wstep P tab et N ops K r fs st dst (.build t ps) = (dok N dst ∧ wnext P tab et N ops K r fs st dst (ev tab et st dst (.build t ps))) := rfl
@[simp] theorem wstep_buildSlice (r : List Oper) (fs : List Foot) (st : St) (dst : Option Nat) (t : TypeId) (l : Nat) (ps : Array (Nat × Operand)) : wstep P tab et N ops K r fs st dst (.buildSlice t l ps) = (dok N dst ∧ wnext P tab et N ops K r fs st dst (ev tab et st dst (.buildSlice t l ps))) := rfl
@[simp] theorem wstep_load (r : List Oper) (fs : List Foot) (st : St) (dst : Option Nat) (t : TypeId) (x : Operand) : wstep P tab et N ops K r fs st dst (.load t x) = (dok N dst ∧ wnext P tab et N ops K r fs st dst (ev tab et st dst (.load t x))) := rfl
@[simp] theorem wstep_store (r : List Oper) (fs : List Foot) (st : St) (dst : Option Nat) (t : TypeId) (x y : Operand) : wstep P tab et N ops K r fs st dst (.store t x y) = (dok N dst ∧ wnext P tab et N ops K r fs st dst (ev tab et st dst (.store t x y))) := rfl
@[simp] theorem wstep_nilCheck (r : List Oper) (fs : List Foot) (st : St) (dst : Option Nat) (x : Operand) : wstep P tab et N ops K r fs st dst (.nilCheck x) = (dok N dst ∧ wnext P tab et N ops K r fs st dst (ev tab et st dst (.nilCheck x))) := rfl
@[simp] theorem wstep_binOp (r : List Oper) (fs : List Foot) (st : St) (dst : Option Nat) (op : BinOp) (t : TypeId) (x y : Operand) (u : TypeId) : wstep P tab et N ops K r fs st dst (.binOp op t x y u) = (dok N dst ∧ wnext P tab et N ops K r fs st dst (ev tab et st dst (.binOp op t x y u))) := rfl
@[simp] theorem wstep_unOp (r : List Oper) (fs : List Foot) (st : St) (dst : Option Nat) (op : UnOp) (t : TypeId) (x : Operand) : wstep P tab et N ops K r fs st dst (.unOp op t x) = (dok N dst ∧ wnext P tab et N ops K r fs st dst (ev tab et st dst (.unOp op t x))) := rfl
@[simp] theorem wstep_convert (r : List Oper) (fs : List Foot) (st : St) (dst : Option Nat) (t u : TypeId) (x : Operand) : wstep P tab et N ops K r fs st dst (.convert t u x) = (dok N dst ∧ wnext P tab et N ops K r fs st dst (ev tab et st dst (.convert t u x))) := rfl
@[simp] theorem wstep_makeFunc (r : List Oper) (fs : List Foot) (st : St) (dst : Option Nat) (f : Fn) (xs ys : Array Operand) : wstep P tab et N ops K r fs st dst (.makeFunc f xs ys) = (dok N dst ∧ wnext P tab et N ops K r fs st dst (ev tab et st dst (.makeFunc f xs ys))) := rfl
@[simp] theorem wstep_makeSlice (r : List Oper) (fs : List Foot) (st : St) (dst : Option Nat) (t : TypeId) (x y : Operand) : wstep P tab et N ops K r fs st dst (.makeSlice t x y) = (dok N dst ∧ wnext P tab et N ops K r fs st dst (ev tab et st dst (.makeSlice t x y))) := rfl
@[simp] theorem wstep_slice (r : List Oper) (fs : List Foot) (st : St) (dst : Option Nat) (t : TypeId) (x : Operand) (l h m : Option Operand) : wstep P tab et N ops K r fs st dst (.slice t x l h m) = (dok N dst ∧ wnext P tab et N ops K r fs st dst (ev tab et st dst (.slice t x l h m))) := rfl
@[simp] theorem wstep_fieldAddr (r : List Oper) (fs : List Foot) (st : St) (dst : Option Nat) (t : TypeId) (x : Operand) (i : Nat) : wstep P tab et N ops K r fs st dst (.fieldAddr t x i) = (dok N dst ∧ wnext P tab et N ops K r fs st dst (ev tab et st dst (.fieldAddr t x i))) := rfl
@[simp] theorem wstep_field (r : List Oper) (fs : List Foot) (st : St) (dst : Option Nat) (t : TypeId) (x : Operand) (i : Nat) : wstep P tab et N ops K r fs st dst (.field t x i) = (dok N dst ∧ wnext P tab et N ops K r fs st dst (ev tab et st dst (.field t x i))) := rfl
@[simp] theorem wstep_indexAddr (r : List Oper) (fs : List Foot) (st : St) (dst : Option Nat) (t : TypeId) (x y : Operand) : wstep P tab et N ops K r fs st dst (.indexAddr t x y) = (dok N dst ∧ wnext P tab et N ops K r fs st dst (ev tab et st dst (.indexAddr t x y))) := rfl
@[simp] theorem wstep_index (r : List Oper) (fs : List Foot) (st : St) (dst : Option Nat) (t : TypeId) (x y : Operand) : wstep P tab et N ops K r fs st dst (.index t x y) = (dok N dst ∧ wnext P tab et N ops K r fs st dst (ev tab et st dst (.index t x y))) := rfl
@[simp] theorem wstep_extract (r : List Oper) (fs : List Foot) (st : St) (dst : Option Nat) (x : Operand) (i : Nat) : wstep P tab et N ops K r fs st dst (.extract x i) = (dok N dst ∧ wnext P tab et N ops K r fs st dst (ev tab et st dst (.extract x i))) := rfl
@[simp] theorem wstep_makeMap (r : List Oper) (fs : List Foot) (st : St) (dst : Option Nat) (t : TypeId) (x : Option Operand) : wstep P tab et N ops K r fs st dst (.makeMap t x) = (dok N dst ∧ wnext P tab et N ops K r fs st dst (ev tab et st dst (.makeMap t x))) := rfl
@[simp] theorem wstep_lookup (r : List Oper) (fs : List Foot) (st : St) (dst : Option Nat) (t : TypeId) (x k : Operand) (ok : Bool) : wstep P tab et N ops K r fs st dst (.lookup t x k ok) = (dok N dst ∧ wnext P tab et N ops K r fs st dst (ev tab et st dst (.lookup t x k ok))) := rfl
@[simp] theorem wstep_mapUpdate (r : List Oper) (fs : List Foot) (st : St) (dst : Option Nat) (t : TypeId) (x k v : Operand) : wstep P tab et N ops K r fs st dst (.mapUpdate t x k v) = (dok N dst ∧ wnext P tab et N ops K r fs st dst (ev tab et st dst (.mapUpdate t x k v))) := rfl
@[simp] theorem wstep_insert (r : List Oper) (fs : List Foot) (st : St) (dst : Option Nat) (t : TypeId) (x k v : Operand) : wstep P tab et N ops K r fs st dst (.insert t x k v) = (dok N dst ∧ wnext P tab et N ops K r fs st dst (ev tab et st dst (.insert t x k v))) := rfl
@[simp] theorem wstep_mapEntry (r : List Oper) (fs : List Foot) (st : St) (dst : Option Nat) (t : TypeId) (x k : Operand) : wstep P tab et N ops K r fs st dst (.mapEntry t x k) = (dok N dst ∧ wnext P tab et N ops K r fs st dst (ev tab et st dst (.mapEntry t x k))) := rfl
@[simp] theorem wstep_entryStore (r : List Oper) (fs : List Foot) (st : St) (dst : Option Nat) (t : TypeId) (x i v : Operand) : wstep P tab et N ops K r fs st dst (.entryStore t x i v) = (dok N dst ∧ wnext P tab et N ops K r fs st dst (ev tab et st dst (.entryStore t x i v))) := rfl
@[simp] theorem wstep_builtin (r : List Oper) (fs : List Foot) (st : St) (dst : Option Nat) (b : Builtin) (xs : Array Operand) (ts : Array TypeId) : wstep P tab et N ops K r fs st dst (.call { callee := .builtin b, args := xs, argTypes := ts }) = (dok N dst ∧ wnext P tab et N ops K r fs st dst (ev tab et st dst (.call { callee := .builtin b, args := xs, argTypes := ts }))) := rfl
@[simp] theorem wstep_value (r : List Oper) (fs : List Foot) (st : St) (dst : Option Nat) (f : Operand) (xs : Array Operand) (ts : Array TypeId) : wstep P tab et N ops K r fs st dst (.call { callee := .value f, args := xs, argTypes := ts }) = (dok N dst ∧ wcallB P tab et N ops K r fs st dst ((opd st f).bind calleeOf) (opdL st xs.toList)) := rfl
attribute [simp] wskip

end

theorem wcall_fn {P : Program} {tab : Tab} {et : EqTab} {N : Nat} {ops : List Oper} {K : St → Prop} {r : List Oper} {fs : List Foot} {st : St} {dst : Option Nat} {f : FuncId} {ts ts' : List T} {p : Prop} {ns : List Nm} {args : List T} {res : T} (h3 : argTs st.m ts = some (p, ts', ns)) (hp : p)
    (hle : LeTs ts' args) (hs : FSpec P f args [] res []) (hk : vopsD P tab et N ops K r (fs ++ [footOf ⟨some res, callUp st.m ns res, ns⟩]) (st.app dst ⟨some res, callUp st.m ns res, ns⟩)) : wcallA P tab et N ops K r fs st dst f ts := by
  unfold wcallA
  rw [h3]
  exact .inl ⟨hp, args, res, hle, hs, hk⟩

theorem wcall_obj {P : Program} {tab : Tab} {et : EqTab} {N : Nat} {ops : List Oper} {K : St → Prop} {r : List Oper} {fs : List Foot} {st : St} {dst : Option Nat} {f : FuncId} {ts : List T} (ρ : List (Nm × Nm)) {ns : List Nm} {ma : List (Nm × Obj)} {args : List T} {res : T} {mr : List (Nm × Obj)}
    (hc : CallM P st ts f ρ ma args res mr ns) (hk : vopsD P tab et N ops K r (fs ++ [footOf ⟨some (renT ρ res), renM ρ mr ++ iceUp st.m ns, rdM ρ ma mr ns⟩]) (st.app dst ⟨some (renT ρ res), renM ρ mr ++ iceUp st.m ns, rdM ρ ma mr ns⟩)) : wcallA P tab et N ops K r fs st dst f ts :=
  .inr ⟨ρ, ma, args, res, mr, ns, hc, hk⟩

/-- The rest of the code stays out of sight. -/
theorem awp_seq' {P : Program} {N : Nat} {Q : Exit → St → Prop} {st : St} {x y : Code} (h : ∀ k : St → Prop, (∀ s, AWp P N y Q s → k s) → AWp P N x (thenQ Q k) st) : AWp P N (.seq x y) Q st := awp_seq (h (AWp P N y Q) fun _ h => h)

def nthDst : List Oper → Nat → Option Nat
  | [], _ => none
  | o :: _, 0 => o.dst
  | _ :: r, j + 1 => nthDst r j
theorem nthDst_eq : ∀ (ops : List Oper) (j : Nat), (ops[j]?).bind (·.dst) = nthDst ops j
  | [], j => by simp [nthDst]
  | o :: r, 0 => by simp [nthDst]
  | o :: r, j + 1 => by simpa [nthDst] using nthDst_eq r j
def gdV' (st : St) (t : Option Nat) : Option Bool := match t with
  | some t => (lk st.t t).bind asB
  | none => none
@[simp] theorem gdV_eq (ops : List Oper) (st : St) (j : Nat) : gdV ops st j = gdV' st (nthDst ops j) := by unfold gdV gdV'; rw [nthDst_eq]; cases nthDst ops j <;> rfl
@[simp] theorem gdT_eq (ops : List Oper) (j : Nat) : gdT ops j = (nthDst ops j).getD 0 := by unfold gdT; rw [nthDst_eq]
def gdU' (st : St) (t : Option Nat) : Bool := match t with
  | some t => isU (lk st.t t)
  | none => false
@[simp] theorem gdU_eq (ops : List Oper) (st : St) (j : Nat) : gdU ops st j = gdU' st (nthDst ops j) := by unfold gdU gdU'; rw [nthDst_eq]; cases nthDst ops j <;> rfl
@[simp] theorem gdU'_some (st : St) (t : Nat) : gdU' st (some t) = isU (lk st.t t) := rfl
@[simp] theorem isU_tup : isU (some (.tup [])) = true := rfl
attribute [simp] skE unT
@[simp] theorem gdV'_some (st : St) (t : Nat) : gdV' st (some t) = (lk st.t t).bind asB := rfl
attribute [simp] nthDst St.set thenQ blockQ
attribute [simp] ofConst opd St.app Obj.ice iceUp toD toDs cellsOf ofCells evLoad nz evFieldAddr asI asB evStore fillC nm evBox evAlloc evField evIndex evExtract placesOf partsC evBuild fillD evBuildSlice evAppend evMake bnd
attribute [simp] binI skEq evBin evUn evConv allI evMax evMin plainV oneC evFunc opdL opdP opdO evPick evNil evB argT argTs calleeOf allA initT resV retT LeR footOf lk_cons setFrom
attribute [simp] List.getElem?_cons_zero List.getElem?_nil
theorem getD_cons_zero' {α : Type} (a d : α) (l : List α) : (a :: l).getD 0 d = a := rfl
theorem getD_cons_succ' {α : Type} (a d : α) (l : List α) (i : Nat) : (a :: l).getD (i + 1) d = l.getD i d := by simp
attribute [simp] getD_cons_zero' getD_cons_succ'

def ev1 (f : T → Option (Prop × Eff)) (x : Option T) : Option (Prop × Eff) := x.bind f
@[simp] theorem ev1_some (f : T → Option (Prop × Eff)) (u : T) : ev1 f (some u) = f u := rfl
@[simp] theorem ev1_none (f : T → Option (Prop × Eff)) : ev1 f none = none := rfl
def evV (v : T) : Option (Prop × Eff) := some (True, ⟨some v, [], []⟩)
@[simp] theorem evV_eq (v : T) : evV v = some (True, ⟨some v, [], []⟩) := rfl
def evFA (tab : Tab) (s i : Nat) (u : T) := evFieldAddr tab s u i
@[simp] theorem evFA_eq (tab : Tab) (s i : Nat) (u : T) : evFA tab s i u = evFieldAddr tab s u i := rfl
def evFd (tab : Tab) (t i : Nat) (u : T) := evField tab t u i
@[simp] theorem evFd_eq (tab : Tab) (t i : Nat) (u : T) : evFd tab t i u = evField tab t u i := rfl
def evEx (i : Nat) (u : T) := evExtract u i
@[simp] theorem evEx_eq (i : Nat) (u : T) : evEx i u = evExtract u i := rfl
def evPk (c x y : Option T) : Option (Prop × Eff) := match c with
  | some u => evPick u x y
  | none => none
@[simp] theorem evPk_some (u : T) (x y : Option T) : evPk (some u) x y = evPick u x y := rfl
section
variable (tab : Tab) (et : EqTab) (st : St) (dst : Option Nat)
@[simp] theorem ev_move (x : Operand) : ev tab et st dst (.move x) = ev1 evV (opd st x) := by simp only [ev, ev1]; cases opd st x <;> rfl
@[simp] theorem ev_assign (x : Operand) : ev tab et st dst (.assign x) = ev1 evV (opd st x) := by simp only [ev, ev1]; cases opd st x <;> rfl
@[simp] theorem ev_pick (c x y : Operand) : ev tab et st dst (.pick c x y) = evPk (opd st c) (opd st x) (opd st y) := by simp only [ev]; cases opd st c <;> rfl
@[simp] theorem ev_alloc (t : TypeId) : ev tab et st dst (.alloc t) = evAlloc tab st dst t := rfl
@[simp] theorem ev_box (t : TypeId) (x : Operand) : ev tab et st dst (.box t x) = ev1 (evBox st dst) (opd st x) := rfl
@[simp] theorem ev_load (t : TypeId) (x : Operand) : ev tab et st dst (.load t x) = ev1 (evLoad tab st t) (opd st x) := rfl
@[simp] theorem ev_store (t : TypeId) (x y : Operand) : ev tab et st dst (.store t x y) = ev2 (evStore tab st t) (opd st x) (opd st y) := rfl
@[simp] theorem ev_nilCheck (x : Operand) : ev tab et st dst (.nilCheck x) = ev1 evNil (opd st x) := rfl
@[simp] theorem ev_binOp (op : BinOp) (t : TypeId) (x y : Operand) (u : TypeId) : ev tab et st dst (.binOp op t x y u) = ev2 (evBin tab et op t) (opd st x) (opd st y) := rfl
@[simp] theorem ev_unOp (op : UnOp) (t : TypeId) (x : Operand) : ev tab et st dst (.unOp op t x) = ev1 (evUn op) (opd st x) := rfl
@[simp] theorem ev_convert (s t : TypeId) (x : Operand) : ev tab et st dst (.convert s t x) = ev1 (evConv tab s t) (opd st x) := rfl
@[simp] theorem ev_makeSlice (t : TypeId) (x y : Operand) : ev tab et st dst (.makeSlice t x y) = ev2 (evMake tab st dst t) (opd st x) (opd st y) := rfl
@[simp] theorem ev_fieldAddr (s : TypeId) (x : Operand) (i : Nat) : ev tab et st dst (.fieldAddr s x i) = ev1 (evFA tab s i) (opd st x) := rfl
@[simp] theorem ev_field (s : TypeId) (x : Operand) (i : Nat) : ev tab et st dst (.field s x i) = ev1 (evFd tab s i) (opd st x) := rfl
@[simp] theorem ev_indexAddr (s : TypeId) (x y : Operand) : ev tab et st dst (.indexAddr s x y) = ev2 (evIndexAddr tab st s) (opd st x) (opd st y) := rfl
@[simp] theorem ev_index (s : TypeId) (x y : Operand) : ev tab et st dst (.index s x y) = ev2 (evIndex tab s) (opd st x) (opd st y) := rfl
@[simp] theorem ev_extract (x : Operand) (i : Nat) : ev tab et st dst (.extract x i) = ev1 (evEx i) (opd st x) := rfl
theorem ev_build (t : TypeId) (ps : Array (Nat × Operand)) : ev tab et st dst (.build t ps) = (opdP st ps.toList).bind (evBuild tab t) := rfl
theorem ev_buildSlice (t : TypeId) (l : Nat) (ps : Array (Nat × Operand)) : ev tab et st dst (.buildSlice t l ps) = (opdP st ps.toList).bind (evBuildSlice tab st dst t l) := rfl
theorem ev_builtin (b : Builtin) (xs : Array Operand) (ts : Array TypeId) : ev tab et st dst (.call { callee := .builtin b, args := xs, argTypes := ts }) = (opdL st xs.toList).bind (evB tab st dst b ts.toList) := rfl
theorem ev_makeFunc (f : Fn) (xs ys : Array Operand) : ev tab et st dst (.makeFunc f xs ys) = match opdL st xs.toList, opdL st ys.toList with
    | some us, some vs => evFunc f us vs
    | _, _ => none := rfl
theorem ev_slice (t : TypeId) (x : Operand) (lo hi mx : Option Operand) : ev tab et st dst (.slice t x lo hi mx) = match opd st x, opdO st lo, opdO st hi, opdO st mx with
    | some u, some l, some h, some m => evSl tab st t u l h m
    | _, _, _, _ => none := rfl
def evMM (et : EqTab) (st : St) (dst : Option Nat) (t : Nat) (x : Option (Option T)) : Option (Prop × Eff) := match x with
  | some r => evMakeMap et st dst t r
  | none => none
@[simp] theorem evMM_some (et : EqTab) (st : St) (dst : Option Nat) (t : Nat) (r : Option T) : evMM et st dst t (some r) = evMakeMap et st dst t r := rfl
@[simp] theorem ev_makeMap (t : TypeId) (x : Option Operand) : ev tab et st dst (.makeMap t x) = evMM et st dst t (opdO st x) := by simp only [ev]; cases opdO st x <;> rfl
@[simp] theorem ev_lookup (t : TypeId) (x k : Operand) (ok : Bool) : ev tab et st dst (.lookup t x k ok) = ev2 (evLookup et st t ok) (opd st x) (opd st k) := rfl
@[simp] theorem ev_mapUpdate (t : TypeId) (x k v : Operand) : ev tab et st dst (.mapUpdate t x k v) = ev3 (evMapPut et st t) (opd st x) (opd st k) (opd st v) := rfl
@[simp] theorem ev_insert (t : TypeId) (x k v : Operand) : ev tab et st dst (.insert t x k v) = ev3 (evMapPut et st t) (opd st x) (opd st k) (opd st v) := rfl
@[simp] theorem ev_mapEntry (t : TypeId) (x k : Operand) : ev tab et st dst (.mapEntry t x k) = ev2 (evMapEntry et st t) (opd st x) (opd st k) := rfl
@[simp] theorem ev_entryStore (t : TypeId) (x i v : Operand) : ev tab et st dst (.entryStore t x i v) = ev3 (evEntryStore st) (opd st x) (opd st i) (opd st v) := rfl
attribute [simp] ev_build ev_buildSlice ev_builtin ev_makeFunc ev_slice
end
@[simp] theorem agg_int (k : IntKind) : (TK.int k).agg = false := rfl
@[simp] theorem agg_bool : TK.bool.agg = false := rfl
@[simp] theorem agg_str : TK.str.agg = false := rfl
@[simp] theorem agg_slice (e : Nat) : (TK.slice e).agg = false := rfl
@[simp] theorem agg_struct (f : List (Nat × Nat)) : (TK.struct f).agg = true := rfl
@[simp] theorem agg_array (n e : Nat) : (TK.array n e).agg = true := rfl
@[simp] theorem agg_map (n e : Nat) : (TK.map n e).agg = false := rfl
@[simp] theorem agg_pointer (e : Nat) : (TK.pointer e).agg = false := rfl
@[simp] theorem agg_func : TK.func.agg = false := rfl
@[simp] theorem one_int (k : IntKind) (n : Int) : (Value.int k n).oneCell' = true := rfl
@[simp] theorem one_bool (b : Bool) : (Value.bool b).oneCell' = true := rfl
@[simp] theorem one_string (b : ByteArray) : (Value.string b).oneCell' = true := rfl
@[simp] theorem one_func (f : Fn) (a b : Array Value) : (Value.func f a b).oneCell' = true := rfl
@[simp] theorem one_slice (a : Option Addr) (n c : Nat) : (Value.slice a n c).oneCell' = true := rfl
@[simp] theorem srcOf_row (m : List (Nm × Obj)) (SZ : Nat) (n : Nm) (len : Nat) : srcOf m SZ (.c (.row n len)) = (match lk m n with
    | some (.row _ _ sz k f) => if sz = SZ then some (len = k, k, f, [n]) else none
    | _ => none) := rfl
@[simp] theorem srcOf_l (m : List (Nm × Obj)) (SZ n : Nat) (f : Nat → List D) : srcOf m SZ (.c (.d (.l n f))) = some (∀ j, j < n → (f j).length = SZ, n, f, []) := rfl
@[simp] theorem srcOf_nil (m : List (Nm × Obj)) (SZ : Nat) (a : Option Addr) (cap : Nat) : srcOf m SZ (.c (.d (.s (.slice a 0 cap)))) = some (True, 0, fun _ => [], []) := rfl
@[simp] theorem srcOf_z (m : List (Nm × Obj)) (SZ : Nat) : srcOf m SZ (.c .z) = some (True, 0, fun _ => [], []) := rfl
@[simp low] theorem evLen_def (tab : Tab) (st : St) (t : Nat) (x : T) : evLen tab st t x =
  (match lk tab t with
  | some ti => match ti.k with
    | .slice _ => match x with
      | .c (.row n len) => match lk st.m n with
        | some (.row _ _ _ k _) => some (len = k, ⟨some (tI .i64 k), [], [n]⟩)
        | _ => none
      | .c (.d (.l n _)) => some (True, ⟨some (tI .i64 n), [], []⟩)
      | .c (.d (.s (.slice _ n _))) => some (True, ⟨some (tI .i64 n), [], []⟩)
      | .c .z => some (True, ⟨some (tI .i64 0), [], []⟩)
      | _ => none
    | .array n _ => some (True, ⟨some (tI .i64 n), [], []⟩)
    | .str => match x with
      | .c (.d (.s (.string b))) => some (True, ⟨some (tI .i64 b.size), [], []⟩)
      | _ => none
    | _ => none
  | none => none) := rfl
@[simp low] theorem evIndexAddr_def (tab : Tab) (st : St) (t : Nat) (x y : T) : evIndexAddr tab st t x y =
  (match lk tab t, asI y with
  | some ti, some (_, i) => match ti.k with
    | .array n e => match lk tab e with
      | some te => match x with
        | .c (.ptr nm o) => some (0 ≤ i ∧ i < n, ⟨some (.c (.ptr nm (o + i.toNat * te.sz))), [], []⟩)
        | .el nm len j q => some (0 ≤ i ∧ i < n, ⟨some (.el nm len j (q + i.toNat * te.sz)), [], []⟩)
        | .rp cs => some (0 ≤ i ∧ i < n, ⟨some (.rp (cs.drop (i.toNat * te.sz))), [], []⟩)
        | _ => none
      | none => none
    | .slice e => match lk tab e with
      | some te => match x with
        | .c (.row nm len) => match lk st.m nm with
          | some (.row _ _ sz k _) => if sz = te.sz then some ((0 ≤ i ∧ i < len) ∧ len = k, ⟨some (.el nm len i.toNat 0), [], [nm]⟩) else none
          | _ => none
        | .c (.d (.l n f)) => some ((0 ≤ i ∧ i < n) ∧ (f i.toNat).length = te.sz, ⟨some (.rp (f i.toNat)), [], []⟩)
        | _ => none
      | none => none
    | _ => none
  | _, _ => none) := rfl
@[simp low] theorem evSlice_def (tab : Tab) (st : St) (t : Nat) (x : T) (lo hi mx : Option T) : evSlice tab st t x lo hi mx =
  (match lk tab t with
  | some ti => match ti.k, mx with
    | .str, none => match x with
      | .c (.d (.s (.string b))) => match bnd lo 0, bnd hi b.size with
        | some l, some h => some (0 ≤ l ∧ l ≤ h ∧ h ≤ b.size, ⟨some (.c (.d (.s (.string (b.extract l.toNat h.toNat))))), [], []⟩)
        | _, _ => none
      | _ => none
    | .slice e, none => match lk tab e with
      | some te => match x with
        | .c (.row n len) => match lk st.m n with
          | some (.row _ _ sz k f) => if sz = te.sz then match bnd lo 0, bnd hi k with
            | some l, some h => some ((0 ≤ l ∧ l ≤ h ∧ h ≤ k) ∧ len = k, ⟨some (.c (.d (.l (h.toNat - l.toNat) fun j => f (l.toNat + j)))), iceUp st.m [n], [n]⟩)
            | _, _ => none
            else none
          | _ => none
        | .c (.d (.l n f)) => match bnd lo 0, bnd hi n with
          | some l, some h => some ((0 ≤ l ∧ l ≤ h ∧ h ≤ n) ∧ ∀ j, j < n → (f j).length = te.sz, ⟨some (.c (.d (.l (h.toNat - l.toNat) fun j => f (l.toNat + j)))), [], []⟩)
          | _, _ => none
        | .c (.d (.s (.slice none 0 0))) => match bnd lo 0, bnd hi 0 with
          | some l, some h => some (l = 0 ∧ h = 0, ⟨some x, [], []⟩)
          | _, _ => none
        | _ => none
      | none => none
    | .slice e, some m => match asI m, lo, hi with
      | some (_, 0), none, some h => match asI h, lk tab e with
        | some (_, 0), some _ => match x with
          | .c (.row n len) => match lk st.m n with
            | some (.row _ _ _ k _) => some (len = k, ⟨some (.c .z), [], [n]⟩)
            | _ => none
          | .c (.d (.l _ _)) => some (True, ⟨some (.c .z), [], []⟩)
          | .c (.d (.s (.slice none 0 0))) => some (True, ⟨some (.c .z), [], []⟩)
          | .c .z => some (True, ⟨some (.c .z), [], []⟩)
          | _ => none
        | _, _ => none
      | _, _, _ => none
    | _, _ => none
  | none => none) := rfl
@[simp] theorem evSl_ptr (tab : Tab) (st : St) (t : Nat) (n off : Nat) (lo hi mx : Option T) : evSl tab st t (.c (.ptr n off)) lo hi mx = evSliceP tab st t n off lo hi mx := rfl
@[simp] theorem evSl_d (tab : Tab) (st : St) (t : Nat) (x : D) (lo hi mx : Option T) : evSl tab st t (.c (.d x)) lo hi mx = evSlice tab st t (.c (.d x)) lo hi mx := rfl
@[simp] theorem evSl_row (tab : Tab) (st : St) (t : Nat) (n k : Nat) (lo hi mx : Option T) : evSl tab st t (.c (.row n k)) lo hi mx = evSlice tab st t (.c (.row n k)) lo hi mx := rfl
@[simp] theorem evSl_z (tab : Tab) (st : St) (t : Nat) (lo hi mx : Option T) : evSl tab st t (.c .z) lo hi mx = evSlice tab st t (.c .z) lo hi mx := rfl
attribute [simp] ev3 evMakeMap evLookup evMapPut evMapEntry evEntryStore mapAt keyOfT keyI valT aset_aent aix_lt_aent Int.toNat_natCast
attribute [simp] ev2 List.zip List.map

attribute [simp] callUp noL noLC

@[simp] theorem del_nil {α : Type} (n : Nat) : del ([] : List (Nat × α)) n = [] := rfl
@[simp] theorem del_cons {α : Type} (k : Nat) (v : α) (r : List (Nat × α)) (n : Nat) : del ((k, v) :: r) n = if k = n then del r n else (k, v) :: del r n := by
  by_cases h : k = n <;> simp [del, h]

@[simp] theorem LeT_refl (x : T) : LeT x x ↔ True := ⟨fun _ => trivial, fun _ => .refl _⟩
@[simp] theorem LeC_refl (x : C) : LeC x x ↔ True := ⟨fun _ => trivial, fun _ => .refl _⟩
@[simp] theorem LeD_refl (x : D) : LeD x x ↔ True := ⟨fun _ => trivial, fun _ => .refl _⟩
@[simp] theorem LeF_refl (k : Nat) (f : Nat → List D) : LeF k f f ↔ True := ⟨fun _ => trivial, fun _ => .refl _⟩
@[simp] theorem LeD_s (v u : Value) : LeD (.s v) (.s u) ↔ v = u := ⟨fun h => by cases h; rfl, fun h => by subst h; exact .refl _⟩
@[simp] theorem LeC_d (x y : D) : LeC (.d x) (.d y) ↔ LeD x y := ⟨fun h => by
  cases h with
  | refl => exact .refl _
  | d h => exact h, .d⟩
@[simp] theorem LeT_c (x y : C) : LeT (.c x) (.c y) ↔ LeC x y := ⟨fun h => by
  cases h with
  | refl => exact .refl _
  | c h => exact h, .c⟩
@[simp] theorem LeT_agg_nil : LeT (.agg []) (.agg []) ↔ True := ⟨fun _ => trivial, fun _ => .refl _⟩
@[simp] theorem LeT_agg_cons (x y : C) (xs ys : List C) : LeT (.agg (x :: xs)) (.agg (y :: ys)) ↔ LeC x y ∧ LeT (.agg xs) (.agg ys) := ⟨fun h => by
  cases h with
  | refl => exact ⟨.refl _, .refl _⟩
  | agg hl h => exact ⟨h 0 x y rfl rfl, .agg (by simpa using hl) fun i u v hu hv => h (i + 1) u v (by simpa using hu) (by simpa using hv)⟩, fun h => .aggCons h.1 h.2⟩
@[simp] theorem LeTs_nil : LeTs [] [] ↔ True := ⟨fun _ => trivial, fun _ => .nil⟩
@[simp] theorem LeTs_cons (x y : T) (xs ys : List T) : LeTs (x :: xs) (y :: ys) ↔ LeT x y ∧ LeTs xs ys := ⟨fun h => ⟨h.2 0 x y rfl rfl, by simpa using h.1, fun i u v hu hv => h.2 (i + 1) u v (by simpa using hu) (by simpa using hv)⟩, fun h => .cons h.1 h.2⟩
@[simp] theorem HI_eq : HI = 1000000 := rfl
attribute [simp] wkT wkM wkHi clT clC LeO

/-- A loop: the state is said anew at its head; what comes next stays out of sight. -/
theorem awp_for {P : Program} {N : Nat} {Q : Exit → St → Prop} {st st0 : St} {c : Code} (I : Nat → St → Prop) (n0 : Nat) (hw : Weak st st0) (h0 : I n0 st0) (round : ∀ n st, I n st → ∀ k : St → Prop, (∀ n' s st', n' < n → I n' s → Weak st' s → k st') → AWp P N c (thenQ Q k) st) : AWp P N (.loop c) Q st := by
  refine awp_weak hw (awp_loop (fun n s => ∃ s', Weak s s' ∧ I n s') n0 ⟨st0, Weak.refl _, h0⟩ fun n s hs => ?_)
  obtain ⟨s', hw', hI⟩ := hs
  exact awp_weak hw' (round n s' hI _ fun n' s3 st' h1 h3 h2 => ⟨n', h1, s3, h2, h3⟩)

/-- A slice of ints; of truth values; of bytes. -/
def dL (xs : List Int) : D := .l xs.length fun j => [.s (.int .i64 (xs[j]?.getD 0))]
def dB (xs : List Bool) : D := .l xs.length fun j => [.s (.bool (xs[j]?.getD false))]
def dU (xs : List Int) : D := .l xs.length fun j => [.s (.int .u8 (xs[j]?.getD 0))]
@[simp high] theorem evLen_dL (tab : Tab) (st : St) (t : Nat) (xs : List Int) : evLen tab st t (.c (.d (dL xs))) = evLen tab st t (.c (.d (.l xs.length fun j => [.s (.int .i64 (xs[j]?.getD 0))]))) := rfl
@[simp high] theorem evIndexAddr_dL (tab : Tab) (st : St) (t : Nat) (xs : List Int) (y : T) : evIndexAddr tab st t (.c (.d (dL xs))) y = evIndexAddr tab st t (.c (.d (.l xs.length fun j => [.s (.int .i64 (xs[j]?.getD 0))]))) y := rfl
@[simp high] theorem srcOf_dL (m : List (Nm × Obj)) (z : Nat) (xs : List Int) : srcOf m z (.c (.d (dL xs))) = srcOf m z (.c (.d (.l xs.length fun j => [.s (.int .i64 (xs[j]?.getD 0))]))) := rfl
@[simp high] theorem evSlice_dL (tab : Tab) (st : St) (t : Nat) (xs : List Int) (lo hi mx : Option T) : evSlice tab st t (.c (.d (dL xs))) lo hi mx = evSlice tab st t (.c (.d (.l xs.length fun j => [.s (.int .i64 (xs[j]?.getD 0))]))) lo hi mx := rfl
@[simp high] theorem evLen_dB (tab : Tab) (st : St) (t : Nat) (xs : List Bool) : evLen tab st t (.c (.d (dB xs))) = evLen tab st t (.c (.d (.l xs.length fun j => [.s (.bool (xs[j]?.getD false))]))) := rfl
@[simp high] theorem evIndexAddr_dB (tab : Tab) (st : St) (t : Nat) (xs : List Bool) (y : T) : evIndexAddr tab st t (.c (.d (dB xs))) y = evIndexAddr tab st t (.c (.d (.l xs.length fun j => [.s (.bool (xs[j]?.getD false))]))) y := rfl
@[simp high] theorem srcOf_dB (m : List (Nm × Obj)) (z : Nat) (xs : List Bool) : srcOf m z (.c (.d (dB xs))) = srcOf m z (.c (.d (.l xs.length fun j => [.s (.bool (xs[j]?.getD false))]))) := rfl
@[simp high] theorem evSlice_dB (tab : Tab) (st : St) (t : Nat) (xs : List Bool) (lo hi mx : Option T) : evSlice tab st t (.c (.d (dB xs))) lo hi mx = evSlice tab st t (.c (.d (.l xs.length fun j => [.s (.bool (xs[j]?.getD false))]))) lo hi mx := rfl
@[simp high] theorem evLen_dU (tab : Tab) (st : St) (t : Nat) (xs : List Int) : evLen tab st t (.c (.d (dU xs))) = evLen tab st t (.c (.d (.l xs.length fun j => [.s (.int .u8 (xs[j]?.getD 0))]))) := rfl
@[simp high] theorem evIndexAddr_dU (tab : Tab) (st : St) (t : Nat) (xs : List Int) (y : T) : evIndexAddr tab st t (.c (.d (dU xs))) y = evIndexAddr tab st t (.c (.d (.l xs.length fun j => [.s (.int .u8 (xs[j]?.getD 0))]))) y := rfl
@[simp high] theorem srcOf_dU (m : List (Nm × Obj)) (z : Nat) (xs : List Int) : srcOf m z (.c (.d (dU xs))) = srcOf m z (.c (.d (.l xs.length fun j => [.s (.int .u8 (xs[j]?.getD 0))]))) := rfl
@[simp high] theorem evSlice_dU (tab : Tab) (st : St) (t : Nat) (xs : List Int) (lo hi mx : Option T) : evSlice tab st t (.c (.d (dU xs))) lo hi mx = evSlice tab st t (.c (.d (.l xs.length fun j => [.s (.int .u8 (xs[j]?.getD 0))]))) lo hi mx := rfl
end Go.V

/- V22: more on contracts. -/
set_option linter.unusedVariables false
namespace Go.V

@[simp] theorem appF_zero (f g : Nat → List D) : appF 0 f g = g := by funext j; simp [appF]
/-- An empty slice, whatever it points to. -/
theorem FSpec.slice0 {P : Program} {f : FuncId} {f0 : Nat → List D} {r : List T} {res : T} (h : ∀ a cap, FSpec P f (.c (.d (.s (.slice a 0 cap))) :: r) [] res []) : FSpec P f (.c (.d (.l 0 f0)) :: r) [] res [] := by
  refine ⟨(h none 0).1, fun w U μ vals hU hM hA => ?_⟩
  match hv : vals.toList, hA with
  | [], hA => simp [AllRep] at hA
  | v :: vs, hA =>
    have h0 := hA.2 0 _ rfl
    simp only [List.getD_cons_zero] at h0
    cases h0 with
    | c h0 => cases h0 with
      | d h0 => cases h0 with
        | l _ _ a cap sz vals' hn hc hs ha hv' =>
          refine (h a cap).2 w U μ vals hU hM ?_
          rw [hv]
          refine ⟨hA.1, fun i x hx => ?_⟩
          cases i with
          | zero =>
            simp only [List.getElem?_cons_zero, Option.some.injEq] at hx
            subst hx
            exact .c (.d (.s _ rfl))
          | succ i => exact hA.2 (i + 1) x (by simpa using hx)

theorem FSpec.le {P : Program} {f : FuncId} {args args' : List T} {res : T} (h : FSpec P f args' [] res []) (hle : LeTs args args') : FSpec P f args [] res [] :=
  ⟨h.1, fun w U μ vals hU hM hA => h.2 w U μ vals hU hM (LeTs.rep hA hle)⟩

theorem LeD_dL {n : Nat} {f : Nat → List D} {xs : List Int} (hn : n = xs.length) (h : ∀ j, j < n → f j = [.s (.int .i64 (xs[j]?.getD 0))]) : LeD (.l n f) (dL xs) := by
  subst hn
  exact .ext h
theorem LeD_nil_dL : LeD (.s (.slice none 0 0)) (dL []) := .nil _
@[simp] theorem LeD_nil_dL' (xs : List Int) (h : xs = []) : LeD (.s (.slice none 0 0)) (dL xs) := by subst h; exact .nil _
end Go.V

/- V23: comparing small structs and arrays. -/
set_option linter.unusedVariables false
namespace Go.V

theorem fits2 {a b : SK} {xs : List Value} (hl : xs.length = 2) (h : ∀ (i : Nat) s v, [a, b][i]? = some s → xs[i]? = some v → s.fits v) : ∃ u v, xs = [u, v] ∧ a.fits u ∧ b.fits v := by
  match xs, hl with
  | [u, v], _ => exact ⟨u, v, rfl, h 0 a u rfl rfl, h 1 b v rfl rfl⟩

/-- Two numbers in an array. -/
theorem eqEnt_arr2 {P : Program} {t e : Nat} {k : IntKind} {te : TI} (ht : P.underlying t = some (.array 2 e)) (he : Ent P e te) (hk : te.k = .int k) (hg : P.eqGuardType P.depth t = false) : EqEnt P t [.int k, .int k] := by
  intro w xs ys hxl hyl hx hy x y
  obtain ⟨u1, u2, rfl, ⟨a1, rfl⟩, ⟨a2, rfl⟩⟩ := fits2 hxl hx
  obtain ⟨v1, v2, rfl, ⟨b1, rfl⟩, ⟨b2, rfl⟩⟩ := fits2 hyl hy
  have hs1 : te.sz = 1 := he.a1 (by rw [hk]; rfl)
  have hsz : (sizeOf e).run P w = .ok 1 w := by rw [← hs1]; exact he.size w
  have hagg : (isAgg e).run P w = .ok false w := by
    have := he.isAgg w
    rw [hk] at this
    exact this
  have heq : ∀ (c d : Int), (Op.equalIn 9999 e (.int k c) (.int k d)).run P w = .ok (c == d) w := fun c d => run_equalIn_int w 9998 e k k c d (he.int hk)
  have hpart : ∀ (cs : Array Value) (i : Nat) v, cs[i]? = some v → (part e cs i).run P w = .ok v w := fun cs i v hv => by
    simp [part, hagg, hsz, hv]
  have key : (Op.equalIn 10000 t (.agg #[.int k a1, .int k a2]) (.agg #[.int k b1, .int k b2])).run P w = .ok (a1 == b1 && a2 == b2) w := by
    unfold Op.equalIn
    simp only [Sem.run_bind, underlying, Sem.run_pure, run_program, ht, Result.andThen, hsz]
    have p0 : ∀ u v : Value, (part e #[u, v] 0).run P w = .ok u w := fun u v => hpart _ 0 u rfl
    have p1 : ∀ u v : Value, (part e #[u, v] 1).run P w = .ok v w := fun u v => hpart _ 1 v rfl
    cases h1 : a1 == b1 <;> cases h2 : a2 == b2 <;> simp [hsz, List.range', p0, p1, heq, h1, h2, Result.andThen]
  have hsame : ((([Value.int k a1, .int k a2].zip [Value.int k b1, .int k b2]).all fun p => plainEq p.1 p.2)) = (a1 == b1 && a2 == b2) := by simp [plainEq, List.zip]
  refine ⟨?_, ?_⟩
  · have hgd := run_eqGuard_agg (P := P) w .eql t x y #[.int k a1, .int k a2] #[.int k b1, .int k b2] hg
    simp only [Sem.run_bind, hgd, Result.andThen, run_eql_struct, key, hsame]
  · have hgd := run_eqGuard_agg (P := P) w .neq t x y #[.int k a1, .int k a2] #[.int k b1, .int k b2] hg
    simp only [Sem.run_bind, hgd, Result.andThen, run_neq_struct, key, hsame]

def SKTy (P : Program) (s : SK) (t : Nat) : Prop := match s with
  | .int k => ∃ te, Ent P t te ∧ te.k = .int k
  | .bool => ∃ te, Ent P t te ∧ te.k = .bool
def FldOK (P : Program) : Nat → List SK → List Field → Prop
  | _, [], [] => True
  | o, s :: sk, f :: fs => (f.name == "_") = false ∧ f.offset = o ∧ SKTy P s f.type ∧ FldOK P (o + 1) sk fs
  | _, _, _ => False

theorem eqFields_ok {P : Program} {w : World} {xs ys : List Value} (hl : xs.length = ys.length) : ∀ (sk : List SK) (fs : List Field) (o : Nat), FldOK P o sk fs → o + sk.length = xs.length → (∀ (i : Nat) s v, sk[i]? = some s → xs[o + i]? = some v → s.fits v) → (∀ (i : Nat) s v, sk[i]? = some s → ys[o + i]? = some v → s.fits v) →
    (Op.eqFields 9999 xs.toArray ys.toArray fs).run P w = .ok (((xs.drop o).zip (ys.drop o)).all fun p => plainEq p.1 p.2) w
  | [], [], o, _, hn, _, _ => by
    have : xs.drop o = [] := List.drop_eq_nil_of_le (by simp at hn; omega)
    simp [Op.eqFields, this]
  | [], _ :: _, _, h, _, _, _ => h.elim
  | _ :: _, [], _, h, _, _, _ => h.elim
  | s :: sk, f :: fs, o, h, hn, hx, hy => by
    obtain ⟨hname, hoff, hty, hr⟩ := h
    subst hoff
    have hlt : f.offset < xs.length := by simp at hn; omega
    have hlt' : f.offset < ys.length := by omega
    have ih := eqFields_ok (P := P) (w := w) hl sk fs (f.offset + 1) hr (by simp at hn; omega) (fun i s v hs hv => hx (i + 1) s v (by simpa using hs) (by rw [show f.offset + (i + 1) = f.offset + 1 + i by omega]; exact hv)) (fun i s v hs hv => hy (i + 1) s v (by simpa using hs) (by rw [show f.offset + (i + 1) = f.offset + 1 + i by omega]; exact hv))
    have hfx := hx 0 s xs[f.offset] rfl (by simp [hlt])
    have hfy := hy 0 s ys[f.offset] rfl (by simp [hlt'])
    have hname' : f.name ≠ "_" := by simpa using hname
    obtain ⟨te, he, hag, hE⟩ : ∃ te, Ent P f.type te ∧ te.k.agg = false ∧ (Op.equalIn 9999 f.type xs[f.offset] ys[f.offset]).run P w = .ok (plainEq xs[f.offset] ys[f.offset]) w := by
      cases s with
      | int k =>
        obtain ⟨te, he, hk⟩ := hty
        obtain ⟨a, ha⟩ := hfx
        obtain ⟨b, hb⟩ := hfy
        refine ⟨te, he, by rw [hk]; rfl, ?_⟩
        rw [ha, hb]
        exact run_equalIn_int w 9998 f.type k k a b (he.int hk)
      | bool =>
        obtain ⟨te, he, hk⟩ := hty
        obtain ⟨a, ha⟩ := hfx
        obtain ⟨b, hb⟩ := hfy
        refine ⟨te, he, by rw [hk]; rfl, ?_⟩
        rw [ha, hb]
        exact run_equalIn_bool' w 9998 f.type a b (he.bool hk)
    have hagg : (isAgg f.type).run P w = .ok false w := by rw [← hag]; exact he.isAgg w
    have hpart : ∀ (cs : List Value) v, cs[f.offset]? = some v → (part f.type cs.toArray f.offset).run P w = .ok v w := fun cs v hv => by
      simp [part, hagg, hv]
    have px := hpart xs xs[f.offset] (by simp [hlt])
    have py := hpart ys ys[f.offset] (by simp [hlt'])
    rw [List.drop_eq_getElem_cons hlt, List.drop_eq_getElem_cons hlt']
    simp only [Op.eqFields, if_pos hname', Sem.run_bind, px, py, hE, Result.andThen_ok, List.zip_cons_cons, List.all_cons]
    cases plainEq xs[f.offset] ys[f.offset]
    · simp
    · simpa using ih

theorem eqEnt_struct {P : Program} {t : Nat} {sk : List SK} (ht : P.underlying t = some (.struct (P.fieldsOf t))) (hp : P.stoodInHeld t = false) (hg : P.eqGuardType P.depth t = false) (hf : FldOK P 0 sk (P.fieldsOf t).toList) : EqEnt P t sk := by
  intro w xs ys hxl hyl hx hy x y
  have key : (Op.equalIn 10000 t (.agg xs.toArray) (.agg ys.toArray)).run P w = .ok ((xs.zip ys).all fun p => plainEq p.1 p.2) w := by
    rw [run_equalIn_agg w 9999 t xs.toArray ys.toArray ht hp]
    have := eqFields_ok (P := P) (w := w) (xs := xs) (ys := ys) (by omega) sk _ 0 hf (by omega) (fun i s v hs hv => hx i s v hs (by simpa using hv)) (fun i s v hs hv => hy i s v hs (by simpa using hv))
    simpa using this
  refine ⟨?_, ?_⟩
  · have hgd := run_eqGuard_agg (P := P) w .eql t x y xs.toArray ys.toArray hg
    simp only [Sem.run_bind, hgd, Result.andThen, run_eql_struct, key]
  · have hgd := run_eqGuard_agg (P := P) w .neq t x y xs.toArray ys.toArray hg
    simp only [Sem.run_bind, hgd, Result.andThen, run_neq_struct, key]

theorem EqOK.cons {P : Program} {t : Nat} {sk : List SK} {r : EqTab} (h : EqEnt P t sk) (k : EqOK P r) : EqOK P ⟨(t, sk) :: r.e, r.k⟩ := ⟨fun u s hu => by
  replace hu : lk ((t, sk) :: r.e) u = some s := hu
  rw [lk_cons] at hu
  split at hu
  · rename_i e
    injection hu with hu
    subst e hu
    exact h
  · exact k.e u s hu, k.k⟩
theorem EqOK.map {P : Program} {t : Nat} {mk : MK} {r : EqTab} (h : MapEnt P t mk) (k : EqOK P r) : EqOK P ⟨r.e, (t, mk) :: r.k⟩ := ⟨k.e, fun u s hu => by
  replace hu : lk ((t, mk) :: r.k) u = some s := hu
  rw [lk_cons] at hu
  split at hu
  · rename_i e
    injection hu with hu
    subst e hu
    exact h
  · exact k.k u s hu⟩

/-! ### Keys of maps -/
theorem all_plainEq : ∀ {x y : List Int}, x.length = y.length → (((x.map fun n => Value.int .i64 n).zip (y.map fun n => Value.int .i64 n)).all fun p => plainEq p.1 p.2) = decide (x = y)
  | [], [], _ => by simp
  | [], _ :: _, h => by simp at h
  | _ :: _, [], h => by simp at h
  | a :: x, b :: y, h => by
    have := all_plainEq (x := x) (y := y) (by simpa using h)
    have h0 : plainEq (.int .i64 a) (.int .i64 b) = (a == b) := rfl
    simp only [List.map_cons, List.zip_cons_cons, List.all_cons, h0, this]
    by_cases e : a = b <;> by_cases e2 : x = y <;> simp [e, e2]

def IntFlds (P : Program) : Nat → Nat → List Field → Prop
  | _, 0, [] => True
  | o, n + 1, f :: fs => (f.name == "_") = false ∧ f.offset = o ∧ (∃ te, Ent P f.type te ∧ te.k = .int .i64) ∧ IntFlds P (o + 1) n fs
  | _, _, _ => False

theorem IntFlds.fld {P : Program} : ∀ {n o : Nat} {fs : List Field}, IntFlds P o n fs → FldOK P o (List.replicate n (.int .i64)) fs
  | 0, _, [], _ => trivial
  | 0, _, _ :: _, h => h.elim
  | _ + 1, _, [], h => h.elim
  | n + 1, o, f :: fs, h => ⟨h.1, h.2.1, h.2.2.1, h.2.2.2.fld⟩

theorem KeyLaw.struct {P : Program} {k kn : Nat} (ht : P.underlying k = some (.struct (P.fieldsOf k))) (hp : P.stoodInHeld k = false) (hf : IntFlds P 0 kn (P.fieldsOf k).toList) : KeyLaw P k kn true := by
  refine KeyLaw.agg ht (fun q h => by cases h) (fun w em x hx => ?_) fun w x y hx hy => ?_
  · rw [show (10000 : Nat) = 9999 + 1 from rfl, Instr.checkKey]
    simp only [keyV, if_true, Sem.run_bind, run_underlying ht, Result.andThen_ok]
    rw [← Array.forIn_toList]
    generalize (P.fieldsOf k).toList = L at hf
    have key : ∀ (L : List Field) (o n : Nat), IntFlds P o n L → o + n = x.length → (forIn L PUnit.unit fun f (_ : PUnit) => (do
        if f.name ≠ "_" then
          Instr.checkKey em 9999 f.type (← part f.type (x.map fun n => Value.int .i64 n).toArray f.offset)
          pure (ForInStep.yield PUnit.unit)
        else pure (ForInStep.yield PUnit.unit) : Sem (ForInStep PUnit))).run P w = .ok PUnit.unit w := by
      intro L
      induction L with
      | nil => intro o n h e; simp
      | cons f L ih =>
        intro o n h e
        cases n with
        | zero => exact h.elim
        | succ n =>
          obtain ⟨hn, ho, ⟨te, he, hk⟩, hr⟩ := h
          have hn' : f.name ≠ "_" := by simpa using hn
          have hagg : (isAgg f.type).run P w = .ok false w := by rw [he.isAgg w, hk]; rfl
          have hlt : o < x.length := by omega
          have p1 : (part f.type (x.map fun n => Value.int .i64 n).toArray f.offset).run P w = .ok (.int .i64 x[o]) w := by
            simp [part, hagg, ho, hlt]
          have p2 : (Instr.checkKey em 9999 f.type (.int .i64 x[o])).run P w = .ok () w := by
            rw [show (9999 : Nat) = 9998 + 1 from rfl, Instr.checkKey]
            simp only [Sem.run_bind, run_underlying (he.int hk), Result.andThen_ok, Sem.run_pure]
          simp only [List.forIn_cons, Sem.run_bind, hn', ne_eq, not_false_eq_true, if_true, Result.andThen_ok, p1, p2, Sem.run_pure]
          exact ih (o + 1) n hr (by omega)
    rw [key L 0 kn hf (by omega)]
    rfl
  · have hl : (List.replicate kn (SK.int .i64)).length = kn := by simp
    have hfit : ∀ (z : List Int), ∀ (i : Nat) (s : SK) (v : Value), (List.replicate kn (SK.int .i64))[i]? = some s → (z.map fun n => Value.int .i64 n)[0 + i]? = some v → s.fits v := fun z i s v hs hv => by
      obtain ⟨hi, rfl⟩ : i < kn ∧ SK.int .i64 = s := by
        simpa [List.getElem?_replicate] using hs
      rw [List.getElem?_map] at hv
      obtain ⟨n, _, rfl⟩ := Option.map_eq_some_iff.1 hv
      exact ⟨n, rfl⟩
    have := eqFields_ok (P := P) (w := w) (xs := x.map fun n => Value.int .i64 n) (ys := y.map fun n => Value.int .i64 n) (by simp [hx, hy]) _ _ 0 hf.fld (by simp [hx]) (hfit x) (hfit y)
    simp only [keyV, if_true]
    show (Op.equalIn 10000 k _ _).run P w = _
    rw [run_equalIn_agg w 9999 k _ _ ht hp, this, List.drop_zero, List.drop_zero, all_plainEq (by omega)]
end Go.V
namespace Go.V
theorem zero_run {P : Program} {t : Nat} {z : Value} (h : (P.info? t).map (fun i => i.zero) = some (some z)) (w : World) : (zeroValue t).run P w = .ok z w := by
  obtain ⟨i, hi, hz⟩ := Option.map_eq_some_iff.1 h
  simp [zeroValue, typeInfo, hi, hz]
end Go.V

/- V24: contracts of functions that are handed objects. -/
set_option linter.unusedVariables false
namespace Go.V

def clTs (m : List (Nm × Obj)) : List T → Prop
  | [] => True
  | x :: r => clT m x ∧ clTs m r

/-- What is left: the results, and the objects, said in one way. -/
def RetM (tab : Tab) (rs : List ResultVar) (ma : List (Nm × Obj)) (res : List T) (mr : List (Nm × Obj)) (e : Exit) (st : St) : Prop :=
  (e = .normal ∨ e = .ret) ∧ match resV tab st rs with
    | some (p, l) => p ∧ match argRefs (mr.map (·.1)) st.m l with
      | some (q, ys, ns) => q ∧ LeTs ys res ∧ clTs mr ys ∧ wkM ⟨[], iceUp st.m ns ++ st.m⟩ mr mr ∧ ∀ n o, lk ma n = some o → (lk mr n).isSome = true
      | none => False
    | none => False

/-- One result stands alone. -/
def tupOf : List T → T
  | [x] => x
  | l => .tup l

section
variable {Γ : Ctx} {U : Nat → Prop} {μ : Mu} {m : Mem} {st : St} {a : Act} {w : World} {tab : Tab}

theorem MStep.weakIn {m0 m : Mem} {μ0 μ : Mu} {m' : List (Nm × Obj)} (h : MStep m0 μ0 m μ) (hM : ∀ n o, lk m' n = some o → ∃ o0, m n = some o0 ∧ LeO m' o0 o) (hk : ∀ n o, m0 n = some o → (lk m' n).isSome = true) : MStep m0 μ0 (lk m') μ := by
  have key : ∀ n o o0, m0 n = some o → m n = some o0 → ∃ o1, lk m' n = some o1 ∧ LeO m' o0 o1 := fun n o o0 h0 h1 => by
    obtain ⟨o1, ho1⟩ := isSome_some (hk n o h0)
    obtain ⟨o2, h2, hle⟩ := hM n o1 ho1
    rw [h1] at h2
    injection h2 with h2
    subst h2
    exact ⟨o1, ho1, hle⟩
  refine ⟨fun n ice ty sz q f hn => ?_, fun n ice cs hn => ?_, fun n ka va g hn => ?_⟩
  · obtain ⟨i1, k1, f1, h1, hle1, he1⟩ := h.1 n ice ty sz q f hn
    obtain ⟨o1, ho1, hle⟩ := key n _ _ hn h1
    cases o1 with
    | row i2 ty2 sz2 k2 f2 =>
      obtain ⟨rfl, rfl, rfl, rfl, _⟩ := hle
      exact ⟨i1, k1, f2, ho1, hle1, he1⟩
    | box => exact hle.elim
    | map => exact hle.elim
  · obtain ⟨i1, c1, h1, he1⟩ := h.2.1 n ice cs hn
    obtain ⟨o1, ho1, hle⟩ := key n _ _ hn h1
    cases o1 with
    | box i2 c2 => exact ⟨i2, c2, ho1, he1⟩
    | row => exact hle.elim
    | map => exact hle.elim
  · obtain ⟨g1, h1, he1⟩ := h.2.2 n ka va g hn
    obtain ⟨o1, ho1, hle⟩ := key n _ _ hn h1
    cases o1 with
    | map ka2 va2 g2 =>
      obtain ⟨rfl, rfl, rfl⟩ := hle
      exact ⟨g1, ho1, he1⟩
    | box => exact hle.elim
    | row => exact hle.elim

/-- The memory part of 'weak_mk'. -/
theorem RM.weak {Z : Nat → Prop} {m : List (Nm × Obj)} {m' : List (Nm × Obj)} (h : RM w U Z μ (lk m)) (hM : ∀ n o, lk m' n = some o → ∃ o0, lk m n = some o0 ∧ LeO m' o0 o) : RM w U Z μ (lk m') := by
  refine ⟨fun n o ho => ?_, fun n n' o o' g c c' ho ho' hg hg' => ?_⟩
  · obtain ⟨o0, h0, hle⟩ := hM n o ho
    have hok := h.ok n o0 h0
    cases o0 with
    | box ice cs => cases o with
      | box ice' cs' =>
        obtain ⟨rfl, hle, hcl⟩ := hle
        obtain ⟨g, cur, ty, e1, e2, e3, e4, e5⟩ := hok
        have hrep : RepT w U μ (lk m) (.agg cs') (.agg cur) := hle.rep (.agg e3 e4)
        cases hrep with
        | agg hs hr => exact ⟨g, cur, ty, e1, e2, hs, fun i c hc => (hr i c hc).weak hM (hcl c (List.mem_of_getElem? hc)), e5⟩
      | row => exact hle.elim
      | map => exact hle.elim
    | row ice ty sz k f => cases o with
      | row ice' ty' sz' k' f' =>
        obtain ⟨rfl, rfl, rfl, rfl, hF⟩ := hle
        obtain ⟨g0, ho⟩ := hok
        have hlen : ∀ j, j < k → (f j).length = (f' j).length := fun j hj => by
          cases hF with
          | refl => rfl
          | l hl _ => exact hl j hj
        refine ⟨fun j hj => by rw [← hlen j hj]; exact g0 j hj, ?_⟩
        rcases ho with ho | ⟨g, cap, cur, e1, e2, e3, e4, e5, e6, e7⟩
        · exact .inl ho
        · refine .inr ⟨g, cap, cur, e1, e2, e3, e4, e5, fun j q d hj hd => ?_, e7⟩
          have hq := (List.getElem?_eq_some_iff.1 hd).1
          rw [← hlen j hj] at hq
          have h6 := e6 j q _ hj (List.getElem?_eq_getElem hq)
          have hx : (f j)[q]? = some (f j)[q] := List.getElem?_eq_getElem hq
          cases hF with
          | refl => rw [hd] at hx; injection hx with hx; rw [hx]; exact h6
          | l _ hl2 => exact (hl2 j q _ d hj hx hd).rep h6
      | box => exact hle.elim
      | map => exact hle.elim
    | map ka va g => cases o with
      | map ka' va' g' =>
        obtain ⟨rfl, rfl, rfl⟩ := hle
        exact hok
      | row => exact hle.elim
      | box => exact hle.elim
  · obtain ⟨o0, h0, _⟩ := hM n o ho
    obtain ⟨o1, h1, _⟩ := hM n' o' ho'
    exact h.inj n n' o0 o1 g c c' h0 h1 hg hg'

theorem AllRep.weak {m mr : List (Nm × Obj)} (hM : ∀ n o, lk mr n = some o → ∃ o0, lk m n = some o0 ∧ LeO mr o0 o) : ∀ {ys : List T}, clTs mr ys → ∀ {vs : List Value}, AllRep w U μ (lk m) ys vs → AllRep w U μ (lk mr) ys vs
  | [], _, vs, hv => ⟨hv.1, fun i x hx => by simp at hx⟩
  | x :: xs, hcl, vs, hv => by
    match vs, hv with
    | [], hv => simp [AllRep] at hv
    | v :: vs, hv =>
      obtain ⟨v1, v2⟩ := hv.tail
      have r1 := RepT.weak hM v1 hcl.1
      have r2 := AllRep.weak hM hcl.2 v2
      refine ⟨by simp [r2.1], fun i z hz => ?_⟩
      cases i with
      | zero => simp only [List.getElem?_cons_zero, Option.some.injEq] at hz; subst hz; simpa using r1
      | succ i => simpa using r2.2 i z (by simpa using hz)

theorem tupOf_rep {l : List T} {vs : List Value} {v : Value} (h : AllRep w U μ m l vs) (hv : (∃ u, vs = [u] ∧ v = u) ∨ (vs.length ≠ 1 ∧ v = .tuple vs.toArray)) : RepT w U μ m (tupOf l) v := by
  rcases hv with ⟨u, rfl, rfl⟩ | ⟨hne, rfl⟩
  · match l, h with
    | [x], h => simpa [tupOf] using h.2 0 x rfl
    | [], h => simp [AllRep] at h
    | _ :: _ :: _, h => simp [AllRep] at h
  · have : tupOf l = .tup l := by
      match l, h with
      | [], _ => rfl
      | [x], h => have := h.1; simp at this; omega
      | _ :: _ :: _, _ => rfl
    rw [this]
    refine .tup (by simpa using h.1.symm) fun i t ht => ?_
    simpa [List.getD_eq_getElem?_getD] using h.2 i t ht

/-- A contract of a function that is handed objects, by the walk through its code. -/
theorem fspec_introM {P : Program} {f : FuncId} {fn : Func} {c : Code} {args : List T} {ma : List (Nm × Obj)} {res : List T} {mr : List (Nm × Obj)} (hf : P.funcs[f]? = some fn) (hname : (fn.name == "runtime.NumGoroutine") = false) (hb : fn.body = some c) (hT : TabOK P tab) {rs : List ResultVar} (hrs : fn.results.toList = rs) {N : Nat} (hN : fn.ntmps = N)
    (hlen : args.length ≤ N) (hhi : ∀ n o, lk ma n = some o → HI ≤ n) (h : AWp P N c (RetM tab rs ma res mr) ⟨initT 0 args, ma⟩) : FSpec P f args ma (tupOf res) mr := by
  refine ⟨⟨fn, hf, hname, by simp [hb]⟩, fun w U μ vals hU hRM hargs => ?_⟩
  have hsz : vals.size = args.length := by have := hargs.1; simp at this; exact this.symm
  refine calls_of_wp hf hb ?_
  let Γ : Ctx := { P := P, w0 := w, Z := Zof w μ (lk ma), U0 := U, N := N, m0 := lk ma, μ0 := μ }
  have hZ : ∀ n o g c, lk ma n = some o → μ n = some (g, c) → ¬ Zof w μ (lk ma) g := fun n o g c ho hg hz => hz.2 n o c ho hg
  have hR : R Γ ⟨initT 0 args, ma⟩ { tmps := vals ++ Array.replicate (fn.ntmps - vals.size) undef, defers := [] } w := by
    refine ⟨U, μ, Pres.refl _ _, fun k hk => hk.1, fun _ hk => hk, fun k hk => ⟨hU k hk, .inl hk⟩, ⟨fun n o ho => ?_, hRM.inj⟩, fun t x hx => ?_, ?_, rfl, MStep.refl _ _, hhi⟩
    · have hok := hRM.ok n o ho
      cases o with
      | box ice cs =>
        obtain ⟨g, cur, ty, e1, e2, e3, e4, _, e5⟩ := hok
        exact ⟨g, cur, ty, e1, e2, e3, e4, hZ n _ g 0 ho e1, e5⟩
      | row ice ty sz k f =>
        obtain ⟨h0, hok⟩ := hok
        refine ⟨h0, ?_⟩
        rcases hok with hok | ⟨g, cap, cur, e1, e2, e3, e4, e5, e6, _, e7⟩
        · exact .inl hok
        · exact .inr ⟨g, cap, cur, e1, e2, e3, e4, e5, e6, hZ n _ g cap ho e1, e7⟩
      | map ka va gl =>
        obtain ⟨g, es, clock, e1, e2, e3, _, e5⟩ := hok
        exact ⟨g, es, clock, e1, e2, e3, hZ n _ g 0 ho e1, e5⟩
    · obtain ⟨_, hx⟩ := initT_lk hx
      simp only [Nat.sub_zero] at hx
      have hlt : t < vals.size := by rw [hsz]; exact (List.getElem?_eq_some_iff.1 hx).1
      have := hargs.2 t x hx
      have hget : (vals ++ Array.replicate (fn.ntmps - vals.size) undef).getD t undef = vals.toList.getD t undef := by
        simp only [Array.getD_eq_getD_getElem?, List.getD_eq_getElem?_getD, Array.getElem?_append_left hlt, Array.getElem?_toList]
      rw [hget]
      exact this
    · show (vals ++ Array.replicate (fn.ntmps - vals.size) undef).size = N
      simp
      omega
  have key := h Γ rfl rfl _ w hR
  refine wp_mono key fun e a' w' hq => ?_
  obtain ⟨st', ⟨he, hq⟩, U', μ', hRR⟩ := hq
  split at hq
  case h_2 => exact hq.elim
  rename_i p l hres
  obtain ⟨hp, hq⟩ := hq
  split at hq
  case h_2 => exact hq.elim
  rename_i q ys ns hret
  obtain ⟨hq, hle, hcl, hwk, hkeep⟩ := hq
  have hTΓ : TabOK Γ.P tab := hT
  obtain ⟨vs, hrun0, hrep⟩ := resV_rep (f := readR a'.tmps) hTΓ hRR ⟨fun _ => rfl, fun _ _ => rfl⟩ hres hp
  have hrun : ∀ f : ResultVar → Sem Value, ReadsR f a'.tmps → (rs.mapM f).run P w' = .ok vs w' := fun f hf => by
    have hff : f = readR a'.tmps := by
      funext r
      cases r with
      | tmp t => exact hf.tmp t
      | cell q t => exact hf.cell q t
    subst hff
    exact hrun0
  obtain ⟨v, hv, hform⟩ := results_run hrs hrun
  obtain ⟨U2, g1, gu1, gi1⟩ := hRR.iceAll ns
  have hM : ∀ n o, lk mr n = some o → ∃ o0, lk (iceUp st'.m ns ++ st'.m) n = some o0 ∧ LeO mr o0 o := fun n o ho => wkM_lk hwk n o ho
  have hrep1 : AllRep w' U2 μ' (lk (iceUp st'.m ns ++ st'.m)) l vs := ⟨hrep.1, fun i x hx => (hrep.2 i x hx).mono ⟨gu1, fun _ _ => rfl⟩ (MStep.iceUp st'.m μ' ns)⟩
  have hys := (argRefs_rep g1 (lk_iceUp st'.m ns) hret hq gi1 hrep1).weak hM hcl
  have hfin := LeTs.rep hys hle
  have hpost : a'.defers = [] ∧ ∃ v, (results fn a'.tmps).run P w' = .ok v w' ∧ (fun e w' => ∃ v U' μ', e = Ending.returned v ∧ Pres (Zof w μ (lk ma)) w w' ∧ (∀ k, U k → U' k) ∧ (∀ k, U' k → k < w'.heap.size ∧ (U k ∨ ¬ Zof w μ (lk ma) k)) ∧
      RM w' U' (Zof w μ (lk ma)) μ' (lk mr) ∧ RepT w' U' μ' (lk mr) (tupOf res) v ∧ MStep (lk ma) μ (lk mr) μ') (.returned v) w' :=
    ⟨hRR.defers, v, hv, v, U2, μ', rfl, hRR.pres, fun k hk => gu1 k (hRR.usub k hk), fun k hk => g1.ulim k hk, g1.mem.weak hM, tupOf_rep hfin hform, MStep.weakIn g1.fix hM fun n o ho => hkeep n o ho⟩
  rcases he with rfl | rfl
  · exact hpost
  · exact hpost
end
end Go.V

/- V27: the steps for calls with objects. -/
set_option linter.unusedVariables false
namespace Go.V

section
variable {P : Program} {tab : Tab} {et : EqTab} {N : Nat} {ops : List Oper} {K : St → Prop} {r : List Oper} {fs : List Foot} {st : St} {dst : Option Nat} {f : FuncId} {xs : List Operand} {ts args : List T} {ns : List Nm} {ma mr : List (Nm × Obj)} {res : T}
/-- A call's premises, in an order that can be answered one by one. -/
theorem callM_mk {ρ : List (Nm × Nm)} {p : Prop} {ts' : List T} (h1 : argRefs (ma.map fun q => rn ρ q.1) st.m ts = some (p, ts', ns)) (h2 : p) (h3 : LeTs ts' (args.map (renT ρ))) (h4 : ∀ x ∈ args, clT ma x) (h5 : ∀ q ∈ ma, lk (iceUp st.m ns ++ st.m) (rn ρ q.1) = some (renO ρ q.2) ∧ q.2.soft = true ∧ clO ma q.2)
    (h6 : ∀ p ∈ ma, ∀ q ∈ ma, rn ρ p.1 = rn ρ q.1 → p.1 = q.1) (h7 : ∀ p ∈ mr, ∀ q ∈ mr, rn ρ p.1 = rn ρ q.1 → p.1 = q.1) (h8 : ∀ q ∈ mr, (lk ma q.1).isSome = true ∨ lk st.m (rn ρ q.1) = none) (h9 : ∀ q ∈ mr, clO mr q.2) (h10 : clR mr res) (h11 : FSpec P f args ma res mr) : CallM P st ts f ρ ma args res mr ns :=
  ⟨⟨p, ts', h1, h2, h3⟩, h4, h5, h6, h7, h8, h9, h10, h11⟩
end
attribute [simp] clTs RetM tupOf renT renC renC1 renO renM rn rdM clO clR Obj.soft argRef argRefs cellR cellsR
end Go.V

/- V28: a call with objects, in one step; the contract first. -/
set_option linter.unusedVariables false
namespace Go.V
section
variable {P : Program} {tab : Tab} {et : EqTab} {N : Nat} {ops : List Oper} {K : St → Prop} {r : List Oper} {fs : List Foot} {st : St} {dst : Option Nat} {f : FuncId} {xs : List Operand} {ts args : List T} {ns : List Nm} {ma mr : List (Nm × Obj)} {res : T}
/-- What is asked of the names. -/
def SideM (st : St) (ρ : List (Nm × Nm)) (ma : List (Nm × Obj)) (args : List T) (res : T) (mr : List (Nm × Obj)) (ns : List Nm) : Prop :=
  (∀ x ∈ args, clT ma x) ∧ (∀ q ∈ ma, lk (iceUp st.m ns ++ st.m) (rn ρ q.1) = some (renO ρ q.2) ∧ q.2.soft = true ∧ clO ma q.2) ∧ (∀ p ∈ ma, ∀ q ∈ ma, rn ρ p.1 = rn ρ q.1 → p.1 = q.1) ∧
  (∀ p ∈ mr, ∀ q ∈ mr, rn ρ p.1 = rn ρ q.1 → p.1 = q.1) ∧ (∀ q ∈ mr, (lk ma q.1).isSome = true ∨ lk st.m (rn ρ q.1) = none) ∧ (∀ q ∈ mr, clO mr q.2) ∧ clR mr res
theorem vcall_ob (hs : FSpec P f args ma res mr) (ρ : List (Nm × Nm)) {p : Prop} {ts' : List T} (h1 : argRefs (ma.map fun q => rn ρ q.1) st.m ts = some (p, ts', ns)) (hp : p) (h3 : LeTs ts' (args.map (renT ρ))) (h4 : SideM st ρ ma args res mr ns)
    (hk : vops P tab et N ops K r (st.app dst ⟨some (renT ρ res), renM ρ mr ++ iceUp st.m ns, rdM ρ ma mr ns⟩)) : vcallA P tab et N ops K r st dst f ts :=
  vcall_obj ρ (callM_mk h1 hp h3 h4.1 h4.2.1 h4.2.2.1 h4.2.2.2.1 h4.2.2.2.2.1 h4.2.2.2.2.2.1 h4.2.2.2.2.2.2 hs) hk
theorem wcall_ob (hs : FSpec P f args ma res mr) (ρ : List (Nm × Nm)) {p : Prop} {ts' : List T} (h1 : argRefs (ma.map fun q => rn ρ q.1) st.m ts = some (p, ts', ns)) (hp : p) (h3 : LeTs ts' (args.map (renT ρ))) (h4 : SideM st ρ ma args res mr ns)
    (hk : vopsD P tab et N ops K r (fs ++ [footOf ⟨some (renT ρ res), renM ρ mr ++ iceUp st.m ns, rdM ρ ma mr ns⟩]) (st.app dst ⟨some (renT ρ res), renM ρ mr ++ iceUp st.m ns, rdM ρ ma mr ns⟩)) : wcallA P tab et N ops K r fs st dst f ts :=
  wcall_obj ρ (callM_mk h1 hp h3 h4.1 h4.2.1 h4.2.2.1 h4.2.2.2.1 h4.2.2.2.2.1 h4.2.2.2.2.2.1 h4.2.2.2.2.2.2 hs) hk
end
/-! ### Rows that a variable in memory refers to, taken for pure data -/
theorem weak_boxR {st : St} {b : Nm} {cs cs' : List C} {p : Prop} {ns : List Nm} (R0 : List Nm) (hb : lk st.m b = some (.box false cs)) (hc : cellsR R0 st.m cs = some (p, cs', ns)) (hp : p) (hbn : b ∉ ns) :
    Weak st ⟨st.t, (b, .box false cs') :: (iceUp st.m ns ++ st.m)⟩ := by
  intro Γ a w hR
  obtain ⟨U, μ, h⟩ := hR
  obtain ⟨U1, h1, hu1, hi1⟩ := h.iceAll ns
  have hb2 : lk (iceUp st.m ns ++ st.m) b = some (.box false cs) := by rw [lk_iceUp_not _ _ _ hbn]; exact hb
  refine ⟨U1, μ, ?_⟩
  simp only
  rw [lk_cons_upd]
  have hm : MStep (lk (iceUp st.m ns ++ st.m)) μ (upd (lk (iceUp st.m ns ++ st.m)) b (.box false cs')) μ := by
    refine ⟨fun k ice ty sz q f h => ?_, fun k ice cs2 h => ?_, fun k ka va g h => ?_⟩
    all_goals
      by_cases e : b = k
      · subst e
        rw [hb2] at h
        first
          | exact ⟨false, _, by rw [upd_same], rfl⟩
          | (cases h; done)
      · rw [upd_ne _ _ e]
        first
          | exact ⟨ice, q, f, h, Nat.le_refl _, fun _ => rfl⟩
          | exact ⟨ice, cs2, h, rfl⟩
          | exact ⟨g, h, rfl⟩
  refine h1.stepW (Pres.refl _ _) (UStep.refl w U1) hm ⟨fun k o ho => ?_, fun k k' o o' g c c' ho ho' hg hg' => ?_⟩ h1.ulim
  · by_cases e : b = k
    · subst e
      rw [upd_same] at ho
      injection ho with ho
      subst ho
      obtain ⟨g, cur, ty', e1, e2, e3, e4, e5⟩ := h1.mem.ok b _ hb2
      obtain ⟨l1, l2⟩ := cellsR_rep h1 (lk_iceUp st.m ns) hc hp hi1 (vs := cur.toList) (fun i c hc => by simpa using e4 i c hc)
      exact ⟨g, cur, ty', e1, e2, by rw [l1]; exact e3, fun i c hc => (show RepC w U1 μ _ c _ by simpa using l2 i c hc).mono (UStep.refl w U1) hm, e5⟩
    · rw [upd_ne _ _ e] at ho
      exact (h1.mem.ok k o ho).mono (UStep.refl w U1) hm rfl fun g c _ => ⟨rfl, Iff.rfl⟩
  · have hx : ∀ k o, upd (lk (iceUp st.m ns ++ st.m)) b (.box false cs') k = some o → ∃ o2, lk (iceUp st.m ns ++ st.m) k = some o2 := fun k o ho => by
      by_cases e : b = k
      · subst e; exact ⟨_, hb2⟩
      · rw [upd_ne _ _ e] at ho; exact ⟨o, ho⟩
    obtain ⟨o1, h1'⟩ := hx k o ho
    obtain ⟨o2, h2'⟩ := hx k' o' ho'
    exact h1.mem.inj k k' o1 o2 g c c' h1' h2' hg hg'
theorem FSpec.res {P : Program} {f : FuncId} {args : List T} {ma mr : List (Nm × Obj)} {r r' : T} (h : FSpec P f args ma r mr) (e : r = r') : FSpec P f args ma r' mr := e ▸ h
attribute [simp] SideM
end Go.V
