/- FQ: queues as plain data: what a tick does, and what stays true. No program in sight. -/
import Derived.Test.YtiajgnpobcidmaaVa
import Derived.Test.YtiajgnpobcidmaaVb
import Derived.Test.YtiajgnpobcidmaaVc
import Derived.Test.YtiajgnpobcidmaaVd
import Derived.Test.YtiajgnpobcidmaaT
set_option linter.unusedSimpArgs false
set_option linter.unusedVariables false

namespace Go.Proofs
set_option linter.unusedVariables false
set_option linter.unusedSimpArgs false

/-- A queue. -/
structure Fi where
  cap : Int
  ws : List Int
  wr : Int
  rd : Int
  s0 : Int
  s1 : Int
  t0 : Int
  t1 : Int
  deriving DecidableEq

/-- A queue's pointers are in range. -/
structure Fi.ok (x : Fi) : Prop where
  cap : 1 ≤ x.cap ∧ x.cap ≤ 8
  ws : (x.ws.length : Int) = x.cap
  wr : 0 ≤ x.wr ∧ x.wr < 2 * x.cap
  rd : 0 ≤ x.rd ∧ x.rd < 2 * x.cap
  s0 : 0 ≤ x.s0 ∧ x.s0 < 2 * x.cap
  s1 : 0 ≤ x.s1 ∧ x.s1 < 2 * x.cap
  t0 : 0 ≤ x.t0 ∧ x.t0 < 2 * x.cap
  t1 : 0 ≤ x.t1 ∧ x.t1 < 2 * x.cap

def Fi.mn (x : Fi) (a b : Int) : Int := (a - b) % (2 * x.cap)

theorem mod_cases {a b m : Int} (ha : 0 ≤ a ∧ a < m) (hb : 0 ≤ b ∧ b < m) : (b ≤ a ∧ (a - b) % m = a - b) ∨ (a < b ∧ (a - b) % m = a - b + m) := by
  by_cases h : b ≤ a
  · exact .inl ⟨h, Int.emod_eq_of_lt (by omega) (by omega)⟩
  · refine .inr ⟨by omega, ?_⟩
    rw [← Int.add_emod_right]
    exact Int.emod_eq_of_lt (by omega) (by omega)

theorem Fi.mnC (x : Fi) {a b : Int} (ha : 0 ≤ a ∧ a < 2 * x.cap) (hb : 0 ≤ b ∧ b < 2 * x.cap) : (b ≤ a ∧ x.mn a b = a - b) ∨ (a < b ∧ x.mn a b = a - b + 2 * x.cap) := mod_cases ha hb

theorem succ_cases {a m : Int} (ha : 0 ≤ a ∧ a < m) : (a + 1 < m ∧ (a + 1) % m = a + 1) ∨ (a + 1 = m ∧ (a + 1) % m = 0) := by
  by_cases h : a + 1 < m
  · exact .inl ⟨h, Int.emod_eq_of_lt (by omega) h⟩
  · have : a + 1 = m := by omega
    exact .inr ⟨this, by rw [this]; exact Int.emod_self⟩

theorem half_cases {a c : Int} (ha : 0 ≤ a ∧ a < 2 * c) : (a < c ∧ a % c = a) ∨ (c ≤ a ∧ a % c = a - c) := by
  by_cases h : a < c
  · exact .inl ⟨h, Int.emod_eq_of_lt ha.1 h⟩
  · refine .inr ⟨by omega, ?_⟩
    rw [← Int.sub_emod_right]
    exact Int.emod_eq_of_lt (by omega) (by omega)

theorem third_cases {a c : Int} (ha : 0 ≤ a ∧ a < 3 * c) : (a < c ∧ a % c = a) ∨ (c ≤ a ∧ a < 2 * c ∧ a % c = a - c) ∨ (2 * c ≤ a ∧ a % c = a - 2 * c) := by
  by_cases h : a < 2 * c
  · rcases half_cases ⟨ha.1, h⟩ with h | h
    · exact .inl h
    · exact .inr (.inl ⟨h.1, by omega, h.2⟩)
  · refine .inr (.inr ⟨by omega, ?_⟩)
    rw [← Int.sub_emod_right, ← Int.sub_emod_right]
    rw [show a - c - c = a - 2 * c by omega]
    exact Int.emod_eq_of_lt (by omega) (by omega)

/-- A valid queue. -/
structure Fi.good (x : Fi) : Prop extends x.ok where
  behind : x.mn x.wr x.rd + x.mn x.rd x.t0 + x.mn x.t0 x.t1 ≤ x.cap
  unseen : x.mn x.wr x.s0 + x.mn x.s0 x.s1 ≤ x.mn x.wr x.rd

instance (x : Fi) : Decidable x.ok := decidable_of_iff ((1 ≤ x.cap ∧ x.cap ≤ 8) ∧ (x.ws.length : Int) = x.cap ∧ (0 ≤ x.wr ∧ x.wr < 2 * x.cap) ∧ (0 ≤ x.rd ∧ x.rd < 2 * x.cap) ∧ (0 ≤ x.s0 ∧ x.s0 < 2 * x.cap) ∧ (0 ≤ x.s1 ∧ x.s1 < 2 * x.cap) ∧ (0 ≤ x.t0 ∧ x.t0 < 2 * x.cap) ∧ (0 ≤ x.t1 ∧ x.t1 < 2 * x.cap))
  ⟨fun ⟨a, b, c, d, e, f, g, h⟩ => ⟨a, b, c, d, e, f, g, h⟩, fun ⟨a, b, c, d, e, f, g, h⟩ => ⟨a, b, c, d, e, f, g, h⟩⟩
instance (x : Fi) : Decidable x.good := decidable_of_iff (x.ok ∧ x.mn x.wr x.rd + x.mn x.rd x.t0 + x.mn x.t0 x.t1 ≤ x.cap ∧ x.mn x.wr x.s0 + x.mn x.s0 x.s1 ≤ x.mn x.wr x.rd)
  ⟨fun ⟨a, b, c⟩ => ⟨a, b, c⟩, fun ⟨a, b, c⟩ => ⟨a, b, c⟩⟩

def Fi.room (x : Fi) : Bool := x.mn x.wr x.t1 != x.cap
def Fi.has (x : Fi) : Bool := x.s1 != x.rd
def Fi.len (x : Fi) : Nat := (x.mn x.wr x.rd).toNat
def Fi.word (x : Fi) (i : Nat) : Int := x.ws[((x.rd + i) % x.cap).toNat]?.getD 0
def Fi.words (x : Fi) : List Int := (List.range x.len).map x.word
def Fi.write (x : Fi) (has : Bool) (w : Int) : Fi :=
  if has && x.room then { x with ws := x.ws.set (x.wr % x.cap).toNat w, wr := (x.wr + 1) % (2 * x.cap), t0 := x.rd, t1 := x.t0 } else { x with t0 := x.rd, t1 := x.t0 }
def Fi.read (x : Fi) (takes : Bool) : Fi := if takes && x.has then { x with rd := (x.rd + 1) % (2 * x.cap), s0 := x.wr, s1 := x.s0 } else { x with s0 := x.wr, s1 := x.s0 }
/-- What a reader takes. -/
def Fi.taken (x : Fi) (takes : Bool) : List Int := if takes && x.has then [x.word 0] else []

theorem Fi.mn_self (x : Fi) (a : Int) : x.mn a a = 0 := by simp [Fi.mn]

theorem Fi.good.len_eq {x : Fi} (h : x.good) : (x.len : Int) = x.mn x.wr x.rd ∧ (x.len : Int) ≤ x.cap := by
  obtain ⟨⟨hc, hl, hw, hr, hs0, hs1, ht0, ht1⟩, hb, hu⟩ := h
  unfold Fi.len
  have := x.mnC hw hr
  have := x.mnC hr ht0
  have := x.mnC ht0 ht1
  omega

theorem Fi.good.room_iff {x : Fi} (h : x.good) : x.room = true ↔ x.mn x.wr x.rd + x.mn x.rd x.t0 + x.mn x.t0 x.t1 < x.cap := by
  obtain ⟨⟨hc, hl, hw, hr, hs0, hs1, ht0, ht1⟩, hb, hu⟩ := h
  unfold Fi.room
  simp only [bne_iff_ne, ne_eq]
  have := x.mnC hw hr
  have := x.mnC hr ht0
  have := x.mnC ht0 ht1
  have := x.mnC hw ht1
  omega

theorem Fi.good.has_iff {x : Fi} (h : x.good) : x.has = true ↔ x.mn x.wr x.s0 + x.mn x.s0 x.s1 < x.mn x.wr x.rd := by
  obtain ⟨⟨hc, hl, hw, hr, hs0, hs1, ht0, ht1⟩, hb, hu⟩ := h
  unfold Fi.has
  simp only [bne_iff_ne, ne_eq]
  have := x.mnC hw hr
  have := x.mnC hw hs0
  have := x.mnC hs0 hs1
  have := x.mnC hr ht0
  have := x.mnC ht0 ht1
  omega

theorem Fi.good.room_lt {x : Fi} (h : x.good) (hr : x.room = true) : (x.len : Int) < x.cap := by
  have h1 := h.room_iff.1 hr
  have h2 := h.len_eq
  obtain ⟨⟨hc, hl, hw, hr, hs0, hs1, ht0, ht1⟩, hb, hu⟩ := h
  have := x.mnC hr ht0
  have := x.mnC ht0 ht1
  omega

theorem Fi.good.has_pos {x : Fi} (h : x.good) (hr : x.has = true) : 0 < x.len := by
  have h1 := h.has_iff.1 hr
  have h2 := h.len_eq
  obtain ⟨⟨hc, hl, hw, hr, hs0, hs1, ht0, ht1⟩, hb, hu⟩ := h
  have := x.mnC hw hs0
  have := x.mnC hs0 hs1
  omega

theorem Fi.write_good {x : Fi} (h : x.good) (has : Bool) (w : Int) : (x.write has w).good := by
  have hri := h.room_iff
  obtain ⟨⟨hc, hl, hw, hr, hs0, hs1, ht0, ht1⟩, hb, hu⟩ := h
  unfold Fi.write
  have m1 := x.mnC hw hr
  have m2 := x.mnC hr ht0
  have m3 := x.mnC ht0 ht1
  have m4 := x.mnC hw hs0
  have m5 := x.mnC hs0 hs1
  split
  · rename_i hc1
    simp only [Bool.and_eq_true] at hc1
    have h1 := hri.1 hc1.2
    have sc := succ_cases hw
    have hw' : 0 ≤ (x.wr + 1) % (2 * x.cap) ∧ (x.wr + 1) % (2 * x.cap) < 2 * x.cap := by omega
    have n1 := x.mnC hw' hr
    have n2 := x.mnC hw' hs0
    have n0 := x.mn_self x.rd
    refine ⟨⟨hc, by simpa using hl, hw', hr, hs0, hs1, hr, ht0⟩, ?_, ?_⟩
    · show x.mn ((x.wr + 1) % (2 * x.cap)) x.rd + x.mn x.rd x.rd + x.mn x.rd x.t0 ≤ x.cap
      omega
    · show x.mn ((x.wr + 1) % (2 * x.cap)) x.s0 + x.mn x.s0 x.s1 ≤ x.mn ((x.wr + 1) % (2 * x.cap)) x.rd
      omega
  · have n0 := x.mn_self x.rd
    refine ⟨⟨hc, hl, hw, hr, hs0, hs1, hr, ht0⟩, ?_, hu⟩
    show x.mn x.wr x.rd + x.mn x.rd x.rd + x.mn x.rd x.t0 ≤ x.cap
    omega

theorem Fi.read_good {x : Fi} (h : x.good) (takes : Bool) : (x.read takes).good := by
  have hri := h.has_iff
  obtain ⟨⟨hc, hl, hw, hr, hs0, hs1, ht0, ht1⟩, hb, hu⟩ := h
  unfold Fi.read
  have m1 := x.mnC hw hr
  have m2 := x.mnC hr ht0
  have m3 := x.mnC ht0 ht1
  have m4 := x.mnC hw hs0
  have m5 := x.mnC hs0 hs1
  have n0 := x.mn_self x.wr
  split
  · rename_i hc1
    simp only [Bool.and_eq_true] at hc1
    have h1 := hri.1 hc1.2
    have sc := succ_cases hr
    have hr' : 0 ≤ (x.rd + 1) % (2 * x.cap) ∧ (x.rd + 1) % (2 * x.cap) < 2 * x.cap := by omega
    have n1 := x.mnC hw hr'
    have n2 := x.mnC hr' ht0
    refine ⟨⟨hc, hl, hw, hr', hw, hs0, ht0, ht1⟩, ?_, ?_⟩
    · show x.mn x.wr ((x.rd + 1) % (2 * x.cap)) + x.mn ((x.rd + 1) % (2 * x.cap)) x.t0 + x.mn x.t0 x.t1 ≤ x.cap
      omega
    · show x.mn x.wr x.wr + x.mn x.wr x.s0 ≤ x.mn x.wr ((x.rd + 1) % (2 * x.cap))
      omega
  · refine ⟨⟨hc, hl, hw, hr, hw, hs0, ht0, ht1⟩, hb, ?_⟩
    show x.mn x.wr x.wr + x.mn x.wr x.s0 ≤ x.mn x.wr x.rd
    omega

theorem Fi.words_length (x : Fi) : x.words.length = x.len := by simp [Fi.words]

theorem Fi.words_write {x : Fi} (h : x.good) (has : Bool) (w : Int) : (x.write has w).words = x.words ++ if has && x.room then [w] else [] := by
  have hlen := h.len_eq
  by_cases hc1 : (has && x.room) = true
  · have hlt := h.room_lt (by simp_all)
    obtain ⟨⟨hc, hl, hw, hr, hs0, hs1, ht0, ht1⟩, hb, hu⟩ := h
    have m1 := x.mnC hw hr
    have sc := succ_cases hw
    have hw' : 0 ≤ (x.wr + 1) % (2 * x.cap) ∧ (x.wr + 1) % (2 * x.cap) < 2 * x.cap := by omega
    have n1 := x.mnC hw' hr
    have hl' : ({ x with ws := x.ws.set (x.wr % x.cap).toNat w, wr := (x.wr + 1) % (2 * x.cap), t0 := x.rd, t1 := x.t0 } : Fi).len = x.len + 1 := by
      unfold Fi.len
      show (x.mn ((x.wr + 1) % (2 * x.cap)) x.rd).toNat = (x.mn x.wr x.rd).toNat + 1
      omega
    unfold Fi.write
    rw [if_pos hc1, if_pos hc1]
    unfold Fi.words
    rw [hl', List.range_succ, List.map_append]
    congr 1
    · refine List.map_congr_left fun i hi => ?_
      have hi' : i < x.len := by simpa using hi
      unfold Fi.word
      simp only
      have t1 := third_cases (a := x.rd + i) (c := x.cap) (by omega)
      have t2 := half_cases hw
      rw [List.getElem?_set_ne (by omega)]
    · simp only [List.map_cons, List.map_nil, List.cons.injEq, and_true]
      unfold Fi.word
      simp only
      have t1 := third_cases (a := x.rd + x.len) (c := x.cap) (by omega)
      have t2 := half_cases hw
      have e : ((x.rd + x.len) % x.cap).toNat = (x.wr % x.cap).toNat := by omega
      rw [e, List.getElem?_set_self (by omega)]
      rfl
  · unfold Fi.write
    rw [if_neg hc1, if_neg hc1, List.append_nil]
    rfl

theorem Fi.words_read {x : Fi} (h : x.good) (takes : Bool) : x.words = x.taken takes ++ (x.read takes).words := by
  have hlen := h.len_eq
  unfold Fi.taken
  by_cases hc1 : (takes && x.has) = true
  · have hlt := h.has_pos (by simp_all)
    obtain ⟨⟨hc, hl, hw, hr, hs0, hs1, ht0, ht1⟩, hb, hu⟩ := h
    have m1 := x.mnC hw hr
    have sc := succ_cases hr
    have hr' : 0 ≤ (x.rd + 1) % (2 * x.cap) ∧ (x.rd + 1) % (2 * x.cap) < 2 * x.cap := by omega
    have n1 := x.mnC hw hr'
    have hl' : x.len = ({ x with rd := (x.rd + 1) % (2 * x.cap), s0 := x.wr, s1 := x.s0 } : Fi).len + 1 := by
      unfold Fi.len
      show (x.mn x.wr x.rd).toNat = (x.mn x.wr ((x.rd + 1) % (2 * x.cap))).toNat + 1
      omega
    unfold Fi.read
    rw [if_pos hc1, if_pos hc1]
    unfold Fi.words
    rw [hl', List.range_succ_eq_map, List.map_cons, List.map_map]
    show _ :: _ = _ :: _
    congr 1
    refine List.map_congr_left fun i hi => ?_
    have hi' : i < ({ x with rd := (x.rd + 1) % (2 * x.cap), s0 := x.wr, s1 := x.s0 } : Fi).len := by simpa using hi
    show x.word (i + 1) = _
    unfold Fi.word
    simp only
    have t1 := third_cases (a := x.rd + (i + 1 : Nat)) (c := x.cap) (by omega)
    have t2 := third_cases (a := (x.rd + 1) % (2 * x.cap) + i) (c := x.cap) (by omega)
    have e : ((x.rd + (i + 1 : Nat)) % x.cap).toNat = (((x.rd + 1) % (2 * x.cap) + i) % x.cap).toNat := by omega
    rw [e]
  · unfold Fi.read
    rw [if_neg hc1, if_neg hc1, List.nil_append]
    rfl

/-! ### Many ticks -/

/-- A tick of either side. -/
theorem Fi.has_write (x : Fi) (has : Bool) (w : Int) : (x.write has w).has = x.has := by unfold Fi.write; split <;> rfl
theorem Fi.room_read (x : Fi) (takes : Bool) : (x.read takes).room = x.room := by unfold Fi.read; split <;> rfl
theorem Fi.word0_write {x : Fi} (h : x.good) (has : Bool) (w : Int) (hh : x.has = true) : (x.write has w).word 0 = x.word 0 := by
  have h1 := Fi.words_write h has w
  have hp := h.has_pos hh
  have hlen : x.words.length = x.len := x.words_length
  have e1 : x.words[0]? = some (x.word 0) := by
    unfold Fi.words
    simp [hp]
  have hl2 : 0 < (x.write has w).len := by
    rw [← Fi.words_length, h1]
    simp
    omega
  have e2 : (x.write has w).words[0]? = some ((x.write has w).word 0) := by
    unfold Fi.words
    simp [hl2]
  rw [h1, List.getElem?_append_left (by omega), e1] at e2
  exact (Option.some.inj e2).symm

theorem Fi.words_indep {x : Fi} (h : x.good) (hs : Bool) (w : Int) (tk : Bool) : ((x.write hs w).read tk).words = ((x.read tk).write hs w).words := by
  have a1 := Fi.words_read (Fi.write_good h hs w) tk
  have a2 := Fi.words_write h hs w
  have b1 := Fi.words_write (Fi.read_good h tk) hs w
  have b2 := Fi.words_read h tk
  have et : (x.write hs w).taken tk = x.taken tk := by
    unfold Fi.taken
    rw [Fi.has_write]
    by_cases hh : (tk && x.has) = true
    · rw [if_pos hh, if_pos hh, Fi.word0_write h hs w (by simp_all)]
    · rw [if_neg hh, if_neg hh]
  rw [a2, et, b2, List.append_assoc] at a1
  rw [b1, Fi.room_read]
  exact (List.append_cancel_left a1).symm

/-- A byte says which tick. -/
def Fi.tick (f : Fi) (b i : Int) : Fi := if b % 2 = 0 then f.write (b / 2 % 2 == 0) (b / 4 + i) else f.read (b / 2 % 2 == 0)
def Fi.ticks (f : Fi) (l : List Int) : Nat → Fi
  | 0 => f
  | i + 1 => (f.ticks l i).tick (l[i]?.getD 0) i
/-- An empty queue. -/
def Fi.new (n : Int) : Fi := ⟨n, List.replicate n.toNat 0, 0, 0, 0, 0, 0, 0⟩
def Fi.none : Fi := ⟨0, [], 0, 0, 0, 0, 0, 0⟩
def Fi.worn (c : Int) (l : List Int) : Fi := (Fi.new (1 + c % 8)).ticks l l.length
theorem Fi.new_good {n : Int} (h : 1 ≤ n ∧ n ≤ 8) : (Fi.new n).good := by
  refine ⟨⟨h, by simp [Fi.new]; omega, ?_, ?_, ?_, ?_, ?_, ?_⟩, ?_, ?_⟩
  all_goals
    simp only [Fi.new, Fi.mn_self]
    omega
theorem Fi.ticks_good {f : Fi} (h : f.good) (l : List Int) : ∀ i, (f.ticks l i).good
  | 0 => h
  | i + 1 => by
    have := Fi.ticks_good h l i
    simp only [Fi.ticks]
    unfold Fi.tick
    split
    · exact Fi.write_good this _ _
    · exact Fi.read_good this _
theorem Fi.worn_good {c : Int} (h : 0 ≤ c) (l : List Int) : (Fi.worn c l).good := Fi.ticks_good (Fi.new_good (by omega)) l _
/-! ### Taking all words -/
def Fi.drain (f : Fi) : Nat → Fi
  | 0 => f
  | k + 1 => (f.drain k).read true
def Fi.drained (f : Fi) : Nat → List Int
  | 0 => []
  | k + 1 => f.drained k ++ (f.drain k).taken true
theorem Fi.drain_good {f : Fi} (h : f.good) : ∀ k, (f.drain k).good
  | 0 => h
  | k + 1 => Fi.read_good (Fi.drain_good h k) true
theorem Fi.drain_words {f : Fi} (h : f.good) : ∀ k, f.words = f.drained k ++ (f.drain k).words
  | 0 => by simp [Fi.drained, Fi.drain]
  | k + 1 => by
    have := Fi.words_read (Fi.drain_good h k) true
    rw [Fi.drain_words h k, Fi.drained, Fi.drain, List.append_assoc, ← this]
theorem Fi.read_sees (x : Fi) (t : Bool) : (x.read t).wr = x.wr ∧ (x.read t).s0 = x.wr ∧ (x.read t).s1 = x.s0 := by unfold Fi.read; split <;> exact ⟨rfl, rfl, rfl⟩
theorem Fi.len_read {x : Fi} (h : x.good) (t : Bool) : x.len = (x.taken t).length + (x.read t).len := by
  have := congrArg List.length (Fi.words_read h t)
  simpa [Fi.words_length] using this
theorem Fi.drain_sees (f : Fi) (k : Nat) : (f.drain (k + 2)).s1 = (f.drain (k + 2)).wr := by
  have h1 := (f.drain k).read_sees true
  have h2 := ((f.drain k).read true).read_sees true
  show (((f.drain k).read true).read true).s1 = (((f.drain k).read true).read true).wr
  rw [h2.2.2, h2.1, h1.2.1, h1.1]
theorem Fi.drain_len {f : Fi} (h : f.good) : ∀ k, (f.drain (k + 2)).len ≤ f.len - k
  | 0 => by
    have h1 := Fi.len_read (Fi.drain_good h 0) true
    have h2 := Fi.len_read (Fi.drain_good h 1) true
    show (f.drain 2).len ≤ f.len - 0
    have e1 : (f.drain 0) = f := rfl
    have e2 : (f.drain 0).read true = f.drain 1 := rfl
    have e3 : (f.drain 1).read true = f.drain 2 := rfl
    rw [e2, e1] at h1
    rw [e3] at h2
    omega
  | k + 1 => by
    have ih := Fi.drain_len h k
    have hg := Fi.drain_good h (k + 2)
    have h1 := Fi.len_read hg true
    have e3 : (f.drain (k + 2)).read true = f.drain (k + 1 + 2) := rfl
    rw [e3] at h1
    by_cases h0 : (f.drain (k + 2)).len = 0
    · omega
    · have hs := f.drain_sees k
      have hl := hg.len_eq
      have hh : (f.drain (k + 2)).has = true := by
        unfold Fi.has
        rw [hs]
        simp only [bne_iff_ne, ne_eq]
        intro e
        rw [e, Fi.mn_self] at hl
        omega
      have : ((f.drain (k + 2)).taken true).length = 1 := by simp [Fi.taken, hh]
      omega
theorem Fi.drain_end {f : Fi} (h : f.good) : (f.drain (f.len + 2)).len = 0 ∧ (f.drain (f.len + 2)).has = false ∧ f.drained (f.len + 2) = f.words := by
  have h1 := Fi.drain_len h f.len
  have h0 : (f.drain (f.len + 2)).len = 0 := by omega
  have hg := Fi.drain_good h (f.len + 2)
  have hw := Fi.drain_words h (f.len + 2)
  have hw0 : (f.drain (f.len + 2)).words = [] := List.eq_nil_of_length_eq_zero (by rw [Fi.words_length]; exact h0)
  refine ⟨h0, ?_, by rw [hw, hw0, List.append_nil]⟩
  cases hh : (f.drain (f.len + 2)).has with
  | false => rfl
  | true => have := hg.has_pos hh; omega
/-! ### What a side sees in the end -/
structure Fi.PA (n i : Nat) (a : Fi) : Prop where
  good : a.good
  w : (n : Int) ≤ a.mn a.wr a.rd
  s0 : 2 ≤ i → (n : Int) ≤ a.mn a.s0 a.rd
  s1 : 4 ≤ i → (n : Int) ≤ a.mn a.s1 a.rd
structure Fi.PB (c : Int) (n i : Nat) (b : Fi) : Prop where
  good : b.good
  cap : b.cap = c
  w : b.mn b.wr b.rd ≤ n
  t0 : 2 ≤ i → b.mn b.wr b.t0 ≤ n
  t1 : 4 ≤ i → b.mn b.wr b.t1 ≤ n
theorem Fi.PA.same {n i : Nat} {a : Fi} (h : a.PA n i) (hi : i % 2 = 0) : a.PA n (i + 1) := ⟨h.good, h.w, fun h2 => h.s0 (by omega), fun h2 => h.s1 (by omega)⟩
theorem Fi.PB.same {c : Int} {n i : Nat} {a : Fi} (h : a.PB c n i) (hi : i % 2 = 0) : a.PB c n (i + 1) := ⟨h.good, h.cap, h.w, fun h2 => h.t0 (by omega), fun h2 => h.t1 (by omega)⟩
theorem Fi.PA.write {n i : Nat} {a : Fi} (h : a.PA n i) (hi : i % 2 = 0) (b : Bool) (w : Int) : (a.write b w).PA n (i + 1) := by
  have hg := Fi.write_good h.good b w
  have h1 := h.good.len_eq
  have h2 := hg.len_eq
  have h3 := congrArg List.length (Fi.words_write h.good b w)
  simp only [List.length_append, Fi.words_length] at h3
  have e : (a.write b w).rd = a.rd ∧ (a.write b w).s0 = a.s0 ∧ (a.write b w).s1 = a.s1 ∧ (a.write b w).cap = a.cap := by unfold Fi.write; split <;> exact ⟨rfl, rfl, rfl, rfl⟩
  have hmn : ∀ x y, (a.write b w).mn x y = a.mn x y := fun x y => by unfold Fi.mn; rw [e.2.2.2]
  have := h.w
  refine ⟨hg, by omega, fun h2 => ?_, fun h2 => ?_⟩
  · rw [hmn, e.1, e.2.1]; exact h.s0 (by omega)
  · rw [hmn, e.1, e.2.2.1]; exact h.s1 (by omega)
theorem Fi.PA.read {n i : Nat} {a : Fi} (h : a.PA n i) (hi : i % 2 = 1) : (a.read false).PA n (i + 1) := by
  have hg := Fi.read_good h.good false
  have e : a.read false = { a with s0 := a.wr, s1 := a.s0 } := by unfold Fi.read; rfl
  rw [e] at hg ⊢
  exact ⟨hg, h.w, fun _ => h.w, fun _ => h.s0 (by omega)⟩
theorem Fi.PB.write {c : Int} {n i : Nat} {a : Fi} (h : a.PB c n i) (hi : i % 2 = 1) : (a.write false 0).PB c n (i + 1) := by
  have hg := Fi.write_good h.good false 0
  have e : a.write false 0 = { a with t0 := a.rd, t1 := a.t0 } := by unfold Fi.write; rfl
  rw [e] at hg ⊢
  exact ⟨hg, h.cap, h.w, fun _ => h.w, fun _ => h.t0 (by omega)⟩
theorem Fi.PB.read {c : Int} {n i : Nat} {a : Fi} (h : a.PB c n i) (hi : i % 2 = 0) (b : Bool) : (a.read b).PB c n (i + 1) := by
  have hg := Fi.read_good h.good b
  have h1 := h.good.len_eq
  have h2 := hg.len_eq
  have h3 := Fi.len_read h.good b
  have e : (a.read b).wr = a.wr ∧ (a.read b).t0 = a.t0 ∧ (a.read b).t1 = a.t1 ∧ (a.read b).cap = a.cap := by unfold Fi.read; split <;> exact ⟨rfl, rfl, rfl, rfl⟩
  have hmn : ∀ x y, (a.read b).mn x y = a.mn x y := fun x y => by unfold Fi.mn; rw [e.2.2.2]
  have := h.w
  refine ⟨hg, by rw [e.2.2.2]; exact h.cap, by omega, fun h2 => ?_, fun h2 => ?_⟩
  · rw [hmn, e.1, e.2.1]; exact h.t0 (by omega)
  · rw [hmn, e.1, e.2.2.1]; exact h.t1 (by omega)
theorem Fi.PA.start {f : Fi} (h : f.good) : f.PA f.len 0 := ⟨h, by have := h.len_eq; omega, fun h => by omega, fun h => by omega⟩
theorem Fi.PB.start {f : Fi} (h : f.good) : f.PB f.cap f.len 0 := ⟨h, rfl, by have := h.len_eq; omega, fun h => by omega, fun h => by omega⟩
theorem Fi.PA.has {n : Nat} {a : Fi} (h : a.PA n 4) (hn : n ≠ 0) : a.has = true := by
  have := h.s1 (by omega)
  unfold Fi.has
  simp only [bne_iff_ne, ne_eq]
  intro e
  rw [e, Fi.mn_self] at this
  omega
theorem Fi.PB.room {c : Int} {n : Nat} {a : Fi} (h : a.PB c n 4) (hn : (n : Int) < c) : a.room = true := by
  have := h.t1 (by omega)
  unfold Fi.room
  simp only [bne_iff_ne, ne_eq]
  have := h.cap
  omega
end Go.Proofs

namespace Go.Proofs
open Go.V IntWalk
set_option maxRecDepth 100000
set_option linter.unusedSimpArgs false

@[simp] def Fi.c (x : Fi) : List C := [.d (.s (.int .i64 x.cap)), .d (dL x.ws), .d (.s (.int .i64 x.wr)), .d (.s (.int .i64 x.rd)), .d (.s (.int .i64 x.s0)), .d (.s (.int .i64 x.s1)), .d (.s (.int .i64 x.t0)), .d (.s (.int .i64 x.t1))]

theorem tmod_ring {x m : Int} (hm : 0 < m) (h : -m < x ∧ x < m) : x.tmod m = x := by
  rcases Int.le_total 0 x with hx | hx
  · rw [Int.tmod_eq_emod_of_nonneg hx, Int.emod_eq_of_lt hx h.2]
  · obtain ⟨y, rfl⟩ : ∃ y, x = -y := ⟨-x, by omega⟩
    rw [Int.neg_tmod, Int.tmod_eq_emod_of_nonneg (by omega), Int.emod_eq_of_lt (by omega) (by omega)]

theorem ring_within_S (r p : Int) (hr : 1 ≤ r ∧ r ≤ 8) :
    FSpec Try.prog 54 [tI .i64 r, tI .i64 p] [] (tB (decide (0 ≤ p) && decide (p < 2 * r))) [] := by
  refine fspec_intro Try.func54 (by kernel_rfl) rfl Try.vtOK rfl Try.ntmps54 (by simp) ?_
  refine awp_seq' fun k hk => awp_region (et := Try.et) Try.vtOK Try.etOK ?_
  simp (maxSteps := 5000000) (disch := first | (intro _; intros; contradiction) | omega) [i64_in, u8_in, vgd_t, vgd_f, wgd_t, wgd_f]
  (refine hk _ ?_; clear hk)
  refine awp_seq' fun k hk => awp_region (et := Try.et) Try.vtOK Try.etOK ?_
  simp (maxSteps := 5000000) (disch := first | (intro _; intros; contradiction) | omega) [i64_in, u8_in, vgd_t, vgd_f, wgd_t, wgd_f]
  refine ⟨fun h => hk _ ?_, fun h => hk _ ?_⟩
  · refine awp_ret ⟨.inr rfl, ?_⟩
    simp [h]
  · refine awp_ret ⟨.inr rfl, ?_⟩
    have : ¬ 0 ≤ p := by omega
    simp [this]

theorem ring_minus_S (r a b : Int) (hr : 1 ≤ r ∧ r ≤ 8) (ha : 0 ≤ a ∧ a < 2 * r) (hb : 0 ≤ b ∧ b < 2 * r) :
    FSpec Try.prog 55 [tI .i64 r, tI .i64 a, tI .i64 b] [] (tI .i64 ((a - b) % (2 * r))) [] := by
  refine fspec_intro Try.func55 (by kernel_rfl) rfl Try.vtOK rfl Try.ntmps55 (by simp) ?_
  refine awp_seq' fun k hk => awp_region (et := Try.et) Try.vtOK Try.etOK ?_
  simp (maxSteps := 5000000) (disch := first | (intro _; intros; contradiction) | omega) [i64_in, u8_in, vgd_t, vgd_f, wgd_t, wgd_f]
  (refine hk _ ?_; clear hk)
  refine awp_seq' fun k hk => awp_region (et := Try.et) Try.vtOK Try.etOK ?_
  simp (maxSteps := 5000000) (disch := first | (intro _; intros; contradiction) | omega) [i64_in, u8_in, vgd_t, vgd_f, wgd_t, wgd_f, tmod_ring]
  refine ⟨by omega, hk _ ?_⟩
  refine awp_ret ⟨.inr rfl, ?_⟩
  simp
  rw [Int.tmod_eq_emod_of_nonneg (by omega)]
  simp
end Go.Proofs

namespace Go.Proofs
open Go.V IntWalk
set_option maxRecDepth 100000
set_option linter.unusedSimpArgs false
set_option linter.unusedVariables false

theorem fifo_length_S (x : Fi) (hr : 1 ≤ x.cap ∧ x.cap ≤ 8) (ha : 0 ≤ x.wr ∧ x.wr < 2 * x.cap) (hb : 0 ≤ x.rd ∧ x.rd < 2 * x.cap) :
    FSpec Try.prog 56 [.agg x.c] [] (tI .i64 ((x.wr - x.rd) % (2 * x.cap))) [] := by
  refine fspec_intro Try.func56 (by kernel_rfl) rfl Try.vtOK rfl Try.ntmps56 (by simp) ?_
  refine awp_seq' fun k hk => awp_region (et := Try.et) Try.vtOK Try.etOK ?_
  simp (maxSteps := 5000000) (disch := first | (intro _; intros; contradiction) | omega) [i64_in, u8_in, vgd_t, vgd_f, wgd_t, wgd_f]
  (refine hk _ ?_; clear hk)
  refine awp_seq' fun k hk => awp_region (et := Try.et) Try.vtOK Try.etOK ?_
  simp (maxSteps := 5000000) (disch := first | (intro _; intros; contradiction) | omega) [i64_in, u8_in, vgd_t, vgd_f, wgd_t, wgd_f]
  refine vcall_fn rfl (by simp) (LeTs.refl _) (ring_minus_S _ _ _ hr ha hb) ?_
  simp (maxSteps := 5000000) (disch := first | (intro _; intros; contradiction) | omega) [i64_in, u8_in, vgd_t, vgd_f, wgd_t, wgd_f]
  (refine hk _ ?_; clear hk)
  refine awp_ret ⟨.inr rfl, ?_⟩
  simp
end Go.Proofs

namespace Go.Proofs
open Go.V IntWalk
set_option maxRecDepth 100000
set_option linter.unusedSimpArgs false
set_option linter.unusedVariables false

theorem ref43_Minus_S (x : Fi) (a b : Int) (hr : 1 ≤ x.cap ∧ x.cap ≤ 8) (ha : 0 ≤ a ∧ a < 2 * x.cap) (hb : 0 ≤ b ∧ b < 2 * x.cap) :
    FSpec Try.prog 58 [.agg x.c, tI .i64 a, tI .i64 b] [] (tI .i64 ((a - b) % (2 * x.cap))) [] := by
  refine fspec_intro Try.func58 (by kernel_rfl) rfl Try.vtOK rfl Try.ntmps58 (by simp) ?_
  refine awp_seq' fun k hk => awp_region (et := Try.et) Try.vtOK Try.etOK ?_
  simp (maxSteps := 5000000) (disch := first | (intro _; intros; contradiction) | omega) [i64_in, u8_in, vgd_t, vgd_f, wgd_t, wgd_f]
  (refine hk _ ?_; clear hk)
  refine awp_seq' fun k hk => awp_region (et := Try.et) Try.vtOK Try.etOK ?_
  simp (maxSteps := 5000000) (disch := first | (intro _; intros; contradiction) | omega) [i64_in, u8_in, vgd_t, vgd_f, wgd_t, wgd_f]
  refine ⟨by omega, ?_⟩
  (refine hk _ ?_; clear hk)
  refine awp_ret ⟨.inr rfl, ?_⟩
  simp
  rw [Int.tmod_eq_emod_of_nonneg (by omega)]
  simp

theorem ref43_Len_S (x : Fi) (h : x.ok) : FSpec Try.prog 57 [.agg x.c] [] (tI .i64 ((x.wr - x.rd) % (2 * x.cap))) [] := by
  refine fspec_intro Try.func57 (by kernel_rfl) rfl Try.vtOK rfl Try.ntmps57 (by simp) ?_
  refine awp_seq' fun k hk => awp_region (et := Try.et) Try.vtOK Try.etOK ?_
  simp (maxSteps := 5000000) (disch := first | (intro _; intros; contradiction) | omega) [i64_in, u8_in, vgd_t, vgd_f, wgd_t, wgd_f]
  (refine hk _ ?_; clear hk)
  refine awp_seq' fun k hk => awp_region (et := Try.et) Try.vtOK Try.etOK ?_
  simp (maxSteps := 5000000) (disch := first | (intro _; intros; contradiction) | omega) [i64_in, u8_in, vgd_t, vgd_f, wgd_t, wgd_f]
  refine vcall_fn rfl (by simp) (LeTs.refl _) (ref43_Minus_S x _ _ h.cap h.wr h.rd) ?_
  simp (maxSteps := 5000000) (disch := first | (intro _; intros; contradiction) | omega) [i64_in, u8_in, vgd_t, vgd_f, wgd_t, wgd_f]
  (refine hk _ ?_; clear hk)
  refine awp_ret ⟨.inr rfl, ?_⟩
  simp

theorem fifo_Room_S (x : Fi) (h : x.ok) : FSpec Try.prog 25 [.agg x.c] [] (tB ((x.wr - x.t1) % (2 * x.cap) != x.cap)) [] := by
  refine fspec_intro Try.func25 (by kernel_rfl) rfl Try.vtOK rfl Try.ntmps25 (by simp) ?_
  refine awp_seq' fun k hk => awp_region (et := Try.et) Try.vtOK Try.etOK ?_
  simp (maxSteps := 5000000) (disch := first | (intro _; intros; contradiction) | omega) [i64_in, u8_in, vgd_t, vgd_f, wgd_t, wgd_f]
  (refine hk _ ?_; clear hk)
  refine awp_seq' fun k hk => awp_region_draw (et := Try.et) Try.mixed Try.vtOK Try.etOK ?_
  simp (maxSteps := 5000000) (disch := first | (intro _; intros; contradiction) | omega) [i64_in, u8_in, vgd_t, vgd_f, wgd_t, wgd_f]
  refine wcall_fn rfl (by simp) (LeTs.refl _) (ring_minus_S _ _ _ h.cap h.wr h.t1) ?_
  simp (maxSteps := 5000000) (disch := first | (intro _; intros; contradiction) | omega) [i64_in, u8_in, vgd_t, vgd_f, wgd_t, wgd_f]
  refine ⟨by kernel_rfl, ?_⟩
  (refine hk _ ?_; clear hk)
  refine awp_ret ⟨.inr rfl, ?_⟩
  simp

theorem ref43_Room_S (x : Fi) (h : x.ok) : FSpec Try.prog 26 [.agg x.c] [] (tB ((x.wr - x.t1) % (2 * x.cap) != x.cap)) [] := by
  refine fspec_intro Try.func26 (by kernel_rfl) rfl Try.vtOK rfl Try.ntmps26 (by simp) ?_
  refine awp_seq' fun k hk => awp_region (et := Try.et) Try.vtOK Try.etOK ?_
  simp (maxSteps := 5000000) (disch := first | (intro _; intros; contradiction) | omega) [i64_in, u8_in, vgd_t, vgd_f, wgd_t, wgd_f]
  (refine hk _ ?_; clear hk)
  refine awp_seq' fun k hk => awp_region_draw (et := Try.et) Try.mixed Try.vtOK Try.etOK ?_
  simp (maxSteps := 5000000) (disch := first | (intro _; intros; contradiction) | omega) [i64_in, u8_in, vgd_t, vgd_f, wgd_t, wgd_f]
  refine wcall_fn rfl (by simp) (LeTs.refl _) (ref43_Minus_S x _ _ h.cap h.wr h.t1) ?_
  simp (maxSteps := 5000000) (disch := first | (intro _; intros; contradiction) | omega) [i64_in, u8_in, vgd_t, vgd_f, wgd_t, wgd_f]
  refine ⟨by kernel_rfl, ?_⟩
  (refine hk _ ?_; clear hk)
  refine awp_ret ⟨.inr rfl, ?_⟩
  simp

theorem fifo_Has_S (x : Fi) : FSpec Try.prog 27 [.agg x.c] [] (tB (x.s1 != x.rd)) [] := by
  refine fspec_intro Try.func27 (by kernel_rfl) rfl Try.vtOK rfl Try.ntmps27 (by simp) ?_
  refine awp_seq' fun k hk => awp_region (et := Try.et) Try.vtOK Try.etOK ?_
  simp (maxSteps := 5000000) (disch := first | (intro _; intros; contradiction) | omega) [i64_in, u8_in, vgd_t, vgd_f, wgd_t, wgd_f]
  (refine hk _ ?_; clear hk)
  refine awp_seq' fun k hk => awp_region (et := Try.et) Try.vtOK Try.etOK ?_
  simp (maxSteps := 5000000) (disch := first | (intro _; intros; contradiction) | omega) [i64_in, u8_in, vgd_t, vgd_f, wgd_t, wgd_f]
  (refine hk _ ?_; clear hk)
  refine awp_ret ⟨.inr rfl, ?_⟩
  simp

theorem ref43_Has_S (x : Fi) : FSpec Try.prog 28 [.agg x.c] [] (tB (x.s1 != x.rd)) [] := by
  refine fspec_intro Try.func28 (by kernel_rfl) rfl Try.vtOK rfl Try.ntmps28 (by simp) ?_
  refine awp_seq' fun k hk => awp_region (et := Try.et) Try.vtOK Try.etOK ?_
  simp (maxSteps := 5000000) (disch := first | (intro _; intros; contradiction) | omega) [i64_in, u8_in, vgd_t, vgd_f, wgd_t, wgd_f]
  (refine hk _ ?_; clear hk)
  refine awp_seq' fun k hk => awp_region (et := Try.et) Try.vtOK Try.etOK ?_
  simp (maxSteps := 5000000) (disch := first | (intro _; intros; contradiction) | omega) [i64_in, u8_in, vgd_t, vgd_f, wgd_t, wgd_f]
  (refine hk _ ?_; clear hk)
  refine awp_ret ⟨.inr rfl, ?_⟩
  simp

theorem ring_next_S (r p : Int) (hr : 1 ≤ r ∧ r ≤ 8) (hp : 0 ≤ p ∧ p < 2 * r) : FSpec Try.prog 81 [tI .i64 r, tI .i64 p] [] (tI .i64 ((p + 1) % (2 * r))) [] := by
  refine fspec_intro Try.func81 (by kernel_rfl) rfl Try.vtOK rfl Try.ntmps81 (by simp) ?_
  refine awp_seq' fun k hk => awp_region (et := Try.et) Try.vtOK Try.etOK ?_
  simp (maxSteps := 5000000) (disch := first | (intro _; intros; contradiction) | omega) [i64_in, u8_in, vgd_t, vgd_f, wgd_t, wgd_f]
  (refine hk _ ?_; clear hk)
  refine awp_seq' fun k hk => awp_region (et := Try.et) Try.vtOK Try.etOK ?_
  simp (maxSteps := 5000000) (disch := first | (intro _; intros; contradiction) | omega) [i64_in, u8_in, vgd_t, vgd_f, wgd_t, wgd_f]
  refine ⟨by omega, ?_⟩
  (refine hk _ ?_; clear hk)
  refine awp_ret ⟨.inr rfl, ?_⟩
  simp
  rw [Int.tmod_eq_emod_of_nonneg (by omega)]
end Go.Proofs

namespace Go.Proofs
open Go.V IntWalk
set_option maxRecDepth 100000
set_option linter.unusedSimpArgs false
set_option linter.unusedVariables false

theorem ref01_Ints_S (xs ys : List Int) (hx : xs.length < 1000000) (hy : ys.length < 1000000) : FSpec Try.prog 29 [.c (.d (dL xs)), .c (.d (dL ys))] [] (tB (xs == ys)) [] := by
  refine fspec_intro Try.func29 (by kernel_rfl) rfl Try.vtOK rfl Try.ntmps29 (by simp) ?_
  refine awp_seq' fun k hk => awp_region (et := Try.et) Try.vtOK Try.etOK ?_
  simp (maxSteps := 5000000) (disch := first | (intro _; intros; contradiction) | omega) [i64_in, u8_in, vgd_t, vgd_f, wgd_t, wgd_f]
  (refine hk _ ?_; clear hk)
  refine awp_seq' fun k1 hk1 => ?_
  refine awp_seq' fun k hk => awp_region (et := Try.et) Try.vtOK Try.etOK ?_
  simp (maxSteps := 5000000) (disch := first | (intro _; intros; contradiction) | omega) [i64_in, u8_in, vgd_t, vgd_f, wgd_t, wgd_f]
  (refine hk _ ?_; clear hk)
  refine awp_cond rfl rfl (fun hc => ?_) (fun hc => ?_)
  · refine awp_seq' fun k hk => awp_region (et := Try.et) Try.vtOK Try.etOK ?_
    simp (maxSteps := 5000000) (disch := first | (intro _; intros; contradiction) | omega) [i64_in, u8_in, vgd_t, vgd_f, wgd_t, wgd_f]
    (refine hk _ ?_; clear hk)
    refine awp_ret ⟨.inr rfl, ?_⟩
    have : xs ≠ ys := fun e => by subst e; simp at hc
    simp [this]
  · refine awp_skip ?_
    (refine hk1 _ ?_; clear hk1)
    have hl : xs.length = ys.length := by simp at hc; omega
    refine awp_seq' fun k0 hk0 => ?_
    refine awp_seq' fun k1 hk1 => awp_region (et := Try.et) Try.vtOK Try.etOK ?_
    simp (maxSteps := 5000000) (disch := first | (intro _; intros; contradiction) | omega) [i64_in, u8_in, vgd_t, vgd_f, wgd_t, wgd_f]
    (refine hk1 _ ?_; clear hk1)
    refine awp_block (awp_for (fun n s => ∃ i : Nat, n = xs.length - i ∧ i ≤ xs.length ∧ (∀ j < i, xs[j]? = ys[j]?) ∧ s = ⟨[(5, tI .i64 i), (0, .c (.d (dL xs))), (1, .c (.d (dL ys)))], []⟩) xs.length (weak_mk (by simp) (by simp) (by simp)) ⟨0, by simp, by simp, by simp, rfl⟩ ?_)
    rintro n s ⟨i, rfl, hi, hxy, rfl⟩ k hk
    refine awp_seq' fun k1 hk1 => ?_
    refine awp_seq' fun k2 hk2 => awp_region (et := Try.et) Try.vtOK Try.etOK ?_
    simp (maxSteps := 5000000) (disch := first | (intro _; intros; contradiction) | omega) [i64_in, u8_in, vgd_t, vgd_f, wgd_t, wgd_f]
    (refine hk2 _ ?_; clear hk2)
    refine awp_cond rfl rfl (fun hc => ?_) (fun hc => ?_)
    · refine awp_skip ?_
      (refine hk1 _ ?_; clear hk1)
      simp at hc
      refine awp_seq' fun k2 hk2 => ?_
      refine awp_block ?_
      refine awp_seq' fun k3 hk3 => awp_region_draw (et := Try.et) Try.mixed Try.vtOK Try.etOK ?_
      simp (maxSteps := 5000000) (disch := first | (intro _; intros; contradiction) | omega) [i64_in, u8_in, vgd_t, vgd_f, wgd_t, wgd_f]
      refine ⟨hc, by omega, by kernel_rfl, ?_⟩
      (refine hk3 _ ?_; clear hk3)
      refine awp_cond rfl rfl (fun hc3 => ?_) (fun hc3 => ?_)
      · refine awp_seq' fun k4 hk4 => awp_region (et := Try.et) Try.vtOK Try.etOK ?_
        simp (maxSteps := 5000000) (disch := first | (intro _; intros; contradiction) | omega) [i64_in, u8_in, vgd_t, vgd_f, wgd_t, wgd_f]
        (refine hk4 _ ?_; clear hk4)
        refine awp_ret ⟨.inr rfl, ?_⟩
        have : xs ≠ ys := fun e => by subst e; simp at hc3
        simp [this]
      · refine awp_skip ?_
        (refine hk2 _ ?_; clear hk2)
        refine awp_region (et := Try.et) Try.vtOK Try.etOK ?_
        simp (maxSteps := 5000000) (disch := first | (intro _; intros; contradiction) | omega) [i64_in, u8_in, vgd_t, vgd_f, wgd_t, wgd_f]
        refine hk _ ⟨[(5, tI .i64 (i + 1 : Nat)), (0, .c (.d (dL xs))), (1, .c (.d (dL ys)))], []⟩ _ (by omega) ⟨i + 1, rfl, by omega, fun j hj => ?_, rfl⟩ (weak_mk (by simp) (by simp) (by simp))
        by_cases hji : j < i
        · exact hxy j hji
        · have : j = i := by omega
          subst this
          simp at hc3
          simp [hc, hl ▸ hc, hc3]
    · refine awp_exit ?_
      simp at hc ⊢
      (refine hk0 _ ?_; clear hk0)
      refine awp_seq' fun k4 hk4 => awp_region (et := Try.et) Try.vtOK Try.etOK ?_
      simp (maxSteps := 5000000) (disch := first | (intro _; intros; contradiction) | omega) [i64_in, u8_in, vgd_t, vgd_f, wgd_t, wgd_f]
      (refine hk4 _ ?_; clear hk4)
      refine awp_ret ⟨.inr rfl, ?_⟩
      have : xs = ys := by
        apply List.ext_getElem?
        intro j
        by_cases hj : j < i
        · exact hxy j hj
        · rw [List.getElem?_eq_none (by omega), List.getElem?_eq_none (by omega)]
      simp [this]
end Go.Proofs

namespace Go.Proofs
open Go.V IntWalk
set_option maxRecDepth 100000
set_option linter.unusedSimpArgs false
set_option linter.unusedVariables false

theorem slices_Clone_int_S (xs : List Int) (hx : xs.length < 1000000) : FSpec Try.prog 73 [.c (.d (dL xs))] [] (.c (.d (dL xs))) [] := by
  by_cases h0 : xs = []
  · subst h0
    refine FSpec.slice0 fun a cap => ?_
    refine fspec_intro Try.func73 (by kernel_rfl) rfl Try.vtOK rfl Try.ntmps73 (by simp) ?_
    refine awp_seq' fun k hk => awp_region (et := Try.et) Try.vtOK Try.etOK ?_
    simp (maxSteps := 5000000) (disch := first | (intro _; intros; contradiction) | omega) [i64_in, u8_in, vgd_t, vgd_f, wgd_t, wgd_f]
    (refine hk _ ?_; clear hk)
    refine awp_seq' fun k1 hk1 => ?_
    refine awp_seq' fun k hk => awp_region (et := Try.et) Try.vtOK Try.etOK ?_
    simp (maxSteps := 5000000) (disch := first | (intro _; intros; contradiction) | omega) [i64_in, u8_in, vgd_t, vgd_f, wgd_t, wgd_f]
    (refine hk _ ?_; clear hk)
    refine awp_cond rfl rfl (fun hc => ?_) (fun hc => ?_)
    · refine awp_seq' fun k hk => awp_region (et := Try.et) Try.vtOK Try.etOK ?_
      simp (maxSteps := 5000000) (disch := first | (intro _; intros; contradiction) | omega) [i64_in, u8_in, vgd_t, vgd_f, wgd_t, wgd_f]
      (refine hk _ ?_; clear hk)
      refine awp_ret ⟨.inr rfl, ?_⟩
      simp
    · refine awp_skip ?_
      (refine hk1 _ ?_; clear hk1)
      refine awp_seq' fun k hk => awp_region (et := Try.et) Try.vtOK Try.etOK ?_
      simp (maxSteps := 5000000) (disch := first | (intro _; intros; contradiction) | omega) [i64_in, u8_in, vgd_t, vgd_f, wgd_t, wgd_f]
      (refine hk _ ?_; clear hk)
      refine awp_ret ⟨.inr rfl, ?_⟩
      simp
      exact LeD_dL rfl fun j hj => by omega
  · have hp : 0 < xs.length := by cases xs <;> simp_all
    refine fspec_intro Try.func73 (by kernel_rfl) rfl Try.vtOK rfl Try.ntmps73 (by simp) ?_
    refine awp_seq' fun k hk => awp_region (et := Try.et) Try.vtOK Try.etOK ?_
    simp (maxSteps := 5000000) (disch := first | (intro _; intros; contradiction) | omega) [i64_in, u8_in, vgd_t, vgd_f, wgd_t, wgd_f]
    (refine hk _ ?_; clear hk)
    refine awp_seq' fun k1 hk1 => ?_
    refine awp_seq' fun k hk => awp_region (et := Try.et) Try.vtOK Try.etOK ?_
    simp (maxSteps := 5000000) (disch := first | (intro _; intros; contradiction) | omega) [i64_in, u8_in, vgd_t, vgd_f, wgd_t, wgd_f, dL]
    refine ⟨hp, ?_⟩
    (refine hk _ ?_; clear hk)
    refine awp_cond rfl rfl (fun hc => ?_) (fun hc => ?_)
    · simp at hc
    · refine awp_skip ?_
      (refine hk1 _ ?_; clear hk1)
      refine awp_seq' fun k hk => awp_region (et := Try.et) Try.vtOK Try.etOK ?_
      simp (maxSteps := 5000000) (disch := first | (intro _; intros; contradiction) | omega) [i64_in, u8_in, vgd_t, vgd_f, wgd_t, wgd_f]
      refine ⟨by omega, ?_⟩
      (refine hk _ ?_; clear hk)
      refine awp_ret ⟨.inr rfl, ?_⟩
      simp
      exact LeD_dL rfl fun j hj => by simp [appF]

attribute [simp] Fi.new Fi.none

theorem fifo_New_S (n : Int) (h : 1 ≤ n ∧ n ≤ 8) : FSpec Try.prog 53 [tI .i64 n] [] (.tup [.agg (Fi.new n).c, tI .i64 0]) [] := by
  refine fspec_intro Try.func53 (by kernel_rfl) rfl Try.vtOK rfl Try.ntmps53 (by simp) ?_
  refine awp_seq' fun k hk => awp_region (et := Try.et) Try.vtOK Try.etOK ?_
  simp (maxSteps := 5000000) (disch := first | (intro _; intros; contradiction) | omega) [i64_in, u8_in, vgd_t, vgd_f, wgd_t, wgd_f]
  (refine hk _ ?_; clear hk)
  refine awp_seq' fun k1 hk1 => ?_
  refine awp_seq' fun k hk => awp_region (et := Try.et) Try.vtOK Try.etOK ?_
  simp (maxSteps := 5000000) (disch := first | (intro _; intros; contradiction) | omega) [i64_in, u8_in, vgd_t, vgd_f, wgd_t, wgd_f]
  refine ⟨fun _ => ?_, fun h' => absurd h' (by omega)⟩
  (refine hk _ ?_; clear hk)
  refine awp_cond rfl rfl (fun hc => ?_) (fun hc => ?_)
  · simp at hc; omega
  · refine awp_skip ?_
    (refine hk1 _ ?_; clear hk1)
    refine awp_seq' fun k hk => awp_region (et := Try.et) Try.vtOK Try.etOK ?_
    simp (maxSteps := 5000000) (disch := first | (intro _; intros; contradiction) | omega) [i64_in, u8_in, vgd_t, vgd_f, wgd_t, wgd_f]
    repeat refine ⟨by omega, ?_⟩
    (refine hk _ ?_; clear hk)
    refine awp_ret ⟨.inr rfl, ?_⟩
    simp
    exact LeD_dL (by simp) fun j hj => by simp [hj]

theorem fifo_New_E (n : Int) (h : ¬ (1 ≤ n ∧ n ≤ 8)) : FSpec Try.prog 53 [tI .i64 n] [] (.tup [.agg Fi.none.c, tI .i64 1]) [] := by
  refine fspec_intro Try.func53 (by kernel_rfl) rfl Try.vtOK rfl Try.ntmps53 (by simp) ?_
  refine awp_seq' fun k hk => awp_region (et := Try.et) Try.vtOK Try.etOK ?_
  simp (maxSteps := 5000000) (disch := first | (intro _; intros; contradiction) | omega) [i64_in, u8_in, vgd_t, vgd_f, wgd_t, wgd_f]
  (refine hk _ ?_; clear hk)
  refine awp_seq' fun k1 hk1 => ?_
  refine awp_seq' fun k hk => awp_region (et := Try.et) Try.vtOK Try.etOK ?_
  simp (maxSteps := 5000000) (disch := first | (intro _; intros; contradiction) | omega) [i64_in, u8_in, vgd_t, vgd_f, wgd_t, wgd_f]
  refine ⟨fun h1 => ?_, fun h1 => ?_⟩
  · (refine hk _ ?_; clear hk)
    refine awp_cond rfl rfl (fun hc => ?_) (fun hc => ?_)
    · refine awp_seq' fun k hk => awp_region (et := Try.et) Try.vtOK Try.etOK ?_
      simp (maxSteps := 5000000) (disch := first | (intro _; intros; contradiction) | omega) [i64_in, u8_in, vgd_t, vgd_f, wgd_t, wgd_f]
      (refine hk _ ?_; clear hk)
      refine awp_ret ⟨.inr rfl, ?_⟩
      simp
    · simp at hc; omega
  · (refine hk _ ?_; clear hk)
    refine awp_cond rfl rfl (fun hc => ?_) (fun hc => ?_)
    · refine awp_seq' fun k hk => awp_region (et := Try.et) Try.vtOK Try.etOK ?_
      simp (maxSteps := 5000000) (disch := first | (intro _; intros; contradiction) | omega) [i64_in, u8_in, vgd_t, vgd_f, wgd_t, wgd_f]
      (refine hk _ ?_; clear hk)
      refine awp_ret ⟨.inr rfl, ?_⟩
      simp
    · simp at hc

theorem law43_created_S (n : Int) (h : 1 ≤ n ∧ n ≤ 8) : FSpec Try.prog 15 [tI .i64 n] [] (.agg ((Fi.new n).c ++ [.d (.s (.int .i64 0))])) [] := by
  refine fspec_intro Try.func15 (by kernel_rfl) rfl Try.vtOK rfl Try.ntmps15 (by simp) ?_
  refine awp_seq' fun k hk => awp_region (et := Try.et) Try.vtOK Try.etOK ?_
  simp (maxSteps := 5000000) (disch := first | (intro _; intros; contradiction) | omega) [i64_in, u8_in, vgd_t, vgd_f, wgd_t, wgd_f]
  (refine hk _ ?_; clear hk)
  refine awp_seq' fun k hk => awp_region (et := Try.et) Try.vtOK Try.etOK ?_
  simp (maxSteps := 5000000) (disch := first | (intro _; intros; contradiction) | omega) [i64_in, u8_in, vgd_t, vgd_f, wgd_t, wgd_f]
  refine vcall_fn rfl (by simp) (LeTs.refl _) (fifo_New_S n h) ?_
  simp (maxSteps := 5000000) (disch := first | (intro _; intros; contradiction) | omega) [i64_in, u8_in, vgd_t, vgd_f, wgd_t, wgd_f]
  (refine hk _ ?_; clear hk)
  refine awp_seq' fun k hk => awp_region (et := Try.et) Try.vtOK Try.etOK ?_
  simp (maxSteps := 5000000) (disch := first | (intro _; intros; contradiction) | omega) [i64_in, u8_in, vgd_t, vgd_f, wgd_t, wgd_f]
  (refine hk _ ?_; clear hk)
  refine awp_ret ⟨.inr rfl, ?_⟩
  simp

theorem law43_created_E (n : Int) (h : ¬ (1 ≤ n ∧ n ≤ 8)) : FSpec Try.prog 15 [tI .i64 n] [] (.agg (Fi.none.c ++ [.d (.s (.int .i64 1))])) [] := by
  refine fspec_intro Try.func15 (by kernel_rfl) rfl Try.vtOK rfl Try.ntmps15 (by simp) ?_
  refine awp_seq' fun k hk => awp_region (et := Try.et) Try.vtOK Try.etOK ?_
  simp (maxSteps := 5000000) (disch := first | (intro _; intros; contradiction) | omega) [i64_in, u8_in, vgd_t, vgd_f, wgd_t, wgd_f]
  (refine hk _ ?_; clear hk)
  refine awp_seq' fun k hk => awp_region (et := Try.et) Try.vtOK Try.etOK ?_
  simp (maxSteps := 5000000) (disch := first | (intro _; intros; contradiction) | omega) [i64_in, u8_in, vgd_t, vgd_f, wgd_t, wgd_f]
  refine vcall_fn rfl (by simp) (LeTs.refl _) (fifo_New_E n h) ?_
  simp (maxSteps := 5000000) (disch := first | (intro _; intros; contradiction) | omega) [i64_in, u8_in, vgd_t, vgd_f, wgd_t, wgd_f]
  (refine hk _ ?_; clear hk)
  refine awp_seq' fun k hk => awp_region (et := Try.et) Try.vtOK Try.etOK ?_
  simp (maxSteps := 5000000) (disch := first | (intro _; intros; contradiction) | omega) [i64_in, u8_in, vgd_t, vgd_f, wgd_t, wgd_f]
  (refine hk _ ?_; clear hk)
  refine awp_ret ⟨.inr rfl, ?_⟩
  simp

theorem ref43_NewIn_S (n : Int) (h : 1 ≤ n ∧ n ≤ 8) : FSpec Try.prog 16 [tI .i64 n] [] (.agg ((Fi.new n).c ++ [.d (.s (.int .i64 0))])) [] := by
  refine fspec_intro Try.func16 (by kernel_rfl) rfl Try.vtOK rfl Try.ntmps16 (by simp) ?_
  refine awp_seq' fun k hk => awp_region (et := Try.et) Try.vtOK Try.etOK ?_
  simp (maxSteps := 5000000) (disch := first | (intro _; intros; contradiction) | omega) [i64_in, u8_in, vgd_t, vgd_f, wgd_t, wgd_f]
  (refine hk _ ?_; clear hk)
  refine awp_seq' fun k1 hk1 => ?_
  refine awp_seq' fun k hk => awp_region (et := Try.et) Try.vtOK Try.etOK ?_
  simp (maxSteps := 5000000) (disch := first | (intro _; intros; contradiction) | omega) [i64_in, u8_in, vgd_t, vgd_f, wgd_t, wgd_f]
  refine ⟨fun _ => ?_, fun h' => absurd h' (by omega)⟩
  (refine hk _ ?_; clear hk)
  refine awp_cond rfl rfl (fun hc => ?_) (fun hc => ?_)
  · simp at hc; omega
  · refine awp_skip ?_
    (refine hk1 _ ?_; clear hk1)
    refine awp_seq' fun k hk => awp_region (et := Try.et) Try.vtOK Try.etOK ?_
    simp (maxSteps := 5000000) (disch := first | (intro _; intros; contradiction) | omega) [i64_in, u8_in, vgd_t, vgd_f, wgd_t, wgd_f]
    repeat refine ⟨by omega, ?_⟩
    (refine hk _ ?_; clear hk)
    refine awp_ret ⟨.inr rfl, ?_⟩
    simp
    exact LeD_dL (by simp) fun j hj => by simp [hj]

theorem ref43_NewIn_E (n : Int) (h : ¬ (1 ≤ n ∧ n ≤ 8)) : FSpec Try.prog 16 [tI .i64 n] [] (.agg (Fi.none.c ++ [.d (.s (.int .i64 1))])) [] := by
  refine fspec_intro Try.func16 (by kernel_rfl) rfl Try.vtOK rfl Try.ntmps16 (by simp) ?_
  refine awp_seq' fun k hk => awp_region (et := Try.et) Try.vtOK Try.etOK ?_
  simp (maxSteps := 5000000) (disch := first | (intro _; intros; contradiction) | omega) [i64_in, u8_in, vgd_t, vgd_f, wgd_t, wgd_f]
  (refine hk _ ?_; clear hk)
  refine awp_seq' fun k1 hk1 => ?_
  refine awp_seq' fun k hk => awp_region (et := Try.et) Try.vtOK Try.etOK ?_
  simp (maxSteps := 5000000) (disch := first | (intro _; intros; contradiction) | omega) [i64_in, u8_in, vgd_t, vgd_f, wgd_t, wgd_f]
  refine ⟨fun h1 => ?_, fun h1 => ?_⟩
  · (refine hk _ ?_; clear hk)
    refine awp_cond rfl rfl (fun hc => ?_) (fun hc => ?_)
    · refine awp_seq' fun k hk => awp_region (et := Try.et) Try.vtOK Try.etOK ?_
      simp (maxSteps := 5000000) (disch := first | (intro _; intros; contradiction) | omega) [i64_in, u8_in, vgd_t, vgd_f, wgd_t, wgd_f]
      (refine hk _ ?_; clear hk)
      refine awp_ret ⟨.inr rfl, ?_⟩
      simp
    · simp at hc; omega
  · (refine hk _ ?_; clear hk)
    refine awp_cond rfl rfl (fun hc => ?_) (fun hc => ?_)
    · refine awp_seq' fun k hk => awp_region (et := Try.et) Try.vtOK Try.etOK ?_
      simp (maxSteps := 5000000) (disch := first | (intro _; intros; contradiction) | omega) [i64_in, u8_in, vgd_t, vgd_f, wgd_t, wgd_f]
      (refine hk _ ?_; clear hk)
      refine awp_ret ⟨.inr rfl, ?_⟩
      simp
    · simp at hc
end Go.Proofs

namespace Go.Proofs
open Go.V IntWalk
set_option maxRecDepth 100000
set_option linter.unusedSimpArgs false
set_option linter.unusedVariables false

theorem ref43_Same_S (x y : Fi) (hx : x.ws.length < 1000000) (hy : y.ws.length < 1000000) : FSpec Try.prog 17 [.agg x.c, .agg y.c] [] (tB (decide (x = y))) [] := by
  obtain ⟨c, ws, wr, rd, s0, s1, t0, t1⟩ := x
  obtain ⟨c', ws', wr', rd', s0', s1', t0', t1'⟩ := y
  refine fspec_intro Try.func17 (by kernel_rfl) rfl Try.vtOK rfl Try.ntmps17 (by simp) ?_
  refine awp_seq' fun k hk => awp_region (et := Try.et) Try.vtOK Try.etOK ?_
  simp (maxSteps := 5000000) (disch := first | (intro _; intros; contradiction) | omega) [i64_in, u8_in, vgd_t, vgd_f, wgd_t, wgd_f]
  (refine hk _ ?_; clear hk)
  refine awp_seq' fun k hk => awp_region (et := Try.et) Try.vtOK Try.etOK ?_
  simp (maxSteps := 5000000) (disch := first | (intro _; intros; contradiction) | omega) [i64_in, u8_in, vgd_t, vgd_f, wgd_t, wgd_f]
  refine ⟨fun h1 => ?_, fun h1 => ?_⟩
  · refine vcall_fn rfl (by simp) (LeTs.refl _) (ref01_Ints_S _ _ hx hy) ?_
    simp (maxSteps := 5000000) (disch := first | (intro _; intros; contradiction) | omega) [i64_in, u8_in, vgd_t, vgd_f, wgd_t, wgd_f]
    refine ⟨fun h2 => ⟨fun h3 => ⟨fun h4 => ⟨fun h5 => ?_, fun h5 => ?_⟩, fun h4 => ?_⟩, fun h3 => ?_⟩, fun h2 => ?_⟩
    all_goals
      intros
      (refine hk _ ?_; clear hk)
      refine awp_ret ⟨.inr rfl, ?_⟩
      simp_all
      try (rw [Bool.eq_iff_iff]; simp)
  · (refine hk _ ?_; clear hk)
    refine awp_ret ⟨.inr rfl, ?_⟩
    simp_all

/-- A tick. -/
structure Ti where
  f : Fi
  wrote : Bool
  has : Bool
  v : Int
  deriving DecidableEq
@[simp] def Ti.c (x : Ti) : List C := x.f.c ++ [.d (.s (.bool x.wrote)), .d (.s (.bool x.has)), .d (.s (.int .i64 x.v))]

theorem law43_same_S (x y : Ti) (hx : x.f.ws.length < 1000000) (hy : y.f.ws.length < 1000000) : FSpec Try.prog 20 [.agg x.c, .agg y.c] [] (tB (decide (x = y))) [] := by
  obtain ⟨f, w, h, v⟩ := x
  obtain ⟨f', w', h', v'⟩ := y
  refine fspec_intro Try.func20 (by kernel_rfl) rfl Try.vtOK rfl Try.ntmps20 (by simp) ?_
  refine awp_seq' fun k hk => awp_region (et := Try.et) Try.vtOK Try.etOK ?_
  simp (maxSteps := 5000000) (disch := first | (intro _; intros; contradiction) | omega) [i64_in, u8_in, vgd_t, vgd_f, wgd_t, wgd_f]
  (refine hk _ ?_; clear hk)
  refine awp_seq' fun k hk => awp_region (et := Try.et) Try.vtOK Try.etOK ?_
  simp (maxSteps := 5000000) (disch := first | (intro _; intros; contradiction) | omega) [i64_in, u8_in, vgd_t, vgd_f, wgd_t, wgd_f]
  refine vcall_fn rfl (by simp) (LeTs.refl _) (ref43_Same_S f f' hx hy) ?_
  simp (maxSteps := 5000000) (disch := first | (intro _; intros; contradiction) | omega) [i64_in, u8_in, vgd_t, vgd_f, wgd_t, wgd_f]
  refine ⟨fun h1 => ⟨fun h2 => ?_, fun h2 => ?_⟩, fun h1 => ?_⟩
  all_goals
    intros
    (refine hk _ ?_; clear hk)
    refine awp_ret ⟨.inr rfl, ?_⟩
    simp_all
    try (rw [Bool.eq_iff_iff]; simp)
end Go.Proofs

namespace Go.Proofs
open Go.V IntWalk
set_option maxRecDepth 100000
set_option linter.unusedSimpArgs false
set_option linter.unusedVariables false

theorem Fi.len_lt (x : Fi) (h : x.ok) : (x.len : Int) = (x.wr - x.rd) % (2 * x.cap) ∧ x.len < 16 := by
  have h1 := Int.emod_nonneg (x.wr - x.rd) (b := 2 * x.cap) (by have := h.cap; omega)
  have h2 := Int.emod_lt_of_pos (x.wr - x.rd) (b := 2 * x.cap) (by have := h.cap; omega)
  have := h.cap
  unfold Fi.len Fi.mn
  omega
attribute [simp] Fi.words_length
theorem Fi.words_get (x : Fi) (j : Nat) (h : j < x.len) : x.words[j]?.getD 0 = x.word j := by simp [Fi.words, h]

theorem fifo_Words_S (x : Fi) (h : x.ok) : FSpec Try.prog 30 [.agg x.c] [] (.c (.d (dL x.words))) [] := by
  obtain ⟨hlen, hl16⟩ := x.len_lt h
  obtain ⟨hcap, hws, hwr, hrd, _, _, _, _⟩ := id h
  refine fspec_intro Try.func30 (by kernel_rfl) rfl Try.vtOK rfl Try.ntmps30 (by simp) ?_
  refine awp_seq' fun k hk => awp_region (et := Try.et) Try.vtOK Try.etOK ?_
  simp (maxSteps := 5000000) (disch := first | (intro _; intros; contradiction) | omega) [i64_in, u8_in, vgd_t, vgd_f, wgd_t, wgd_f]
  (refine hk _ ?_; clear hk)
  refine awp_seq' fun k hk => awp_region (et := Try.et) Try.vtOK Try.etOK ?_
  simp (maxSteps := 5000000) (disch := first | (intro _; intros; contradiction) | omega) [i64_in, u8_in, vgd_t, vgd_f, wgd_t, wgd_f]
  (refine hk _ ?_; clear hk)
  refine awp_seq' fun k0 hk0 => ?_
  refine awp_seq' fun k1 hk1 => awp_region (et := Try.et) Try.vtOK Try.etOK ?_
  simp (maxSteps := 5000000) (disch := first | (intro _; intros; contradiction) | omega) [i64_in, u8_in, vgd_t, vgd_f, wgd_t, wgd_f]
  refine vcall_fn rfl (by simp) (LeTs.refl _) (fifo_length_S x h.cap h.wr h.rd) ?_
  simp (maxSteps := 5000000) (disch := first | (intro _; intros; contradiction) | omega) [i64_in, u8_in, vgd_t, vgd_f, wgd_t, wgd_f]
  (refine hk1 _ ?_; clear hk1)
  refine awp_block (awp_for (fun n s => ∃ i : Nat, n = x.len - i ∧ i ≤ x.len ∧ s = ⟨[(7, tI .i64 i), (6, tI .i64 x.len), (3, .c (.row 368 i)), (1, .c (.ptr 16 0))], [(368, .row false 3 1 i fun j => [.s (.int .i64 (x.word j))]), (16, .box false x.c)]⟩) x.len
    ((weak_nilT (t := 3) (n := 368) (ty := 3) (sz := 1) (fun j => [.s (.int .i64 (x.word j))]) (by simp) (by simp)).trans (weak_mk (by simp [hlen]) (by simp) (by simp))) ⟨0, by simp, by simp, rfl⟩ ?_)
  rintro n s ⟨i, rfl, hi, rfl⟩ k hk
  refine awp_seq' fun k2 hk2 => awp_region (et := Try.et) Try.vtOK Try.etOK ?_
  simp (maxSteps := 5000000) (disch := first | (intro _; intros; contradiction) | omega) [i64_in, u8_in, vgd_t, vgd_f, wgd_t, wgd_f]
  (refine hk2 _ ?_; clear hk2)
  refine awp_seq' fun k1 hk1 => ?_
  refine awp_cond rfl rfl (fun hc => ?_) (fun hc => ?_)
  · refine awp_skip ?_
    (refine hk1 _ ?_; clear hk1)
    simp at hc
    refine awp_seq' fun k2 hk2 => ?_
    refine awp_block ?_
    refine awp_seq' fun k3 hk3 => awp_region (et := Try.et) Try.vtOK Try.etOK ?_
    simp (maxSteps := 5000000) (disch := first | (intro _; intros; contradiction) | omega) [i64_in, u8_in, vgd_t, vgd_f, wgd_t, wgd_f]
    (refine hk3 _ ?_; clear hk3)
    refine awp_region_draw (et := Try.et) Try.mixed Try.vtOK Try.etOK ?_
    simp (maxSteps := 5000000) (disch := first | (intro _; intros; contradiction) | omega) [i64_in, u8_in, vgd_t, vgd_f, wgd_t, wgd_f, rem_in]
    have hm := Int.emod_nonneg (x.rd + (i : Int)) (b := x.cap) (by omega)
    have hm2 := Int.emod_lt_of_pos (x.rd + (i : Int)) (b := x.cap) (by omega)
    refine ⟨by omega, ⟨hm, by omega⟩, by omega, by kernel_rfl, ?_⟩
    (refine hk2 _ ?_; clear hk2)
    refine awp_region (et := Try.et) Try.vtOK Try.etOK ?_
    simp (maxSteps := 5000000) (disch := first | (intro _; intros; contradiction) | omega) [i64_in, u8_in, vgd_t, vgd_f, wgd_t, wgd_f]
    have hlt : ((x.rd + i) % x.cap).toNat < x.ws.length := by omega
    refine hk _ _ _ (by omega) ⟨i + 1, rfl, by omega, rfl⟩ (weak_mk (by simp) (by
      simp
      refine LeD.ext fun j hj => ?_
      unfold appF
      split
      · rfl
      · have : j = i := by omega
        subst this
        simp [Fi.word, hlt]) (by simp))
  · refine awp_exit ?_
    simp at hc ⊢
    (refine hk0 _ ?_; clear hk0)
    refine awp_seq' fun k4 hk4 => awp_region (et := Try.et) Try.vtOK Try.etOK ?_
    simp (maxSteps := 5000000) (disch := first | (intro _; intros; contradiction) | omega) [i64_in, u8_in, vgd_t, vgd_f, wgd_t, wgd_f]
    (refine hk4 _ ?_; clear hk4)
    refine awp_ret ⟨.inr rfl, ?_⟩
    have : i = x.len := by omega
    subst this
    simp
    exact LeD_dL (by simp) fun j hj => by rw [Fi.words_get _ _ hj]

theorem ref43_Words_S (x : Fi) (h : x.ok) : FSpec Try.prog 31 [.agg x.c] [] (.c (.d (dL x.words))) [] := by
  obtain ⟨hlen, hl16⟩ := x.len_lt h
  obtain ⟨hcap, hws, hwr, hrd, _, _, _, _⟩ := id h
  refine fspec_intro Try.func31 (by kernel_rfl) rfl Try.vtOK rfl Try.ntmps31 (by simp) ?_
  refine awp_seq' fun k hk => awp_region (et := Try.et) Try.vtOK Try.etOK ?_
  simp (maxSteps := 5000000) (disch := first | (intro _; intros; contradiction) | omega) [i64_in, u8_in, vgd_t, vgd_f, wgd_t, wgd_f]
  (refine hk _ ?_; clear hk)
  refine awp_seq' fun k hk => awp_region (et := Try.et) Try.vtOK Try.etOK ?_
  simp (maxSteps := 5000000) (disch := first | (intro _; intros; contradiction) | omega) [i64_in, u8_in, vgd_t, vgd_f, wgd_t, wgd_f]
  (refine hk _ ?_; clear hk)
  refine awp_seq' fun k0 hk0 => ?_
  refine awp_seq' fun k1 hk1 => awp_region (et := Try.et) Try.vtOK Try.etOK ?_
  simp (maxSteps := 5000000) (disch := first | (intro _; intros; contradiction) | omega) [i64_in, u8_in, vgd_t, vgd_f, wgd_t, wgd_f]
  (refine hk1 _ ?_; clear hk1)
  refine awp_block (awp_for (fun n s => ∃ i : Nat, n = x.len - i ∧ i ≤ x.len ∧ s = ⟨[(4, tI .i64 i), (3, .c (.row 80 i)), (1, .c (.ptr 16 0))], [(80, .row false 3 1 i fun j => [.s (.int .i64 (x.word j))]), (16, .box false x.c)]⟩) x.len
    (weak_mk (by simp) (by simp; exact LeD.ext fun j hj => by omega) (by simp)) ⟨0, by simp, by simp, rfl⟩ ?_)
  rintro n s ⟨i, rfl, hi, rfl⟩ k hk
  refine awp_seq' fun k1 hk1 => ?_
  refine awp_seq' fun k2 hk2 => awp_region (et := Try.et) Try.vtOK Try.etOK ?_
  simp (maxSteps := 5000000) (disch := first | (intro _; intros; contradiction) | omega) [i64_in, u8_in, vgd_t, vgd_f, wgd_t, wgd_f]
  refine vcall_fn rfl (by simp) (LeTs.refl _) (ref43_Len_S x h) ?_
  simp (maxSteps := 5000000) (disch := first | (intro _; intros; contradiction) | omega) [i64_in, u8_in, vgd_t, vgd_f, wgd_t, wgd_f]
  (refine hk2 _ ?_; clear hk2)
  rw [← hlen]
  refine awp_cond rfl rfl (fun hc => ?_) (fun hc => ?_)
  · refine awp_skip ?_
    (refine hk1 _ ?_; clear hk1)
    simp at hc
    refine awp_seq' fun k2 hk2 => ?_
    refine awp_block ?_
    refine awp_region_draw (et := Try.et) Try.mixed Try.vtOK Try.etOK ?_
    simp (maxSteps := 5000000) (disch := first | (intro _; intros; contradiction) | omega) [i64_in, u8_in, vgd_t, vgd_f, wgd_t, wgd_f, rem_in]
    have hm := Int.emod_nonneg (x.rd + (i : Int)) (b := x.cap) (by omega)
    have hm2 := Int.emod_lt_of_pos (x.rd + (i : Int)) (b := x.cap) (by omega)
    refine ⟨by omega, ⟨hm, by omega⟩, by omega, by kernel_rfl, ?_⟩
    (refine hk2 _ ?_; clear hk2)
    refine awp_region (et := Try.et) Try.vtOK Try.etOK ?_
    simp (maxSteps := 5000000) (disch := first | (intro _; intros; contradiction) | omega) [i64_in, u8_in, vgd_t, vgd_f, wgd_t, wgd_f]
    have hlt : ((x.rd + i) % x.cap).toNat < x.ws.length := by omega
    refine hk _ _ _ (by omega) ⟨i + 1, rfl, by omega, rfl⟩ (weak_mk (by simp) (by
      simp
      refine LeD.ext fun j hj => ?_
      unfold appF
      split
      · rfl
      · have : j = i := by omega
        subst this
        simp [Fi.word, hlt]) (by simp))
  · refine awp_exit ?_
    simp at hc ⊢
    (refine hk0 _ ?_; clear hk0)
    refine awp_seq' fun k4 hk4 => awp_region (et := Try.et) Try.vtOK Try.etOK ?_
    simp (maxSteps := 5000000) (disch := first | (intro _; intros; contradiction) | omega) [i64_in, u8_in, vgd_t, vgd_f, wgd_t, wgd_f]
    (refine hk4 _ ?_; clear hk4)
    refine awp_ret ⟨.inr rfl, ?_⟩
    have : i = x.len := by omega
    subst this
    simp
    exact LeD_dL (by simp) fun j hj => by rw [Fi.words_get _ _ hj]
end Go.Proofs

namespace Go.Proofs
open Go.V IntWalk
set_option maxRecDepth 100000
set_option linter.unusedSimpArgs false
set_option linter.unusedVariables false

theorem fifo_advance_R (x : Fi) (p : Int) : FSpec Try.prog 82 [.c (.ptr 1000000 6), tI .i64 p] [(1000000, .box false x.c)] (tupOf []) [(1000000, .box false ({ x with t0 := p, t1 := x.t0 } : Fi).c)] := by
  refine fspec_introM (ma := _) Try.func82 (by kernel_rfl) rfl Try.vtOK rfl Try.ntmps82 (by simp) (by simp [lk_cons]) ?_
  refine awp_region_draw (et := Try.et) Try.mixed Try.vtOK Try.etOK ?_
  simp (maxSteps := 5000000) (disch := first | (intro _; intros; contradiction) | omega) [i64_in, u8_in, vgd_t, vgd_f, wgd_t, wgd_f]
  kernel_rfl

theorem fifo_advance_W (x : Fi) (p : Int) : FSpec Try.prog 82 [.c (.ptr 1000000 4), tI .i64 p] [(1000000, .box false x.c)] (tupOf []) [(1000000, .box false ({ x with s0 := p, s1 := x.s0 } : Fi).c)] := by
  refine fspec_introM (ma := _) Try.func82 (by kernel_rfl) rfl Try.vtOK rfl Try.ntmps82 (by simp) (by simp [lk_cons]) ?_
  refine awp_region_draw (et := Try.et) Try.mixed Try.vtOK Try.etOK ?_
  simp (maxSteps := 5000000) (disch := first | (intro _; intros; contradiction) | omega) [i64_in, u8_in, vgd_t, vgd_f, wgd_t, wgd_f]
  kernel_rfl

theorem fifo_Read_S (x : Fi) (t : Bool) (h : x.ok) : FSpec Try.prog 60 [.agg x.c, tB t] [] (.tup [.agg (x.read t).c, .agg [.d (.s (.bool (t && x.has))), .d (.s (.int .i64 (if t && x.has then x.word 0 else 0)))]]) [] := by
  obtain ⟨hcap, hws, hwr, hrd, hs0, hs1, ht0, ht1⟩ := id h
  cases t
  · refine fspec_intro Try.func60 (by kernel_rfl) rfl Try.vtOK rfl Try.ntmps60 (by simp) ?_
    refine awp_seq' fun k hk => awp_region (et := Try.et) Try.vtOK Try.etOK ?_
    simp (maxSteps := 5000000) (disch := first | (intro _; intros; contradiction) | omega) [i64_in, u8_in, vgd_t, vgd_f, wgd_t, wgd_f]
    (refine hk _ ?_; clear hk)
    refine awp_seq' fun k hk => awp_region (et := Try.et) Try.vtOK Try.etOK ?_
    simp (maxSteps := 5000000) (disch := first | (intro _; intros; contradiction) | omega) [i64_in, u8_in, vgd_t, vgd_f, wgd_t, wgd_f]
    (refine hk _ ?_; clear hk)
    refine awp_seq' fun k1 hk1 => ?_
    refine awp_seq' fun k2 hk2 => awp_region (et := Try.et) Try.vtOK Try.etOK ?_
    simp (maxSteps := 5000000) (disch := first | (intro _; intros; contradiction) | omega) [i64_in, u8_in, vgd_t, vgd_f, wgd_t, wgd_f]
    (refine hk2 _ ?_; clear hk2)
    refine awp_cond rfl rfl (fun hc => ?_) (fun hc => ?_)
    · simp at hc
    · refine awp_skip ?_
      (refine hk1 _ ?_; clear hk1)
      refine awp_seq' fun k hk => awp_region (et := Try.et) Try.vtOK Try.etOK ?_
      simp (maxSteps := 5000000) (disch := first | (intro _; intros; contradiction) | omega) [i64_in, u8_in, vgd_t, vgd_f, wgd_t, wgd_f]
      refine vcall_ob (fifo_advance_W x x.wr) [(1000000, 32)] rfl (by simp) (by simp) (by simp) ?_
      simp (maxSteps := 5000000) (disch := first | (intro _; intros; contradiction) | omega) [i64_in, u8_in, vgd_t, vgd_f, wgd_t, wgd_f]
      (refine hk _ ?_; clear hk)
      refine awp_seq' fun k hk => awp_region_draw (et := Try.et) Try.mixed Try.vtOK Try.etOK ?_
      simp (maxSteps := 5000000) (disch := first | (intro _; intros; contradiction) | omega) [i64_in, u8_in, vgd_t, vgd_f, wgd_t, wgd_f]
      (refine ⟨by kernel_rfl, hk _ ?_⟩; clear hk)
      refine awp_ret ⟨.inr rfl, ?_⟩
      simp [Fi.read]
  · refine fspec_intro Try.func60 (by kernel_rfl) rfl Try.vtOK rfl Try.ntmps60 (by simp) ?_
    refine awp_seq' fun k hk => awp_region (et := Try.et) Try.vtOK Try.etOK ?_
    simp (maxSteps := 5000000) (disch := first | (intro _; intros; contradiction) | omega) [i64_in, u8_in, vgd_t, vgd_f, wgd_t, wgd_f]
    (refine hk _ ?_; clear hk)
    refine awp_seq' fun k hk => awp_region (et := Try.et) Try.vtOK Try.etOK ?_
    simp (maxSteps := 5000000) (disch := first | (intro _; intros; contradiction) | omega) [i64_in, u8_in, vgd_t, vgd_f, wgd_t, wgd_f]
    (refine hk _ ?_; clear hk)
    refine awp_seq' fun k1 hk1 => ?_
    refine awp_seq' fun k2 hk2 => awp_region (et := Try.et) Try.vtOK Try.etOK ?_
    simp (maxSteps := 5000000) (disch := first | (intro _; intros; contradiction) | omega) [i64_in, u8_in, vgd_t, vgd_f, wgd_t, wgd_f]
    refine vcall_fn rfl (by simp) (LeTs.refl _) (fifo_Has_S x) ?_
    simp (maxSteps := 5000000) (disch := first | (intro _; intros; contradiction) | omega) [i64_in, u8_in, vgd_t, vgd_f, wgd_t, wgd_f]
    (refine hk2 _ ?_; clear hk2)
    refine awp_cond rfl rfl (fun hc => ?_) (fun hc => ?_)
    · refine awp_seq' fun k2 hk2 => awp_region_draw (et := Try.et) Try.mixed Try.vtOK Try.etOK ?_
      simp (maxSteps := 5000000) (disch := first | (intro _; intros; contradiction) | omega) [i64_in, u8_in, vgd_t, vgd_f, wgd_t, wgd_f, rem_in]
      have hm := Int.emod_nonneg x.rd (b := x.cap) (by omega)
      have hm2 := Int.emod_lt_of_pos x.rd (b := x.cap) (by omega)
      refine ⟨by omega, ⟨hm, by omega⟩, ?_⟩
      (refine ⟨by kernel_rfl, hk2 _ ?_⟩; clear hk2)
      refine awp_region (et := Try.et) Try.vtOK Try.etOK ?_
      simp (maxSteps := 5000000) (disch := first | (intro _; intros; contradiction) | omega) [i64_in, u8_in, vgd_t, vgd_f, wgd_t, wgd_f]
      refine vcall_fn rfl (by simp) (LeTs.refl _) (ring_next_S _ _ hcap hrd) ?_
      simp (maxSteps := 5000000) (disch := first | (intro _; intros; contradiction) | omega) [i64_in, u8_in, vgd_t, vgd_f, wgd_t, wgd_f]
      (refine hk1 _ ?_; clear hk1)
      refine awp_seq' fun k hk => awp_region (et := Try.et) Try.vtOK Try.etOK ?_
      simp (maxSteps := 5000000) (disch := first | (intro _; intros; contradiction) | omega) [i64_in, u8_in, vgd_t, vgd_f, wgd_t, wgd_f]
      refine vcall_ob (fifo_advance_W { x with rd := (x.rd + 1) % (2 * x.cap) } x.wr) [(1000000, 32)] rfl (by simp) (by simp) (by simp) ?_
      simp (maxSteps := 5000000) (disch := first | (intro _; intros; contradiction) | omega) [i64_in, u8_in, vgd_t, vgd_f, wgd_t, wgd_f]
      (refine hk _ ?_; clear hk)
      refine awp_seq' fun k hk => awp_region_draw (et := Try.et) Try.mixed Try.vtOK Try.etOK ?_
      simp (maxSteps := 5000000) (disch := first | (intro _; intros; contradiction) | omega) [i64_in, u8_in, vgd_t, vgd_f, wgd_t, wgd_f]
      (refine ⟨by kernel_rfl, hk _ ?_⟩; clear hk)
      refine awp_ret ⟨.inr rfl, ?_⟩
      have hlt : (x.rd % x.cap).toNat < x.ws.length := by omega
      simp [Fi.read, Fi.has, Fi.word, hc, hlt]
    · refine awp_skip ?_
      (refine hk1 _ ?_; clear hk1)
      refine awp_seq' fun k hk => awp_region (et := Try.et) Try.vtOK Try.etOK ?_
      simp (maxSteps := 5000000) (disch := first | (intro _; intros; contradiction) | omega) [i64_in, u8_in, vgd_t, vgd_f, wgd_t, wgd_f]
      refine vcall_ob (fifo_advance_W x x.wr) [(1000000, 32)] rfl (by simp) (by simp) (by simp) ?_
      simp (maxSteps := 5000000) (disch := first | (intro _; intros; contradiction) | omega) [i64_in, u8_in, vgd_t, vgd_f, wgd_t, wgd_f]
      (refine hk _ ?_; clear hk)
      refine awp_seq' fun k hk => awp_region_draw (et := Try.et) Try.mixed Try.vtOK Try.etOK ?_
      simp (maxSteps := 5000000) (disch := first | (intro _; intros; contradiction) | omega) [i64_in, u8_in, vgd_t, vgd_f, wgd_t, wgd_f]
      (refine ⟨by kernel_rfl, hk _ ?_⟩; clear hk)
      refine awp_ret ⟨.inr rfl, ?_⟩
      simp [Fi.read, Fi.has, hc]

/-- A clone that the caller may write. -/
theorem slices_Clone_int_O (xs : List Int) (h0 : 0 < xs.length) (hx : xs.length < 1000000) : FSpec Try.prog 73 [.c (.d (dL xs))] [] (tupOf [.c (.row 80 xs.length)]) [(80, .row false 3 1 xs.length fun j => [.s (.int .i64 (xs[j]?.getD 0))])] := by
  refine fspec_introM (ma := _) Try.func73 (by kernel_rfl) rfl Try.vtOK rfl Try.ntmps73 (by simp) (by simp [lk_cons]) ?_
  refine awp_seq' fun k hk => awp_region (et := Try.et) Try.vtOK Try.etOK ?_
  simp (maxSteps := 5000000) (disch := first | (intro _; intros; contradiction) | omega) [i64_in, u8_in, vgd_t, vgd_f, wgd_t, wgd_f]
  (refine hk _ ?_; clear hk)
  refine awp_seq' fun k1 hk1 => ?_
  refine awp_seq' fun k hk => awp_region (et := Try.et) Try.vtOK Try.etOK ?_
  simp (maxSteps := 5000000) (disch := first | (intro _; intros; contradiction) | omega) [i64_in, u8_in, vgd_t, vgd_f, wgd_t, wgd_f, dL]
  refine ⟨h0, ?_⟩
  (refine hk _ ?_; clear hk)
  refine awp_cond rfl rfl (fun hc => ?_) (fun hc => ?_)
  · simp at hc
  · refine awp_skip ?_
    (refine hk1 _ ?_; clear hk1)
    refine awp_seq' fun k hk => awp_region (et := Try.et) Try.vtOK Try.etOK ?_
    simp (maxSteps := 5000000) (disch := first | (intro _; intros; contradiction) | omega) [i64_in, u8_in, vgd_t, vgd_f, wgd_t, wgd_f]
    refine ⟨by omega, ?_⟩
    (refine hk _ ?_; clear hk)
    refine awp_ret ⟨.inr rfl, ?_⟩
    simp

theorem fifo_Write_S (x : Fi) (t : Bool) (w : Int) (h : x.ok) : FSpec Try.prog 59 [.agg x.c, tB t, tI .i64 w] [] (.tup [.agg (x.write t w).c, tB (t && x.room)]) [] := by
  obtain ⟨hcap, hws, hwr, hrd, hs0, hs1, ht0, ht1⟩ := id h
  refine fspec_intro Try.func59 (by kernel_rfl) rfl Try.vtOK rfl Try.ntmps59 (by simp) ?_
  refine awp_seq' fun k1 hk1 => awp_region (et := Try.et) Try.vtOK Try.etOK ?_
  simp (maxSteps := 5000000) (disch := first | (intro _; intros; contradiction) | omega) [i64_in, u8_in, vgd_t, vgd_f, wgd_t, wgd_f]
  (refine hk1 _ ?_; clear hk1)
  refine awp_seq' fun k2 hk2 => awp_region (et := Try.et) Try.vtOK Try.etOK ?_
  have h2 : ∀ s, Weak s ⟨[(8, tB (t && x.room)), (3, .c (.ptr 48 0)), (2, tI .i64 w), (6, .c (.ptr 96 0)), (7, tB false)], [(48, .box false x.c), (96, .box false (Fi.none).c)]⟩ → k2 s := by
    intro s hw
    refine hk2 s (awp_weak hw ?_)
    refine awp_seq' fun k3 hk3 => ?_
    have h3 : ∀ (y : Fi) s, Weak s ⟨[(8, tB (t && x.room)), (3, .c (.ptr 48 0)), (6, .c (.ptr 96 0)), (7, tB false)], [(48, .box false y.c), (96, .box false (Fi.none).c)]⟩ → x.write t w = { y with t0 := y.rd, t1 := y.t0 } → k3 s := by
      intro y s hw hy
      refine hk3 s (awp_weak hw ?_)
      refine awp_seq' fun k7 hk7 => awp_region (et := Try.et) Try.vtOK Try.etOK ?_
      simp (maxSteps := 5000000) (disch := first | (intro _; intros; contradiction) | omega) [i64_in, u8_in, vgd_t, vgd_f, wgd_t, wgd_f]
      refine vcall_ob (fifo_advance_R y y.rd) [(1000000, 48)] rfl (by simp) (by simp) (by simp) ?_
      simp (maxSteps := 5000000) (disch := first | (intro _; intros; contradiction) | omega) [i64_in, u8_in, vgd_t, vgd_f, wgd_t, wgd_f]
      (refine hk7 _ ?_; clear hk7)
      refine awp_seq' fun k8 hk8 => awp_region (et := Try.et) Try.vtOK Try.etOK ?_
      simp (maxSteps := 5000000) (disch := first | (intro _; intros; contradiction) | omega) [i64_in, u8_in, vgd_t, vgd_f, wgd_t, wgd_f]
      (refine hk8 _ ?_; clear hk8)
      refine awp_ret ⟨.inr rfl, ?_⟩
      simp [hy]
    refine awp_seq' fun k4 hk4 => awp_region (et := Try.et) Try.vtOK Try.etOK ?_
    simp (maxSteps := 5000000) (disch := first | (intro _; intros; contradiction) | omega) [i64_in, u8_in, vgd_t, vgd_f, wgd_t, wgd_f]
    (refine hk4 _ ?_; clear hk4)
    refine awp_cond rfl rfl (fun hc => ?_) (fun hc => ?_)
    · refine awp_seq' fun k5 hk5 => awp_region (et := Try.et) Try.vtOK Try.etOK ?_
      simp (maxSteps := 5000000) (disch := first | (intro _; intros; contradiction) | omega) [i64_in, u8_in, vgd_t, vgd_f, wgd_t, wgd_f]
      refine vcall_ob (slices_Clone_int_O x.ws (by omega) (by omega)) [(80, 273)] rfl (by simp) (by simp) (by simp) ?_
      simp (maxSteps := 5000000) (disch := first | (intro _; intros; contradiction) | omega) [i64_in, u8_in, vgd_t, vgd_f, wgd_t, wgd_f]
      (refine hk5 _ ?_; clear hk5)
      refine awp_seq' fun k6 hk6 => awp_region_draw (et := Try.et) Try.mixed Try.vtOK Try.etOK ?_
      simp (maxSteps := 5000000) (disch := first | (intro _; intros; contradiction) | omega) [i64_in, u8_in, vgd_t, vgd_f, wgd_t, wgd_f, rem_in]
      have hm := Int.emod_nonneg x.wr (b := x.cap) (by omega)
      have hm2 := Int.emod_lt_of_pos x.wr (b := x.cap) (by omega)
      refine ⟨by omega, ⟨hm, by omega⟩, ?_⟩
      (refine ⟨by kernel_rfl, hk6 _ ?_⟩; clear hk6)
      refine awp_region (et := Try.et) Try.vtOK Try.etOK ?_
      simp (maxSteps := 5000000) (disch := first | (intro _; intros; contradiction) | omega) [i64_in, u8_in, vgd_t, vgd_f, wgd_t, wgd_f]
      refine vcall_fn rfl (by simp) (LeTs.refl _) (ring_next_S _ _ hcap hwr) ?_
      simp (maxSteps := 5000000) (disch := first | (intro _; intros; contradiction) | omega) [i64_in, u8_in, vgd_t, vgd_f, wgd_t, wgd_f]
      have hlt : (x.wr % x.cap).toNat < x.ws.length := by omega
      refine h3 { x with ws := x.ws.set (x.wr % x.cap).toNat w, wr := (x.wr + 1) % (2 * x.cap) } _ ((weak_boxR [] (b := 48) rfl rfl (by simp) (by simp)).trans (weak_mk (by simp) ?_ (by simp))) ?_
      · simp
        refine LeD_dL (by simp) fun j hj => ?_
        split
        · rename_i e; subst e; simp [hj]
        · rename_i e; rw [List.getElem?_set_ne (Ne.symm e)]
      · simp only [Fi.write, hc]
        rfl
    · refine awp_skip ?_
      refine h3 x _ (weak_mk (by simp) (by simp) (by simp)) ?_
      simp only [Fi.write, hc]
      rfl
  cases t
  · simp (maxSteps := 5000000) (disch := first | (intro _; intros; contradiction) | omega) [i64_in, u8_in, vgd_t, vgd_f, wgd_t, wgd_f]
    refine h2 _ (weak_mk (by simp) (by simp) (by simp))
  · simp (maxSteps := 5000000) (disch := first | (intro _; intros; contradiction) | omega) [i64_in, u8_in, vgd_t, vgd_f, wgd_t, wgd_f]
    refine vcall_fn rfl (by simp) (LeTs.refl _) (fifo_Room_S x h) ?_
    simp (maxSteps := 5000000) (disch := first | (intro _; intros; contradiction) | omega) [i64_in, u8_in, vgd_t, vgd_f, wgd_t, wgd_f]
    refine h2 _ (weak_mk (by simp [Fi.room, Fi.mn]) (by simp) (by simp))

theorem law43_write_S (x : Fi) (t : Bool) (w : Int) (h : x.ok) : FSpec Try.prog 21 [.agg x.c, tB t, tI .i64 w] [] (.agg (Ti.c ⟨x.write t w, t && x.room, false, 0⟩)) [] := by
  refine fspec_intro Try.func21 (by kernel_rfl) rfl Try.vtOK rfl Try.ntmps21 (by simp) ?_
  refine awp_seq' fun k1 hk1 => awp_region (et := Try.et) Try.vtOK Try.etOK ?_
  simp (maxSteps := 5000000) (disch := first | (intro _; intros; contradiction) | omega) [i64_in, u8_in, vgd_t, vgd_f, wgd_t, wgd_f]
  (refine hk1 _ ?_; clear hk1)
  refine awp_seq' fun k2 hk2 => awp_region (et := Try.et) Try.vtOK Try.etOK ?_
  simp (maxSteps := 5000000) (disch := first | (intro _; intros; contradiction) | omega) [i64_in, u8_in, vgd_t, vgd_f, wgd_t, wgd_f]
  refine vcall_fn rfl (by simp) (LeTs.refl _) (fifo_Write_S x t w h) ?_
  simp (maxSteps := 5000000) (disch := first | (intro _; intros; contradiction) | omega) [i64_in, u8_in, vgd_t, vgd_f, wgd_t, wgd_f]
  (refine hk2 _ ?_; clear hk2)
  refine awp_seq' fun k3 hk3 => awp_region (et := Try.et) Try.vtOK Try.etOK ?_
  simp (maxSteps := 5000000) (disch := first | (intro _; intros; contradiction) | omega) [i64_in, u8_in, vgd_t, vgd_f, wgd_t, wgd_f]
  (refine hk3 _ ?_; clear hk3)
  refine awp_ret ⟨.inr rfl, ?_⟩
  simp

theorem law43_read_S (x : Fi) (t : Bool) (h : x.ok) : FSpec Try.prog 23 [.agg x.c, tB t] [] (.agg (Ti.c ⟨x.read t, false, t && x.has, if t && x.has then x.word 0 else 0⟩)) [] := by
  refine fspec_intro Try.func23 (by kernel_rfl) rfl Try.vtOK rfl Try.ntmps23 (by simp) ?_
  refine awp_seq' fun k1 hk1 => awp_region (et := Try.et) Try.vtOK Try.etOK ?_
  simp (maxSteps := 5000000) (disch := first | (intro _; intros; contradiction) | omega) [i64_in, u8_in, vgd_t, vgd_f, wgd_t, wgd_f]
  (refine hk1 _ ?_; clear hk1)
  refine awp_seq' fun k2 hk2 => awp_region (et := Try.et) Try.vtOK Try.etOK ?_
  simp (maxSteps := 5000000) (disch := first | (intro _; intros; contradiction) | omega) [i64_in, u8_in, vgd_t, vgd_f, wgd_t, wgd_f]
  refine vcall_fn rfl (by simp) (LeTs.refl _) (fifo_Read_S x t h) ?_
  simp (maxSteps := 5000000) (disch := first | (intro _; intros; contradiction) | omega) [i64_in, u8_in, vgd_t, vgd_f, wgd_t, wgd_f]
  (refine hk2 _ ?_; clear hk2)
  refine awp_seq' fun k3 hk3 => awp_region (et := Try.et) Try.vtOK Try.etOK ?_
  simp (maxSteps := 5000000) (disch := first | (intro _; intros; contradiction) | omega) [i64_in, u8_in, vgd_t, vgd_f, wgd_t, wgd_f]
  (refine hk3 _ ?_; clear hk3)
  refine awp_ret ⟨.inr rfl, ?_⟩
  simp
end Go.Proofs

namespace Go.Proofs
open Go.V IntWalk
set_option maxRecDepth 100000
set_option linter.unusedSimpArgs false
set_option linter.unusedVariables false

theorem ref43_ReadIn_S (x : Fi) (t : Bool) (h : x.ok) : FSpec Try.prog 24 [.agg x.c, tB t] [] (.agg (Ti.c ⟨x.read t, false, t && x.has, if t && x.has then x.word 0 else 0⟩)) [] := by
  obtain ⟨hcap, hws, hwr, hrd, hs0, hs1, ht0, ht1⟩ := id h
  refine fspec_intro Try.func24 (by kernel_rfl) rfl Try.vtOK rfl Try.ntmps24 (by simp) ?_
  refine awp_seq' fun k1 hk1 => awp_region (et := Try.et) Try.vtOK Try.etOK ?_
  simp (maxSteps := 5000000) (disch := first | (intro _; intros; contradiction) | omega) [i64_in, u8_in, vgd_t, vgd_f, wgd_t, wgd_f]
  (refine hk1 _ ?_; clear hk1)
  refine awp_seq' fun k2 hk2 => awp_region (et := Try.et) Try.vtOK Try.etOK ?_
  simp (maxSteps := 5000000) (disch := first | (intro _; intros; contradiction) | omega) [i64_in, u8_in, vgd_t, vgd_f, wgd_t, wgd_f]
  (refine hk2 _ ?_; clear hk2)
  refine awp_seq' fun k3 hk3 => ?_
  have h3 : ∀ (y : Fi) s, Weak s ⟨[(2, .c (.ptr 32 0)), (5, .c (.ptr 80 0)), (4, .c (.ptr 64 0))], [(32, .box false x.c), (80, .box false (Ti.c ⟨y, false, t && x.has, if t && x.has then x.word 0 else 0⟩)), (64, .box false (Ti.c ⟨Fi.none, false, false, 0⟩))]⟩ →
      x.read t = { y with s0 := x.wr, s1 := x.s0 } → k3 s := by
    intro y s hw hy
    refine hk3 s (awp_weak hw ?_)
    refine awp_seq' fun k7 hk7 => awp_region (et := Try.et) Try.vtOK Try.etOK ?_
    simp (maxSteps := 5000000) (disch := first | (intro _; intros; contradiction) | omega) [i64_in, u8_in, vgd_t, vgd_f, wgd_t, wgd_f]
    (refine hk7 _ ?_; clear hk7)
    refine awp_seq' fun k8 hk8 => awp_region (et := Try.et) Try.vtOK Try.etOK ?_
    simp (maxSteps := 5000000) (disch := first | (intro _; intros; contradiction) | omega) [i64_in, u8_in, vgd_t, vgd_f, wgd_t, wgd_f]
    (refine hk8 _ ?_; clear hk8)
    refine awp_ret ⟨.inr rfl, ?_⟩
    simp [hy]
  refine awp_seq' fun k4 hk4 => awp_region (et := Try.et) Try.vtOK Try.etOK ?_
  have h4 : ∀ s, Weak s ⟨[(12, tB (t && x.has)), (2, .c (.ptr 32 0)), (5, .c (.ptr 80 0)), (4, .c (.ptr 64 0))], [(32, .box false x.c), (80, .box false (Ti.c ⟨x, false, false, 0⟩)), (64, .box false (Ti.c ⟨Fi.none, false, false, 0⟩))]⟩ → k4 s := by
    intro s hw
    refine hk4 s (awp_weak hw ?_)
    refine awp_cond rfl rfl (fun hc => ?_) (fun hc => ?_)
    · refine awp_seq' fun k5 hk5 => awp_region_draw (et := Try.et) Try.mixed Try.vtOK Try.etOK ?_
      simp (maxSteps := 5000000) (disch := first | (intro _; intros; contradiction) | omega) [i64_in, u8_in, vgd_t, vgd_f, wgd_t, wgd_f, rem_in]
      have hm := Int.emod_nonneg x.rd (b := x.cap) (by omega)
      have hm2 := Int.emod_lt_of_pos x.rd (b := x.cap) (by omega)
      refine ⟨by omega, ⟨hm, by omega⟩, ?_⟩
      (refine ⟨by kernel_rfl, hk5 _ ?_⟩; clear hk5)
      refine awp_region (et := Try.et) Try.vtOK Try.etOK ?_
      simp (maxSteps := 5000000) (disch := first | (intro _; intros; contradiction) | omega) [i64_in, u8_in, vgd_t, vgd_f, wgd_t, wgd_f, rem_in]
      refine ⟨by omega, ?_⟩
      have hlt : (x.rd % x.cap).toNat < x.ws.length := by omega
      refine h3 { x with rd := (x.rd + 1) % (2 * x.cap) } _ (weak_mk (by simp) (by simp [Fi.word, hlt, hc]) (by simp)) ?_
      simp [Fi.read, hc]
    · refine awp_skip ?_
      refine h3 x _ (weak_mk (by simp) (by simp [hc]) (by simp)) ?_
      simp [Fi.read, hc]
  cases t
  · simp (maxSteps := 5000000) (disch := first | (intro _; intros; contradiction) | omega) [i64_in, u8_in, vgd_t, vgd_f, wgd_t, wgd_f]
    refine h4 _ (weak_mk (by simp) (by simp) (by simp))
  · simp (maxSteps := 5000000) (disch := first | (intro _; intros; contradiction) | omega) [i64_in, u8_in, vgd_t, vgd_f, wgd_t, wgd_f]
    refine vcall_fn rfl (by simp) (LeTs.refl _) (ref43_Has_S x) ?_
    simp (maxSteps := 5000000) (disch := first | (intro _; intros; contradiction) | omega) [i64_in, u8_in, vgd_t, vgd_f, wgd_t, wgd_f]
    refine h4 _ (weak_mk (by simp [Fi.has]) (by simp) (by simp))

theorem ref43_WriteIn_S (x : Fi) (t : Bool) (w : Int) (h : x.ok) : FSpec Try.prog 22 [.agg x.c, tB t, tI .i64 w] [] (.agg (Ti.c ⟨x.write t w, t && x.room, false, 0⟩)) [] := by
  obtain ⟨hcap, hws, hwr, hrd, hs0, hs1, ht0, ht1⟩ := id h
  refine fspec_intro Try.func22 (by kernel_rfl) rfl Try.vtOK rfl Try.ntmps22 (by simp) ?_
  refine awp_seq' fun k1 hk1 => awp_region (et := Try.et) Try.vtOK Try.etOK ?_
  simp (maxSteps := 5000000) (disch := first | (intro _; intros; contradiction) | omega) [i64_in, u8_in, vgd_t, vgd_f, wgd_t, wgd_f]
  (refine hk1 _ ?_; clear hk1)
  refine awp_seq' fun k2 hk2 => awp_region (et := Try.et) Try.vtOK Try.etOK ?_
  simp (maxSteps := 5000000) (disch := first | (intro _; intros; contradiction) | omega) [i64_in, u8_in, vgd_t, vgd_f, wgd_t, wgd_f]
  (refine hk2 _ ?_; clear hk2)
  refine awp_seq' fun k3 hk3 => ?_
  have h3 : ∀ (y : Fi) s, Weak s ⟨[(3, .c (.ptr 48 0)), (7, .c (.ptr 112 0)), (6, .c (.ptr 96 0))], [(48, .box false x.c), (112, .box false (Ti.c ⟨y, t && x.room, false, 0⟩)), (96, .box false (Ti.c ⟨Fi.none, false, false, 0⟩))]⟩ →
      x.write t w = { y with t0 := x.rd, t1 := x.t0 } → k3 s := by
    intro y s hw hy
    refine hk3 s (awp_weak hw ?_)
    refine awp_seq' fun k7 hk7 => awp_region (et := Try.et) Try.vtOK Try.etOK ?_
    simp (maxSteps := 5000000) (disch := first | (intro _; intros; contradiction) | omega) [i64_in, u8_in, vgd_t, vgd_f, wgd_t, wgd_f]
    (refine hk7 _ ?_; clear hk7)
    refine awp_seq' fun k8 hk8 => awp_region (et := Try.et) Try.vtOK Try.etOK ?_
    simp (maxSteps := 5000000) (disch := first | (intro _; intros; contradiction) | omega) [i64_in, u8_in, vgd_t, vgd_f, wgd_t, wgd_f]
    (refine hk8 _ ?_; clear hk8)
    refine awp_ret ⟨.inr rfl, ?_⟩
    simp [hy]
  refine awp_seq' fun k4 hk4 => awp_region (et := Try.et) Try.vtOK Try.etOK ?_
  have h4 : ∀ s, Weak s ⟨[(14, tB (t && x.room)), (2, tI .i64 w), (3, .c (.ptr 48 0)), (7, .c (.ptr 112 0)), (6, .c (.ptr 96 0))], [(48, .box false x.c), (112, .box false (Ti.c ⟨x, false, false, 0⟩)), (96, .box false (Ti.c ⟨Fi.none, false, false, 0⟩))]⟩ → k4 s := by
    intro s hw
    refine hk4 s (awp_weak hw ?_)
    refine awp_cond rfl rfl (fun hc => ?_) (fun hc => ?_)
    · refine awp_seq' fun k5 hk5 => awp_region (et := Try.et) Try.vtOK Try.etOK ?_
      simp (maxSteps := 5000000) (disch := first | (intro _; intros; contradiction) | omega) [i64_in, u8_in, vgd_t, vgd_f, wgd_t, wgd_f]
      (refine hk5 _ ?_; clear hk5)
      refine awp_seq' fun k6 hk6 => awp_region (et := Try.et) Try.vtOK Try.etOK ?_
      simp (maxSteps := 5000000) (disch := first | (intro _; intros; contradiction) | omega) [i64_in, u8_in, vgd_t, vgd_f, wgd_t, wgd_f]
      refine ⟨by omega, ?_⟩
      (refine hk6 _ ?_; clear hk6)
      refine awp_seq' fun k9 hk9 => awp_region_draw (et := Try.et) Try.mixed Try.vtOK Try.etOK ?_
      simp (maxSteps := 5000000) (disch := first | (intro _; intros; contradiction) | omega) [i64_in, u8_in, vgd_t, vgd_f, wgd_t, wgd_f, rem_in]
      have hm := Int.emod_nonneg x.wr (b := x.cap) (by omega)
      have hm2 := Int.emod_lt_of_pos x.wr (b := x.cap) (by omega)
      refine ⟨by omega, ⟨hm, by omega⟩, ?_⟩
      (refine ⟨by kernel_rfl, hk9 _ ?_⟩; clear hk9)
      refine awp_region (et := Try.et) Try.vtOK Try.etOK ?_
      simp (maxSteps := 5000000) (disch := first | (intro _; intros; contradiction) | omega) [i64_in, u8_in, vgd_t, vgd_f, wgd_t, wgd_f, rem_in]
      refine ⟨by omega, ?_⟩
      have hlt : (x.wr % x.cap).toNat < x.ws.length := by omega
      refine h3 { x with ws := x.ws.set (x.wr % x.cap).toNat w, wr := (x.wr + 1) % (2 * x.cap) } _ ((weak_boxR [] (b := 112) rfl rfl (by simp) (by simp)).trans (weak_mk (by simp) ?_ (by simp))) ?_
      · simp [hc]
        refine LeD_dL (by simp) fun j hj => ?_
        split
        · rename_i e; subst e; simp [hj]
        · rename_i e; rw [List.getElem?_set_ne (Ne.symm e)]
      · simp only [Fi.write, hc]
        rfl
    · refine awp_skip ?_
      refine h3 x _ (weak_mk (by simp) (by simp [hc]) (by simp)) ?_
      simp only [Fi.write, hc]
      rfl
  cases t
  · simp (maxSteps := 5000000) (disch := first | (intro _; intros; contradiction) | omega) [i64_in, u8_in, vgd_t, vgd_f, wgd_t, wgd_f]
    refine h4 _ (weak_mk (by simp) (by simp) (by simp))
  · simp (maxSteps := 5000000) (disch := first | (intro _; intros; contradiction) | omega) [i64_in, u8_in, vgd_t, vgd_f, wgd_t, wgd_f]
    refine vcall_fn rfl (by simp) (LeTs.refl _) (ref43_Room_S x h) ?_
    simp (maxSteps := 5000000) (disch := first | (intro _; intros; contradiction) | omega) [i64_in, u8_in, vgd_t, vgd_f, wgd_t, wgd_f]
    refine h4 _ (weak_mk (by simp [Fi.room, Fi.mn]) (by simp) (by simp))
end Go.Proofs

namespace Go.Proofs
open Go.V IntWalk
set_option maxRecDepth 100000
set_option linter.unusedSimpArgs false
set_option linter.unusedVariables false

theorem Fi.mn_lt (x : Fi) (h : 1 ≤ x.cap ∧ x.cap ≤ 8) (a b : Int) : 0 ≤ (a - b) % (2 * x.cap) ∧ (a - b) % (2 * x.cap) < 16 := by
  have h1 := Int.emod_nonneg (a - b) (b := 2 * x.cap) (by omega)
  have h2 := Int.emod_lt_of_pos (a - b) (b := 2 * x.cap) (by omega)
  omega

/-- The pointers of a queue. -/
def Fi.ps (x : Fi) : List Int := [x.wr, x.rd, x.s0, x.s1, x.t0, x.t1]

theorem Fi.ok_iff (x : Fi) : x.ok ↔ (1 ≤ x.cap ∧ x.cap ≤ 8 ∧ (x.ws.length : Int) = x.cap) ∧ ∀ j < 6, 0 ≤ x.ps[j]?.getD 0 ∧ x.ps[j]?.getD 0 < 2 * x.cap := by
  constructor
  · rintro ⟨h1, h2, h3, h4, h5, h6, h7, h8⟩
    refine ⟨⟨h1.1, h1.2, h2⟩, fun j hj => ?_⟩
    have : j = 0 ∨ j = 1 ∨ j = 2 ∨ j = 3 ∨ j = 4 ∨ j = 5 := by omega
    rcases this with rfl | rfl | rfl | rfl | rfl | rfl <;> simpa [Fi.ps]
  · rintro ⟨⟨h1, h2, h3⟩, h⟩
    exact ⟨⟨h1, h2⟩, h3, by simpa [Fi.ps] using h 0 (by omega), by simpa [Fi.ps] using h 1 (by omega), by simpa [Fi.ps] using h 2 (by omega), by simpa [Fi.ps] using h 3 (by omega), by simpa [Fi.ps] using h 4 (by omega), by simpa [Fi.ps] using h 5 (by omega)⟩

theorem fifo_Valid_S (x : Fi) (hl : x.ws.length < 1000000) : FSpec Try.prog 18 [.agg x.c] [] (tI .i64 (if x.good then 0 else 430)) [] := by
  refine fspec_intro Try.func18 (by kernel_rfl) rfl Try.vtOK rfl Try.ntmps18 (by simp) ?_
  refine awp_seq' fun k1 hk1 => awp_region (et := Try.et) Try.vtOK Try.etOK ?_
  simp (maxSteps := 5000000) (disch := first | (intro _; intros; contradiction) | omega) [i64_in, u8_in, vgd_t, vgd_f, wgd_t, wgd_f]
  (refine hk1 _ ?_; clear hk1)
  refine awp_seq' fun k2 hk2 => awp_region (et := Try.et) Try.vtOK Try.etOK ?_
  simp (maxSteps := 5000000) (disch := first | (intro _; intros; contradiction) | omega) [i64_in, u8_in, vgd_t, vgd_f, wgd_t, wgd_f]
  (refine hk2 _ ?_; clear hk2)
  refine awp_seq' fun k3 hk3 => ?_
  refine awp_seq' fun k4 hk4 => awp_region (et := Try.et) Try.vtOK Try.etOK ?_
  have h4 : ∀ s b, (b = true ↔ ¬ (1 ≤ x.cap ∧ x.cap ≤ 8 ∧ (x.ws.length : Int) = x.cap)) → Weak s ⟨[(26, tB b), (3, tI .i64 x.cap), (1, .c (.ptr 16 0)), (2, tI .i64 0)], [(16, .box false x.c)]⟩ → k4 s := by
    intro s b hb hw
    refine hk4 s (awp_weak hw ?_)
    refine awp_cond rfl rfl (fun hc => ?_) (fun hc => ?_)
    · refine awp_seq' fun k5 hk5 => awp_region (et := Try.et) Try.vtOK Try.etOK ?_
      simp (maxSteps := 5000000) (disch := first | (intro _; intros; contradiction) | omega) [i64_in, u8_in, vgd_t, vgd_f, wgd_t, wgd_f]
      (refine hk5 _ ?_; clear hk5)
      refine awp_ret ⟨.inr rfl, ?_⟩
      have : ¬ x.good := fun hg => hb.1 hc ⟨hg.cap.1, hg.cap.2, hg.ws⟩
      simp [this]
    · refine awp_skip ?_
      have hcl : 1 ≤ x.cap ∧ x.cap ≤ 8 ∧ (x.ws.length : Int) = x.cap := by
        apply Classical.byContradiction
        intro hn
        have := hb.2 hn
        rw [this] at hc
        cases hc
      (refine hk3 _ ?_; clear hk3)
      refine awp_seq' fun k6 hk6 => awp_region (et := Try.et) Try.vtOK Try.etOK ?_
      simp (maxSteps := 5000000) (disch := first | (intro _; intros; contradiction) | omega) [i64_in, u8_in, vgd_t, vgd_f, wgd_t, wgd_f]
      (refine hk6 _ ?_; clear hk6)
      refine awp_seq' fun k7 hk7 => ?_
      refine awp_seq' fun k8 hk8 => awp_region (et := Try.et) Try.vtOK Try.etOK ?_
      simp (maxSteps := 5000000) (disch := first | (intro _; intros; contradiction) | omega) [i64_in, u8_in, vgd_t, vgd_f, wgd_t, wgd_f]
      (refine hk8 _ ?_; clear hk8)
      refine awp_block (awp_for (fun n s => ∃ i : Nat, n = 6 - i ∧ i ≤ 6 ∧ (∀ j < i, 0 ≤ x.ps[j]?.getD 0 ∧ x.ps[j]?.getD 0 < 2 * x.cap) ∧ s = ⟨[(46, tI .i64 i), (45, .agg (x.ps.map fun p => .d (.s (.int .i64 p)))), (4, .c (.d (.s (.func (.func 54) #[.int .i64 x.cap] #[])))), (3, tI .i64 x.cap), (1, .c (.ptr 16 0)), (2, tI .i64 0)], [(16, .box false x.c)]⟩) 6 (weak_mk (by simp [Fi.ps]) (by simp) (by simp)) ⟨0, rfl, by omega, fun j hj => by omega, rfl⟩ ?_)
      rintro n s ⟨i, rfl, hi, hp, rfl⟩ k hk
      refine awp_seq' fun k9 hk9 => awp_region (et := Try.et) Try.vtOK Try.etOK ?_
      simp (maxSteps := 5000000) (disch := first | (intro _; intros; contradiction) | omega) [i64_in, u8_in, vgd_t, vgd_f, wgd_t, wgd_f]
      (refine hk9 _ ?_; clear hk9)
      refine awp_seq' fun k10 hk10 => ?_
      refine awp_cond rfl rfl (fun hc => ?_) (fun hc => ?_)
      · refine awp_skip ?_
        (refine hk10 _ ?_; clear hk10)
        simp at hc
        refine awp_seq' fun k11 hk11 => ?_
        refine awp_block ?_
        refine awp_seq' fun k12 hk12 => awp_region (et := Try.et) Try.vtOK Try.etOK ?_
        have hstep : ∀ (p : Int) s, x.ps[i]?.getD 0 = p → Weak s ⟨[(6, tI .i64 p), (46, tI .i64 i), (45, .agg (x.ps.map fun p => .d (.s (.int .i64 p)))), (4, .c (.d (.s (.func (.func 54) #[.int .i64 x.cap] #[])))), (3, tI .i64 x.cap), (1, .c (.ptr 16 0)), (2, tI .i64 0)], [(16, .box false x.c)]⟩ → k12 s := by
          intro p s hpi hw
          refine hk12 s (awp_weak hw ?_)
          refine awp_seq' fun k13 hk13 => awp_region (et := Try.et) Try.vtOK Try.etOK ?_
          simp (maxSteps := 5000000) (disch := first | (intro _; intros; contradiction) | omega) [i64_in, u8_in, vgd_t, vgd_f, wgd_t, wgd_f]
          refine vcall_fn rfl (by simp) (LeTs.refl _) (ring_within_S x.cap p ⟨hcl.1, hcl.2.1⟩) ?_
          simp (maxSteps := 5000000) (disch := first | (intro _; intros; contradiction) | omega) [i64_in, u8_in, vgd_t, vgd_f, wgd_t, wgd_f]
          (refine hk13 _ ?_; clear hk13)
          refine awp_cond rfl rfl (fun hc9 => ?_) (fun hc9 => ?_)
          · refine awp_seq' fun k14 hk14 => awp_region (et := Try.et) Try.vtOK Try.etOK ?_
            simp (maxSteps := 5000000) (disch := first | (intro _; intros; contradiction) | omega) [i64_in, u8_in, vgd_t, vgd_f, wgd_t, wgd_f]
            (refine hk14 _ ?_; clear hk14)
            refine awp_ret ⟨.inr rfl, ?_⟩
            have : ¬ x.good := fun hg => by
              have := ((Fi.ok_iff x).1 hg.took).2 i (by omega)
              rw [hpi] at this
              simp [this.1, this.2] at hc9
            simp [this]
          · refine awp_skip ?_
            (refine hk11 _ ?_; clear hk11)
            refine awp_region (et := Try.et) Try.vtOK Try.etOK ?_
            simp (maxSteps := 5000000) (disch := first | (intro _; intros; contradiction) | omega) [i64_in, u8_in, vgd_t, vgd_f, wgd_t, wgd_f]
            refine hk _ _ _ (by omega) ⟨i + 1, rfl, by omega, fun j hj => ?_, rfl⟩ (weak_mk (by simp) (by simp) (by simp))
            by_cases e : j < i
            · exact hp j e
            · have : j = i := by omega
              subst this
              rw [hpi]
              simpa using hc9
        have hi6 : i = 0 ∨ i = 1 ∨ i = 2 ∨ i = 3 ∨ i = 4 ∨ i = 5 := by omega
        rcases hi6 with rfl | rfl | rfl | rfl | rfl | rfl
        all_goals
          simp (maxSteps := 5000000) (disch := first | (intro _; intros; contradiction) | omega) [i64_in, u8_in, vgd_t, vgd_f, wgd_t, wgd_f, Fi.ps]
          exact hstep _ _ rfl (weak_mk (by simp [Fi.ps]) (by simp) (by simp))
      · refine awp_exit ?_
        simp at hc ⊢
        have hi6 : i = 6 := by omega
        subst hi6
        have hok : x.ok := (Fi.ok_iff x).2 ⟨hcl, hp⟩
        obtain ⟨hcap, hws, hwr, hrd, hs0, hs1, ht0, ht1⟩ := id hok
        have b1 := x.mn_lt hcap x.rd x.t0
        have b2 := x.mn_lt hcap x.t0 x.t1
        have b3 := x.mn_lt hcap x.wr x.s0
        have b4 := x.mn_lt hcap x.s0 x.s1
        have b5 := x.mn_lt hcap x.wr x.rd
        (refine hk7 _ ?_; clear hk7)
        refine awp_seq' fun k15 hk15 => awp_region_draw (et := Try.et) Try.mixed Try.vtOK Try.etOK ?_
        simp (maxSteps := 5000000) (disch := first | (intro _; intros; contradiction) | omega) [i64_in, u8_in, vgd_t, vgd_f, wgd_t, wgd_f]
        refine wcall_fn rfl (by simp) (LeTs.refl _) (ring_minus_S _ _ _ hcap hrd ht0) ?_
        simp (maxSteps := 5000000) (disch := first | (intro _; intros; contradiction) | omega) [i64_in, u8_in, vgd_t, vgd_f, wgd_t, wgd_f]
        refine wcall_fn rfl (by simp) (LeTs.refl _) (ring_minus_S _ _ _ hcap ht0 ht1) ?_
        simp (maxSteps := 5000000) (disch := first | (intro _; intros; contradiction) | omega) [i64_in, u8_in, vgd_t, vgd_f, wgd_t, wgd_f]
        (refine ⟨by kernel_rfl, hk15 _ ?_⟩; clear hk15)
        refine awp_seq' fun k16 hk16 => awp_region_draw (et := Try.et) Try.mixed Try.vtOK Try.etOK ?_
        simp (maxSteps := 5000000) (disch := first | (intro _; intros; contradiction) | omega) [i64_in, u8_in, vgd_t, vgd_f, wgd_t, wgd_f]
        refine wcall_fn rfl (by simp) (LeTs.refl _) (ring_minus_S _ _ _ hcap hwr hs0) ?_
        simp (maxSteps := 5000000) (disch := first | (intro _; intros; contradiction) | omega) [i64_in, u8_in, vgd_t, vgd_f, wgd_t, wgd_f]
        refine wcall_fn rfl (by simp) (LeTs.refl _) (ring_minus_S _ _ _ hcap hs0 hs1) ?_
        simp (maxSteps := 5000000) (disch := first | (intro _; intros; contradiction) | omega) [i64_in, u8_in, vgd_t, vgd_f, wgd_t, wgd_f]
        (refine ⟨by kernel_rfl, hk16 _ ?_⟩; clear hk16)
        refine awp_seq' fun k17 hk17 => ?_
        refine awp_seq' fun k18 hk18 => awp_region_draw (et := Try.et) Try.mixed Try.vtOK Try.etOK ?_
        have h18 : ∀ s b, (b = true ↔ ¬ x.good) → Weak s ⟨[(98, tB b), (2, tI .i64 0)], []⟩ → k18 s := by
          intro s b hb hw
          refine hk18 s (awp_weak hw ?_)
          refine awp_cond rfl rfl (fun hc9 => ?_) (fun hc9 => ?_)
          · refine awp_seq' fun k19 hk19 => awp_region (et := Try.et) Try.vtOK Try.etOK ?_
            simp (maxSteps := 5000000) (disch := first | (intro _; intros; contradiction) | omega) [i64_in, u8_in, vgd_t, vgd_f, wgd_t, wgd_f]
            (refine hk19 _ ?_; clear hk19)
            refine awp_ret ⟨.inr rfl, ?_⟩
            simp [hb.1 hc9]
          · refine awp_skip ?_
            (refine hk17 _ ?_; clear hk17)
            refine awp_seq' fun k20 hk20 => awp_region (et := Try.et) Try.vtOK Try.etOK ?_
            simp (maxSteps := 5000000) (disch := first | (intro _; intros; contradiction) | omega) [i64_in, u8_in, vgd_t, vgd_f, wgd_t, wgd_f]
            (refine hk20 _ ?_; clear hk20)
            refine awp_ret ⟨.inr rfl, ?_⟩
            have : x.good := Classical.byContradiction fun hn => by
              rw [hb.2 hn] at hc9
              cases hc9
            simp [this]
        simp (maxSteps := 5000000) (disch := first | (intro _; intros; contradiction) | omega) [i64_in, u8_in, vgd_t, vgd_f, wgd_t, wgd_f]
        refine wcall_fn rfl (by simp) (LeTs.refl _) (fifo_length_S x hcap hwr hrd) ?_
        simp (maxSteps := 5000000) (disch := first | (intro _; intros; contradiction) | omega) [i64_in, u8_in, vgd_t, vgd_f, wgd_t, wgd_f]
        refine ⟨fun g1 => ?_, fun g1 => ?_⟩
        · refine wcall_fn rfl (by simp) (LeTs.refl _) (fifo_length_S x hcap hwr hrd) ?_
          simp (maxSteps := 5000000) (disch := first | (intro _; intros; contradiction) | omega) [i64_in, u8_in, vgd_t, vgd_f, wgd_t, wgd_f]
          refine ⟨by kernel_rfl, h18 _ (decide ((x.wr - x.rd) % (2 * x.cap) < (x.wr - x.s0) % (2 * x.cap) + (x.s0 - x.s1) % (2 * x.cap))) ?_ (weak_mk (by simp) (by simp) (by simp))⟩
          simp
          constructor
          · intro h hg
            have := hg.unseen
            unfold Fi.mn at this
            omega
          · intro hn
            refine Classical.byContradiction fun h2 => hn ⟨hok, ?_, ?_⟩ <;> unfold Fi.mn <;> omega
        · refine ⟨by kernel_rfl, h18 _ true ?_ (weak_mk (by simp) (by simp) (by simp))⟩
          simp
          intro hg
          have := hg.behind
          unfold Fi.mn at this
          omega
  simp (maxSteps := 5000000) (disch := first | (intro _; intros; contradiction) | omega) [i64_in, u8_in, vgd_t, vgd_f, wgd_t, wgd_f]
  refine ⟨fun h1 => ⟨fun h2 => ?_, fun h2 => ?_⟩, fun h1 => ?_⟩
  · refine h4 _ ((x.ws.length : Int) != x.cap) ?_ (weak_mk (by simp) (by simp) (by simp))
    simp
    omega
  · refine h4 _ true ?_ (weak_mk (by simp) (by simp) (by simp))
    simp
    omega
  · refine h4 _ true ?_ (weak_mk (by simp) (by simp) (by simp))
    simp
    omega
end Go.Proofs

namespace Go.Proofs
open Go.V IntWalk
set_option maxRecDepth 100000
set_option linter.unusedSimpArgs false
set_option linter.unusedVariables false

theorem psF (x : Fi) : LeF 6 (fun j => [[D.s (.int .i64 x.wr)], [D.s (.int .i64 x.rd)], [D.s (.int .i64 x.s0)], [D.s (.int .i64 x.s1)], [D.s (.int .i64 x.t0)], [D.s (.int .i64 x.t1)]][j]?.getD []) (fun j => [D.s (.int .i64 (x.ps[j]?.getD 0))]) :=
  LeD.ext fun j hj => by
    have : j = 0 ∨ j = 1 ∨ j = 2 ∨ j = 3 ∨ j = 4 ∨ j = 5 := by omega
    rcases this with rfl | rfl | rfl | rfl | rfl | rfl <;> rfl

theorem ref43_Valid_S (x : Fi) (hl : x.ws.length < 1000000) : FSpec Try.prog 19 [.agg x.c] [] (tI .i64 (if x.good then 0 else 430)) [] := by
  refine fspec_intro Try.func19 (by kernel_rfl) rfl Try.vtOK rfl Try.ntmps19 (by simp) ?_
  refine awp_seq' fun k1 hk1 => awp_region (et := Try.et) Try.vtOK Try.etOK ?_
  simp (maxSteps := 5000000) (disch := first | (intro _; intros; contradiction) | omega) [i64_in, u8_in, vgd_t, vgd_f, wgd_t, wgd_f]
  (refine hk1 _ ?_; clear hk1)
  refine awp_seq' fun k3 hk3 => ?_
  refine awp_seq' fun k4 hk4 => awp_region (et := Try.et) Try.vtOK Try.etOK ?_
  have h4 : ∀ s b, (b = true ↔ ¬ (1 ≤ x.cap ∧ x.cap ≤ 8 ∧ (x.ws.length : Int) = x.cap)) → Weak s ⟨[(20, tB b), (1, .c (.ptr 16 0)), (2, tI .i64 0)], [(16, .box false x.c)]⟩ → k4 s := by
    intro s b hb hw
    refine hk4 s (awp_weak hw ?_)
    refine awp_cond rfl rfl (fun hc => ?_) (fun hc => ?_)
    · refine awp_seq' fun k5 hk5 => awp_region (et := Try.et) Try.vtOK Try.etOK ?_
      simp (maxSteps := 5000000) (disch := first | (intro _; intros; contradiction) | omega) [i64_in, u8_in, vgd_t, vgd_f, wgd_t, wgd_f]
      (refine hk5 _ ?_; clear hk5)
      refine awp_ret ⟨.inr rfl, ?_⟩
      have : ¬ x.good := fun hg => hb.1 hc ⟨hg.cap.1, hg.cap.2, hg.ws⟩
      simp [this]
    · refine awp_skip ?_
      have hcl : 1 ≤ x.cap ∧ x.cap ≤ 8 ∧ (x.ws.length : Int) = x.cap := by
        apply Classical.byContradiction
        intro hn
        have := hb.2 hn
        rw [this] at hc
        cases hc
      (refine hk3 _ ?_; clear hk3)
      refine awp_seq' fun k6 hk6 => awp_region (et := Try.et) Try.vtOK Try.etOK ?_
      simp (maxSteps := 5000000) (disch := first | (intro _; intros; contradiction) | omega) [i64_in, u8_in, vgd_t, vgd_f, wgd_t, wgd_f]
      (refine hk6 _ ?_; clear hk6)
      refine awp_seq' fun k7 hk7 => ?_
      refine awp_seq' fun k8 hk8 => awp_region (et := Try.et) Try.vtOK Try.etOK ?_
      simp (maxSteps := 5000000) (disch := first | (intro _; intros; contradiction) | omega) [i64_in, u8_in, vgd_t, vgd_f, wgd_t, wgd_f]
      (refine hk8 _ ?_; clear hk8)
      refine awp_block (awp_for (fun n s => ∃ i : Nat, n = 6 - i ∧ i ≤ 6 ∧ (∀ j < i, 0 ≤ x.ps[j]?.getD 0 ∧ x.ps[j]?.getD 0 < 2 * x.cap) ∧ s = ⟨[(4, tI .i64 i), (3, .c (.row 592 6)), (1, .c (.ptr 16 0)), (2, tI .i64 0)], [(592, .row false 3 1 6 fun j => [D.s (.int .i64 (x.ps[j]?.getD 0))]), (16, .box false x.c)]⟩) 6 (weak_mk (by simp [Fi.ps]) (by simp [psF]) (by simp)) ⟨0, rfl, by omega, fun j hj => by omega, rfl⟩ ?_)
      rintro n s ⟨i, rfl, hi, hp, rfl⟩ k hk
      refine awp_seq' fun k10 hk10 => ?_
      refine awp_seq' fun k9 hk9 => awp_region (et := Try.et) Try.vtOK Try.etOK ?_
      simp (maxSteps := 5000000) (disch := first | (intro _; intros; contradiction) | omega) [i64_in, u8_in, vgd_t, vgd_f, wgd_t, wgd_f]
      (refine hk9 _ ?_; clear hk9)
      refine awp_cond rfl rfl (fun hc => ?_) (fun hc => ?_)
      · refine awp_skip ?_
        (refine hk10 _ ?_; clear hk10)
        simp at hc
        refine awp_seq' fun k11 hk11 => ?_
        refine awp_block ?_
        refine awp_seq' fun k12 hk12 => awp_region_draw (et := Try.et) Try.mixed Try.vtOK Try.etOK ?_
        have hstep : ∀ (p : Int) s b, x.ps[i]?.getD 0 = p → (b = true ↔ ¬ (0 ≤ p ∧ p < 2 * x.cap)) → Weak s ⟨[(58, tB b), (4, tI .i64 i), (3, .c (.row 592 6)), (1, .c (.ptr 16 0)), (2, tI .i64 0)], [(592, .row false 3 1 6 fun j => [D.s (.int .i64 (x.ps[j]?.getD 0))]), (16, .box false x.c)]⟩ → k12 s := by
          intro p s b hpi hb hw
          refine hk12 s (awp_weak hw ?_)
          refine awp_cond rfl rfl (fun hc9 => ?_) (fun hc9 => ?_)
          · refine awp_seq' fun k14 hk14 => awp_region (et := Try.et) Try.vtOK Try.etOK ?_
            simp (maxSteps := 5000000) (disch := first | (intro _; intros; contradiction) | omega) [i64_in, u8_in, vgd_t, vgd_f, wgd_t, wgd_f]
            (refine hk14 _ ?_; clear hk14)
            refine awp_ret ⟨.inr rfl, ?_⟩
            have : ¬ x.good := fun hg => by
              have := ((Fi.ok_iff x).1 hg.took).2 i (by omega)
              rw [hpi] at this
              exact hb.1 hc9 this
            simp [this]
          · refine awp_skip ?_
            (refine hk11 _ ?_; clear hk11)
            refine awp_region (et := Try.et) Try.vtOK Try.etOK ?_
            simp (maxSteps := 5000000) (disch := first | (intro _; intros; contradiction) | omega) [i64_in, u8_in, vgd_t, vgd_f, wgd_t, wgd_f]
            refine hk _ _ _ (by omega) ⟨i + 1, rfl, by omega, fun j hj => ?_, rfl⟩ (weak_mk (by simp) (by simp) (by simp))
            by_cases e : j < i
            · exact hp j e
            · have : j = i := by omega
              subst this
              rw [hpi]
              refine Classical.byContradiction fun hn => ?_
              rw [hb.2 hn] at hc9
              cases hc9
        simp (maxSteps := 5000000) (disch := first | (intro _; intros; contradiction) | omega) [i64_in, u8_in, vgd_t, vgd_f, wgd_t, wgd_f]
        refine ⟨by omega, ?_⟩
        refine ⟨fun h1 => ⟨by omega, ?_⟩, fun h1 => ?_⟩
        · refine ⟨by kernel_rfl, hstep _ _ (decide (2 * x.cap ≤ x.ps[i]?.getD 0)) rfl ?_ (weak_mk (by simp) (by simp) (by simp))⟩
          simp
          omega
        · refine ⟨by kernel_rfl, hstep _ _ true rfl ?_ (weak_mk (by simp) (by simp) (by simp))⟩
          simp
          omega
      · refine awp_exit ?_
        simp at hc ⊢
        have hi6 : i = 6 := by omega
        subst hi6
        have hok : x.ok := (Fi.ok_iff x).2 ⟨hcl, hp⟩
        obtain ⟨hcap, hws, hwr, hrd, hs0, hs1, ht0, ht1⟩ := id hok
        have b1 := x.mn_lt hcap x.rd x.t0
        have b2 := x.mn_lt hcap x.t0 x.t1
        have b3 := x.mn_lt hcap x.wr x.s0
        have b4 := x.mn_lt hcap x.s0 x.s1
        have b5 := x.mn_lt hcap x.wr x.rd
        (refine hk7 _ ?_; clear hk7)
        refine awp_seq' fun k17 hk17 => ?_
        refine awp_seq' fun k18 hk18 => awp_region_draw (et := Try.et) Try.mixed Try.vtOK Try.etOK ?_
        have h18 : ∀ s b, (b = true ↔ ¬ x.good) → Weak s ⟨[(101, tB b), (2, tI .i64 0)], []⟩ → k18 s := by
          intro s b hb hw
          refine hk18 s (awp_weak hw ?_)
          refine awp_cond rfl rfl (fun hc9 => ?_) (fun hc9 => ?_)
          · refine awp_seq' fun k19 hk19 => awp_region (et := Try.et) Try.vtOK Try.etOK ?_
            simp (maxSteps := 5000000) (disch := first | (intro _; intros; contradiction) | omega) [i64_in, u8_in, vgd_t, vgd_f, wgd_t, wgd_f]
            (refine hk19 _ ?_; clear hk19)
            refine awp_ret ⟨.inr rfl, ?_⟩
            simp [hb.1 hc9]
          · refine awp_skip ?_
            (refine hk17 _ ?_; clear hk17)
            refine awp_seq' fun k20 hk20 => awp_region (et := Try.et) Try.vtOK Try.etOK ?_
            simp (maxSteps := 5000000) (disch := first | (intro _; intros; contradiction) | omega) [i64_in, u8_in, vgd_t, vgd_f, wgd_t, wgd_f]
            (refine hk20 _ ?_; clear hk20)
            refine awp_ret ⟨.inr rfl, ?_⟩
            have : x.good := Classical.byContradiction fun hn => by
              rw [hb.2 hn] at hc9
              cases hc9
            simp [this]
        simp (maxSteps := 5000000) (disch := first | (intro _; intros; contradiction) | omega) [i64_in, u8_in, vgd_t, vgd_f, wgd_t, wgd_f]
        refine wcall_fn rfl (by simp) (LeTs.refl _) (ref43_Len_S x hok) ?_
        simp (maxSteps := 5000000) (disch := first | (intro _; intros; contradiction) | omega) [i64_in, u8_in, vgd_t, vgd_f, wgd_t, wgd_f]
        refine wcall_fn rfl (by simp) (LeTs.refl _) (ref43_Minus_S x _ _ hcap hrd ht0) ?_
        simp (maxSteps := 5000000) (disch := first | (intro _; intros; contradiction) | omega) [i64_in, u8_in, vgd_t, vgd_f, wgd_t, wgd_f]
        refine wcall_fn rfl (by simp) (LeTs.refl _) (ref43_Minus_S x _ _ hcap ht0 ht1) ?_
        simp (maxSteps := 5000000) (disch := first | (intro _; intros; contradiction) | omega) [i64_in, u8_in, vgd_t, vgd_f, wgd_t, wgd_f]
        refine ⟨fun g1 => ?_, fun g1 => ?_⟩
        · refine wcall_fn rfl (by simp) (LeTs.refl _) (ref43_Minus_S x _ _ hcap hwr hs0) ?_
          simp (maxSteps := 5000000) (disch := first | (intro _; intros; contradiction) | omega) [i64_in, u8_in, vgd_t, vgd_f, wgd_t, wgd_f]
          refine wcall_fn rfl (by simp) (LeTs.refl _) (ref43_Minus_S x _ _ hcap hs0 hs1) ?_
          simp (maxSteps := 5000000) (disch := first | (intro _; intros; contradiction) | omega) [i64_in, u8_in, vgd_t, vgd_f, wgd_t, wgd_f]
          refine wcall_fn rfl (by simp) (LeTs.refl _) (ref43_Len_S x hok) ?_
          simp (maxSteps := 5000000) (disch := first | (intro _; intros; contradiction) | omega) [i64_in, u8_in, vgd_t, vgd_f, wgd_t, wgd_f]
          refine ⟨by kernel_rfl, h18 _ (decide ((x.wr - x.rd) % (2 * x.cap) < (x.wr - x.s0) % (2 * x.cap) + (x.s0 - x.s1) % (2 * x.cap))) ?_ (weak_mk (by simp) (by simp) (by simp))⟩
          simp
          constructor
          · intro h hg
            have := hg.unseen
            unfold Fi.mn at this
            omega
          · intro hn
            refine Classical.byContradiction fun h2 => hn ⟨hok, ?_, ?_⟩ <;> unfold Fi.mn <;> omega
        · refine ⟨by kernel_rfl, h18 _ true ?_ (weak_mk (by simp) (by simp) (by simp))⟩
          simp
          intro hg
          have := hg.behind
          unfold Fi.mn at this
          omega
  simp (maxSteps := 5000000) (disch := first | (intro _; intros; contradiction) | omega) [i64_in, u8_in, vgd_t, vgd_f, wgd_t, wgd_f]
  refine ⟨fun h1 => ⟨fun h2 => ?_, fun h2 => ?_⟩, fun h1 => ?_⟩
  · refine h4 _ ((x.ws.length : Int) != x.cap) ?_ (weak_mk (by simp) (by simp) (by simp))
    simp
    omega
  · refine h4 _ true ?_ (weak_mk (by simp) (by simp) (by simp))
    simp
    omega
  · refine h4 _ true ?_ (weak_mk (by simp) (by simp) (by simp))
    simp
    omega
end Go.Proofs

namespace Go.Proofs
open Go.V IntWalk
set_option maxRecDepth 100000
set_option linter.unusedSimpArgs false
set_option linter.unusedVariables false
attribute [-simp] Fi.new

theorem ref43_Worn_S (c : Int) (l : List Int) (hc : 0 ≤ c ∧ c < 256) (hl : ∀ b ∈ l, 0 ≤ b ∧ b < 256) (hn : l.length < 1000000) : FSpec Try.prog 14 [.c (.d (.s (.int .u8 c))), .c (.d (dU l))] [] (.agg (Fi.worn c l).c) [] := by
  refine fspec_intro Try.func14 (by kernel_rfl) rfl Try.vtOK rfl Try.ntmps14 (by simp) ?_
  refine awp_seq' fun k1 hk1 => awp_region (et := Try.et) Try.vtOK Try.etOK ?_
  simp (maxSteps := 5000000) (disch := first | (intro _; intros; contradiction) | omega) [i64_in, u8_in, vgd_t, vgd_f, wgd_t, wgd_f]
  (refine hk1 _ ?_; clear hk1)
  refine awp_seq' fun k2 hk2 => awp_region (et := Try.et) Try.vtOK Try.etOK ?_
  simp (maxSteps := 5000000) (disch := first | (intro _; intros; contradiction) | omega) [i64_in, u8_in, vgd_t, vgd_f, wgd_t, wgd_f, Int.tmod_eq_emod_of_nonneg]
  refine vcall_fn rfl (by simp) (LeTs.refl _) (ref43_NewIn_S (1 + c % 8) (by omega)) ?_
  simp (maxSteps := 5000000) (disch := first | (intro _; intros; contradiction) | omega) [i64_in, u8_in, vgd_t, vgd_f, wgd_t, wgd_f]
  (refine hk2 _ ?_; clear hk2)
  refine awp_seq' fun k3 hk3 => ?_
  refine awp_seq' fun k4 hk4 => awp_region (et := Try.et) Try.vtOK Try.etOK ?_
  simp (maxSteps := 5000000) (disch := first | (intro _; intros; contradiction) | omega) [i64_in, u8_in, vgd_t, vgd_f, wgd_t, wgd_f]
  (refine hk4 _ ?_; clear hk4)
  refine awp_block (awp_for (fun n s => ∃ i : Nat, n = l.length - i ∧ i ≤ l.length ∧ s = ⟨[(6, tI .i64 i), (5, .c (.ptr 80 0)), (4, .c (.ptr 64 0)), (1, .c (.d (dU l)))], [(80, .box false ((Fi.new (1 + c % 8)).ticks l i).c), (64, .box false (Fi.none).c)]⟩) l.length (weak_mk (by simp) (by simp [Fi.ticks]) (by simp)) ⟨0, rfl, by omega, rfl⟩ ?_)
  rintro n s ⟨i, rfl, hi, rfl⟩ k hk
  have hg : ((Fi.new (1 + c % 8)).ticks l i).good := Fi.ticks_good (Fi.new_good (by omega)) l i
  refine awp_seq' fun k5 hk5 => ?_
  refine awp_seq' fun k6 hk6 => awp_region (et := Try.et) Try.vtOK Try.etOK ?_
  simp (maxSteps := 5000000) (disch := first | (intro _; intros; contradiction) | omega) [i64_in, u8_in, vgd_t, vgd_f, wgd_t, wgd_f]
  (refine hk6 _ ?_; clear hk6)
  refine awp_cond rfl rfl (fun hc => ?_) (fun hc => ?_)
  · refine awp_skip ?_
    (refine hk5 _ ?_; clear hk5)
    simp at hc
    have hb : 0 ≤ l[i]?.getD 0 ∧ l[i]?.getD 0 < 256 := by
      rw [List.getElem?_eq_getElem (by omega)]
      exact hl _ (List.getElem_mem _)
    have hb2 : 0 ≤ l[i] ∧ l[i] < 256 := hl _ (List.getElem_mem hc)
    refine awp_seq' fun k7 hk7 => ?_
    refine awp_block ?_
    have h7 : ∀ s, Weak s ⟨[(6, tI .i64 i), (5, .c (.ptr 80 0)), (4, .c (.ptr 64 0)), (1, .c (.d (dU l)))], [(80, .box false ((Fi.new (1 + c % 8)).ticks l (i + 1)).c), (64, .box false (Fi.none).c)]⟩ → k7 s := by
      intro s hw
      refine hk7 s (awp_weak hw ?_)
      refine awp_region (et := Try.et) Try.vtOK Try.etOK ?_
      simp (maxSteps := 5000000) (disch := first | (intro _; intros; contradiction) | omega) [i64_in, u8_in, vgd_t, vgd_f, wgd_t, wgd_f]
      refine hk _ _ _ (by omega) ⟨i + 1, rfl, by omega, rfl⟩ (weak_mk (by simp) (by simp) (by simp))
    refine awp_seq' fun k8 hk8 => awp_region (et := Try.et) Try.vtOK Try.etOK ?_
    simp (maxSteps := 5000000) (disch := first | (intro _; intros; contradiction) | omega) [i64_in, u8_in, vgd_t, vgd_f, wgd_t, wgd_f, Int.tmod_eq_emod_of_nonneg]
    refine ⟨by omega, ?_⟩
    (refine hk8 _ ?_; clear hk8)
    refine awp_cond rfl rfl (fun hc2 => ?_) (fun hc2 => ?_)
    · refine awp_region_draw (et := Try.et) Try.mixed Try.vtOK Try.etOK ?_
      simp (maxSteps := 5000000) (disch := first | (intro _; intros; contradiction) | omega) [i64_in, u8_in, vgd_t, vgd_f, wgd_t, wgd_f, Int.tmod_eq_emod_of_nonneg, Int.tdiv_eq_ediv_of_nonneg]
      refine ⟨by omega, ?_⟩
      refine wcall_fn rfl (by simp) (LeTs.refl _) (ref43_WriteIn_S _ _ _ hg.took) ?_
      simp (maxSteps := 5000000) (disch := first | (intro _; intros; contradiction) | omega) [i64_in, u8_in, vgd_t, vgd_f, wgd_t, wgd_f]
      refine ⟨by kernel_rfl, h7 _ (weak_mk (by simp) ?_ (by simp))⟩
      simp [Int.tmod_eq_emod_of_nonneg, hb2] at hc2
      simp [Fi.ticks, Fi.tick, hc, hc2]
    · refine awp_region_draw (et := Try.et) Try.mixed Try.vtOK Try.etOK ?_
      simp (maxSteps := 5000000) (disch := first | (intro _; intros; contradiction) | omega) [i64_in, u8_in, vgd_t, vgd_f, wgd_t, wgd_f, Int.tmod_eq_emod_of_nonneg, Int.tdiv_eq_ediv_of_nonneg]
      refine ⟨by omega, ?_⟩
      refine wcall_fn rfl (by simp) (LeTs.refl _) (ref43_ReadIn_S _ _ hg.took) ?_
      simp (maxSteps := 5000000) (disch := first | (intro _; intros; contradiction) | omega) [i64_in, u8_in, vgd_t, vgd_f, wgd_t, wgd_f]
      refine ⟨by kernel_rfl, h7 _ (weak_mk (by simp) ?_ (by simp))⟩
      simp [Int.tmod_eq_emod_of_nonneg, hb2] at hc2
      have hc2' : ¬ l[i] % 2 = 0 := by omega
      simp [Fi.ticks, Fi.tick, hc, hc2']
  · refine awp_exit ?_
    simp at hc ⊢
    (refine hk3 _ ?_; clear hk3)
    refine awp_seq' fun k9 hk9 => awp_region (et := Try.et) Try.vtOK Try.etOK ?_
    simp (maxSteps := 5000000) (disch := first | (intro _; intros; contradiction) | omega) [i64_in, u8_in, vgd_t, vgd_f, wgd_t, wgd_f]
    (refine hk9 _ ?_; clear hk9)
    refine awp_ret ⟨.inr rfl, ?_⟩
    have : i = l.length := by omega
    subst this
    simp [Fi.worn]
end Go.Proofs

namespace Go.Proofs
open Go.V IntWalk
set_option maxRecDepth 100000
set_option linter.unusedSimpArgs false
set_option linter.unusedVariables false

theorem ref43_Valid_ok (x : Fi) (h : x.good) : FSpec Try.prog 19 [.agg x.c] [] (tI .i64 0) [] := by
  have := ref43_Valid_S x (by have := h.ws; have := h.cap; omega)
  rwa [if_pos h] at this
theorem fifo_Valid_ok (x : Fi) (h : x.good) : FSpec Try.prog 18 [.agg x.c] [] (tI .i64 0) [] := by
  have := fifo_Valid_S x (by have := h.ws; have := h.cap; omega)
  rwa [if_pos h] at this
theorem fifo_Valid_no (x : Fi) (h : ¬ x.good) (hl : x.ws.length < 1000000) : FSpec Try.prog 18 [.agg x.c] [] (tI .i64 430) [] := by
  have := fifo_Valid_S x hl
  rwa [if_neg h] at this
/-! ### The examples -/
def exN : Fi := ⟨2, [0, 0], 0, 0, 0, 0, 0, 0⟩
def exA : Fi := ⟨2, [7, 0], 1, 0, 0, 0, 0, 0⟩
def exB : Fi := ⟨2, [7, 0], 1, 0, 1, 0, 0, 0⟩
def exC : Fi := ⟨2, [7, 0], 1, 0, 1, 1, 0, 0⟩
def exD : Fi := ⟨2, [7, 0], 1, 1, 1, 1, 0, 0⟩
def exT : Fi := ⟨2, [7, 8], 2, 0, 0, 0, 0, 0⟩
theorem exN_ok : exN.good := by decide
theorem exA_ok : exA.good := by decide
theorem exB_ok : exB.good := by decide
theorem exC_ok : exC.good := by decide
theorem exD_ok : exD.good := by decide
theorem exT_ok : exT.good := by decide
theorem ex_a : (⟨exN.write true 7, true && exN.room, false, 0⟩ : Ti) = ⟨exA, true, false, 0⟩ := by decide
theorem ex_b : (⟨exA.read true, false, true && exA.has, if true && exA.has then exA.word 0 else 0⟩ : Ti) = ⟨exB, false, false, 0⟩ := by decide
theorem ex_c : (⟨exB.read true, false, true && exB.has, if true && exB.has then exB.word 0 else 0⟩ : Ti) = ⟨exC, false, false, 0⟩ := by decide
theorem ex_d : (⟨exC.read true, false, true && exC.has, if true && exC.has then exC.word 0 else 0⟩ : Ti) = ⟨exD, false, true, 7⟩ := by decide
theorem ex_t : (⟨exA.write true 8, true && exA.room, false, 0⟩ : Ti) = ⟨exT, true, false, 0⟩ := by decide
theorem ex_u : (⟨exT.write true 9, true && exT.room, false, 0⟩ : Ti) = ⟨⟨2, [7, 8], 2, 0, 0, 0, 0, 0⟩, false, false, 0⟩ := by decide
theorem ex_w : exT.words = [7, 8] := by decide
theorem ex_w0 : exD.words = [] := by decide

theorem law43_examples_S : FSpec Try.prog 13 [] [] (tB true) [] := by
  have hlit := @exA
  refine fspec_intro Try.func13 (by kernel_rfl) rfl Try.vtOK rfl Try.ntmps13 (by simp) ?_
  refine awp_seq' fun k1 hk1 => awp_region (et := Try.et) Try.vtOK Try.etOK ?_
  simp (maxSteps := 5000000) (disch := first | (intro _; intros; contradiction) | omega) [i64_in, u8_in, vgd_t, vgd_f, wgd_t, wgd_f]
  (refine hk1 _ ?_; clear hk1)
  refine awp_seq' fun k2 hk2 => awp_region (et := Try.et) Try.vtOK Try.etOK ?_
  simp (maxSteps := 5000000) (disch := first | (intro _; intros; contradiction) | omega) [i64_in, u8_in, vgd_t, vgd_f, wgd_t, wgd_f]
  refine vcall_fn rfl (by simp) (LeTs.refl _) ((law43_created_S 2 (by omega)).res (show _ = T.agg (exN.c ++ [.d (.s (.int .i64 0))]) from rfl)) ?_
  simp (maxSteps := 5000000) (disch := first | (intro _; intros; contradiction) | omega) [i64_in, u8_in, vgd_t, vgd_f, wgd_t, wgd_f]
  (refine hk2 _ ?_; clear hk2)
  refine awp_seq' fun k3 hk3 => ?_
  refine awp_seq' fun k4 hk4 => awp_region (et := Try.et) Try.vtOK Try.etOK ?_
  simp (maxSteps := 5000000) (disch := first | (intro _; intros; contradiction) | omega) [i64_in, u8_in, vgd_t, vgd_f, wgd_t, wgd_f, exN]
  refine vcall_fn rfl (by simp) (LeTs.refl _) (ref43_Valid_ok exN exN_ok) ?_
  simp (maxSteps := 5000000) (disch := first | (intro _; intros; contradiction) | omega) [i64_in, u8_in, vgd_t, vgd_f, wgd_t, wgd_f]
  refine vcall_fn rfl (by simp) (LeTs.refl _) (fifo_Valid_ok exN exN_ok) ?_
  simp (maxSteps := 5000000) (disch := first | (intro _; intros; contradiction) | omega) [i64_in, u8_in, vgd_t, vgd_f, wgd_t, wgd_f]
  refine vcall_fn rfl (by simp) (LeTs.refl _) (law43_created_E 0 (by omega)) ?_
  simp (maxSteps := 5000000) (disch := first | (intro _; intros; contradiction) | omega) [i64_in, u8_in, vgd_t, vgd_f, wgd_t, wgd_f]
  refine vcall_fn rfl (by simp) (LeTs.refl _) (law43_created_E 9 (by omega)) ?_
  simp (maxSteps := 5000000) (disch := first | (intro _; intros; contradiction) | omega) [i64_in, u8_in, vgd_t, vgd_f, wgd_t, wgd_f]
  refine vcall_fn rfl (by simp) (by simp) (fifo_Valid_no Fi.none (by decide) (by decide)) ?_
  simp (maxSteps := 5000000) (disch := first | (intro _; intros; contradiction) | omega) [i64_in, u8_in, vgd_t, vgd_f, wgd_t, wgd_f]
  (refine hk4 _ ?_; clear hk4)
  refine awp_cond rfl rfl (fun hc => ?_) (fun hc => ?_)
  · simp at hc
  · refine awp_skip ?_
    (refine hk3 _ ?_; clear hk3)
    refine awp_seq' fun k6 hk6 => awp_region (et := Try.et) Try.vtOK Try.etOK ?_
    simp (maxSteps := 5000000) (disch := first | (intro _; intros; contradiction) | omega) [i64_in, u8_in, vgd_t, vgd_f, wgd_t, wgd_f]
    refine vcall_fn rfl (by simp) (LeTs.refl _) ((law43_write_S exN true 7 exN_ok.took).res (by rw [ex_a])) ?_
    simp (maxSteps := 5000000) (disch := first | (intro _; intros; contradiction) | omega) [i64_in, u8_in, vgd_t, vgd_f, wgd_t, wgd_f, exA]
    (refine hk6 _ ?_; clear hk6)
    refine awp_seq' fun k7 hk7 => ?_
    refine awp_seq' fun k8 hk8 => awp_region (et := Try.et) Try.vtOK Try.etOK ?_
    simp (maxSteps := 5000000) (disch := first | (intro _; intros; contradiction) | omega) [i64_in, u8_in, vgd_t, vgd_f, wgd_t, wgd_f]
    refine vcall_fn rfl (by simp) (LeTs.refl _) (ref43_Valid_ok exA exA_ok) ?_
    simp (maxSteps := 5000000) (disch := first | (intro _; intros; contradiction) | omega) [i64_in, u8_in, vgd_t, vgd_f, wgd_t, wgd_f]
    (refine hk8 _ ?_; clear hk8)
    refine awp_cond rfl rfl (fun hc => ?_) (fun hc => ?_)
    · simp at hc
    · refine awp_skip ?_
      (refine hk7 _ ?_; clear hk7)
      refine awp_seq' fun k10 hk10 => awp_region (et := Try.et) Try.vtOK Try.etOK ?_
      simp (maxSteps := 5000000) (disch := first | (intro _; intros; contradiction) | omega) [i64_in, u8_in, vgd_t, vgd_f, wgd_t, wgd_f]
      refine vcall_fn rfl (by simp) (LeTs.refl _) ((law43_read_S exA true exA_ok.took).res (by rw [ex_b])) ?_
      simp (maxSteps := 5000000) (disch := first | (intro _; intros; contradiction) | omega) [i64_in, u8_in, vgd_t, vgd_f, wgd_t, wgd_f, exB]
      (refine hk10 _ ?_; clear hk10)
      refine awp_seq' fun k11 hk11 => ?_
      refine awp_seq' fun k12 hk12 => awp_region (et := Try.et) Try.vtOK Try.etOK ?_
      simp (maxSteps := 5000000) (disch := first | (intro _; intros; contradiction) | omega) [i64_in, u8_in, vgd_t, vgd_f, wgd_t, wgd_f]
      refine vcall_fn rfl (by simp) (LeTs.refl _) (ref43_Valid_ok exB exB_ok) ?_
      simp (maxSteps := 5000000) (disch := first | (intro _; intros; contradiction) | omega) [i64_in, u8_in, vgd_t, vgd_f, wgd_t, wgd_f]
      (refine hk12 _ ?_; clear hk12)
      refine awp_cond rfl rfl (fun hc => ?_) (fun hc => ?_)
      · simp at hc
      · refine awp_skip ?_
        (refine hk11 _ ?_; clear hk11)
        refine awp_seq' fun k14 hk14 => awp_region (et := Try.et) Try.vtOK Try.etOK ?_
        simp (maxSteps := 5000000) (disch := first | (intro _; intros; contradiction) | omega) [i64_in, u8_in, vgd_t, vgd_f, wgd_t, wgd_f]
        refine vcall_fn rfl (by simp) (LeTs.refl _) ((law43_read_S exB true exB_ok.took).res (by rw [ex_c])) ?_
        simp (maxSteps := 5000000) (disch := first | (intro _; intros; contradiction) | omega) [i64_in, u8_in, vgd_t, vgd_f, wgd_t, wgd_f, exC]
        (refine hk14 _ ?_; clear hk14)
        refine awp_seq' fun k15 hk15 => ?_
        refine awp_seq' fun k16 hk16 => awp_region (et := Try.et) Try.vtOK Try.etOK ?_
        simp (maxSteps := 5000000) (disch := first | (intro _; intros; contradiction) | omega) [i64_in, u8_in, vgd_t, vgd_f, wgd_t, wgd_f]
        refine vcall_fn rfl (by simp) (LeTs.refl _) (ref43_Valid_ok exC exC_ok) ?_
        simp (maxSteps := 5000000) (disch := first | (intro _; intros; contradiction) | omega) [i64_in, u8_in, vgd_t, vgd_f, wgd_t, wgd_f]
        (refine hk16 _ ?_; clear hk16)
        refine awp_cond rfl rfl (fun hc => ?_) (fun hc => ?_)
        · simp at hc
        · refine awp_skip ?_
          (refine hk15 _ ?_; clear hk15)
          refine awp_seq' fun k18 hk18 => awp_region (et := Try.et) Try.vtOK Try.etOK ?_
          simp (maxSteps := 5000000) (disch := first | (intro _; intros; contradiction) | omega) [i64_in, u8_in, vgd_t, vgd_f, wgd_t, wgd_f]
          refine vcall_fn rfl (by simp) (LeTs.refl _) ((law43_read_S exC true exC_ok.took).res (by rw [ex_d])) ?_
          simp (maxSteps := 5000000) (disch := first | (intro _; intros; contradiction) | omega) [i64_in, u8_in, vgd_t, vgd_f, wgd_t, wgd_f, exD]
          (refine hk18 _ ?_; clear hk18)
          refine awp_seq' fun k19 hk19 => awp_region (et := Try.et) Try.vtOK Try.etOK ?_
          simp (maxSteps := 5000000) (disch := first | (intro _; intros; contradiction) | omega) [i64_in, u8_in, vgd_t, vgd_f, wgd_t, wgd_f]
          refine vcall_fn rfl (by simp) (LeTs.refl _) ((law43_write_S exA true 8 exA_ok.took).res (by rw [ex_t])) ?_
          simp (maxSteps := 5000000) (disch := first | (intro _; intros; contradiction) | omega) [i64_in, u8_in, vgd_t, vgd_f, wgd_t, wgd_f, exT]
          (refine hk19 _ ?_; clear hk19)
          refine awp_seq' fun k20 hk20 => ?_
          refine awp_seq' fun k21 hk21 => awp_region (et := Try.et) Try.vtOK Try.etOK ?_
          simp (maxSteps := 5000000) (disch := first | (intro _; intros; contradiction) | omega) [i64_in, u8_in, vgd_t, vgd_f, wgd_t, wgd_f]
          refine vcall_fn rfl (by simp) (LeTs.refl _) (ref43_Valid_ok exD exD_ok) ?_
          simp (maxSteps := 5000000) (disch := first | (intro _; intros; contradiction) | omega) [i64_in, u8_in, vgd_t, vgd_f, wgd_t, wgd_f]
          refine vcall_fn rfl (by simp) (LeTs.refl _) (ref43_Valid_ok exT exT_ok) ?_
          simp (maxSteps := 5000000) (disch := first | (intro _; intros; contradiction) | omega) [i64_in, u8_in, vgd_t, vgd_f, wgd_t, wgd_f]
          (refine hk21 _ ?_; clear hk21)
          refine awp_cond rfl rfl (fun hc => ?_) (fun hc => ?_)
          · simp at hc
          · refine awp_skip ?_
            (refine hk20 _ ?_; clear hk20)
            refine awp_seq' fun k23 hk23 => ?_
            refine awp_seq' fun k24 hk24 => awp_region (et := Try.et) Try.vtOK Try.etOK ?_
            simp (maxSteps := 5000000) (disch := first | (intro _; intros; contradiction) | omega) [i64_in, u8_in, vgd_t, vgd_f, wgd_t, wgd_f]
            refine vcall_fn rfl (by simp) (LeTs.refl _) (fifo_Has_S exA) ?_
            simp (maxSteps := 5000000) (disch := first | (intro _; intros; contradiction) | omega) [i64_in, u8_in, vgd_t, vgd_f, wgd_t, wgd_f, exA]
            refine vcall_fn rfl (by simp) (LeTs.refl _) (fifo_Has_S exC) ?_
            simp (maxSteps := 5000000) (disch := first | (intro _; intros; contradiction) | omega) [i64_in, u8_in, vgd_t, vgd_f, wgd_t, wgd_f, exC]
            refine vcall_fn rfl (by simp) (LeTs.refl _) (fifo_Room_S exA exA_ok.took) ?_
            simp (maxSteps := 5000000) (disch := first | (intro _; intros; contradiction) | omega) [i64_in, u8_in, vgd_t, vgd_f, wgd_t, wgd_f, exA]
            refine vcall_fn rfl (by simp) (LeTs.refl _) (fifo_Room_S exT exT_ok.took) ?_
            simp (maxSteps := 5000000) (disch := first | (intro _; intros; contradiction) | omega) [i64_in, u8_in, vgd_t, vgd_f, wgd_t, wgd_f, exT]
            refine vcall_fn rfl (by simp) (LeTs.refl _) ((fifo_Words_S exT exT_ok.took).res (by rw [ex_w])) ?_
            simp (maxSteps := 5000000) (disch := first | (intro _; intros; contradiction) | omega) [i64_in, u8_in, vgd_t, vgd_f, wgd_t, wgd_f]
            refine vcall_fn rfl (by simp) (by simp; exact LeD_dL rfl fun j hj => (by match j, hj with | 0, _ => rfl | 1, _ => rfl)) (ref01_Ints_S [7, 8] [7, 8] (by decide) (by decide)) ?_
            simp (maxSteps := 5000000) (disch := first | (intro _; intros; contradiction) | omega) [i64_in, u8_in, vgd_t, vgd_f, wgd_t, wgd_f]
            (refine hk24 _ ?_; clear hk24)
            refine awp_cond rfl rfl (fun hc => ?_) (fun hc => ?_)
            · simp at hc
            · refine awp_skip ?_
              (refine hk23 _ ?_; clear hk23)
              refine awp_seq' fun k25 hk25 => awp_region (et := Try.et) Try.vtOK Try.etOK ?_
              simp (maxSteps := 5000000) (disch := first | (intro _; intros; contradiction) | omega) [i64_in, u8_in, vgd_t, vgd_f, wgd_t, wgd_f]
              refine vcall_fn rfl (by simp) (LeTs.refl _) ((law43_write_S exT true 9 exT_ok.took).res (by rw [ex_u])) ?_
              simp (maxSteps := 5000000) (disch := first | (intro _; intros; contradiction) | omega) [i64_in, u8_in, vgd_t, vgd_f, wgd_t, wgd_f]
              refine vcall_fn rfl (by simp) (LeTs.refl _) ((fifo_Words_S exD exD_ok.took).res (by rw [ex_w0])) ?_
              simp (maxSteps := 5000000) (disch := first | (intro _; intros; contradiction) | omega) [i64_in, u8_in, vgd_t, vgd_f, wgd_t, wgd_f]
              refine vcall_fn rfl (by simp) (LeTs.refl _) (fifo_Valid_ok exD exD_ok) ?_
              simp (maxSteps := 5000000) (disch := first | (intro _; intros; contradiction) | omega) [i64_in, u8_in, vgd_t, vgd_f, wgd_t, wgd_f]
              (refine hk25 _ ?_; clear hk25)
              refine awp_ret ⟨.inr rfl, ?_⟩
              simp
end Go.Proofs

namespace Go.Proofs
open Go.V IntWalk
set_option maxRecDepth 100000
set_option linter.unusedSimpArgs false
set_option linter.unusedVariables false

theorem fifo_Has_H (x : Fi) : FSpec Try.prog 27 [.agg x.c] [] (tB x.has) [] := fifo_Has_S x
theorem fifo_Room_H (x : Fi) (h : x.good) : FSpec Try.prog 25 [.agg x.c] [] (tB x.room) [] := fifo_Room_S x h.took

/-- A slice of bytes that came in. -/
theorem fits_bytes {n : Nat} {f : Nat → List D} (h : Fits (.slice [.int .u8]) (.l n f)) : ∃ l : List Int, l.length = n ∧ (∀ b ∈ l, 0 ≤ b ∧ b < 256) ∧ LeD (.l n f) (dU l) := by
  cases h with
  | slice hn hl h =>
    have hx : ∀ j, ∃ b : Int, j < n → f j = [.s (.int .u8 b)] ∧ 0 ≤ b ∧ b < 256 := fun j => by
      by_cases hj : j < n
      · have h1 := hl j hj
        match hf : f j, h1 with
        | [d], _ =>
          have h2 := h j 0 _ d hj rfl (by rw [hf]; rfl)
          cases h2 with
          | int hw => exact ⟨_, fun _ => ⟨rfl, by simp [Lit.wf, IntKind.min, IntKind.max, IntKind.signed, IntKind.bits] at hw; omega⟩⟩
      · exact ⟨0, fun h => absurd h hj⟩
    obtain ⟨g, hg⟩ := Classical.axiomOfChoice hx
    refine ⟨(List.range n).map g, by simp, fun b hb => ?_, ?_⟩
    · obtain ⟨j, hj, rfl⟩ := List.mem_map.1 hb
      exact (hg j (by simpa using hj)).2
    · unfold dU
      rw [show ((List.range n).map g).length = n by simp]
      refine LeD.ext fun j hj => ?_
      rw [(hg j hj).1]
      simp [hj]

theorem fits_ints {n : Nat} {f : Nat → List D} (h : Fits (.slice [.int .i64]) (.l n f)) : ∃ l : List Int, l.length = n ∧ LeD (.l n f) (dL l) := by
  cases h with
  | slice hn hl h =>
    have hx : ∀ j, ∃ b : Int, j < n → f j = [.s (.int .i64 b)] := fun j => by
      by_cases hj : j < n
      · have h1 := hl j hj
        match hf : f j, h1 with
        | [d], _ =>
          have h2 := h j 0 _ d hj rfl (by rw [hf]; rfl)
          cases h2 with
          | int hw => exact ⟨_, fun _ => rfl⟩
      · exact ⟨0, fun h => absurd h hj⟩
    obtain ⟨g, hg⟩ := Classical.axiomOfChoice hx
    refine ⟨(List.range n).map g, by simp, LeD_dL (by simp) fun j hj => ?_⟩
    rw [hg j hj]
    simp [hj]

theorem appL (xs ys : List Int) : LeD (.l (xs.length + ys.length) (appF xs.length (fun j => [.s (.int .i64 (xs[j]?.getD 0))]) (fun j => [.s (.int .i64 (ys[j]?.getD 0))]))) (dL (xs ++ ys)) :=
  LeD_dL (by simp) fun j hj => by
    unfold appF
    split
    · rename_i h; rw [List.getElem?_append_left h]
    · rename_i h; rw [List.getElem?_append_right (by omega)]

theorem appW (xs : List Int) (w : Int) (n : Nat) (hn : n = xs.length) : LeD (.l (n + 1) (appF n (fun j => [.s (.int .i64 (xs[j]?.getD 0))]) (fun j => [[D.s (.int .i64 w)]][j]?.getD []))) (dL (xs ++ [w])) :=
  LeD_dL (by simp [hn]) fun j hj => by
    subst hn
    unfold appF
    split
    · rename_i h; rw [List.getElem?_append_left h]
    · have : j = xs.length := by omega
      subst this
      simp

theorem appWF (xs : List Int) (w : Int) : LeF (xs.length + 1) (appF xs.length (fun j => [D.s (.int .i64 (xs[j]?.getD 0))]) (fun j => [[D.s (.int .i64 w)]][j]?.getD [])) (fun j => [D.s (.int .i64 ((xs ++ [w])[j]?.getD 0))]) :=
  LeD.ext fun j hj => by
    unfold appF
    split
    · rename_i h; rw [List.getElem?_append_left h]
    · have : j = xs.length := by omega
      subst this
      simp

theorem law43_FifoIndependence_S (c : Int) (l : List Int) (b0 b1 : Int) (hc : 0 ≤ c ∧ c < 256) (hl : ∀ b ∈ l, 0 ≤ b ∧ b < 256) (hb0 : 0 ≤ b0 ∧ b0 < 256) (hb1 : 0 ≤ b1 ∧ b1 < 256) :
    FSpec Try.prog 7 [.c (.d (.s (.int .u8 c))), .c (.d (dU l)), .agg [.d (.s (.int .u8 b0)), .d (.s (.int .u8 b1))]] [] (tB true) [] := by
  refine fspec_intro Try.func7 (by kernel_rfl) rfl Try.vtOK rfl Try.ntmps7 (by simp) ?_
  refine awp_seq' fun k1 hk1 => awp_region (et := Try.et) Try.vtOK Try.etOK ?_
  simp (maxSteps := 5000000) (disch := first | (intro _; intros; contradiction) | omega) [i64_in, u8_in, vgd_t, vgd_f, wgd_t, wgd_f]
  (refine hk1 _ ?_; clear hk1)
  refine awp_seq' fun k2 hk2 => awp_region (et := Try.et) Try.vtOK Try.etOK ?_
  simp (maxSteps := 5000000) (disch := first | (intro _; intros; contradiction) | omega) [i64_in, u8_in, vgd_t, vgd_f, wgd_t, wgd_f]
  refine vcall_fn rfl (by simp) (LeTs.refl _) (law43_examples_S) ?_
  simp (maxSteps := 5000000) (disch := first | (intro _; intros; contradiction) | omega) [i64_in, u8_in, vgd_t, vgd_f, wgd_t, wgd_f]
  (refine hk2 _ ?_; clear hk2)
  refine awp_seq' fun k3 hk3 => ?_
  refine awp_seq' fun k4 hk4 => awp_region (et := Try.et) Try.vtOK Try.etOK ?_
  simp (maxSteps := 5000000) (disch := first | (intro _; intros; contradiction) | omega) [i64_in, u8_in, vgd_t, vgd_f, wgd_t, wgd_f]
  (refine hk4 _ ?_; clear hk4)
  refine awp_cond rfl rfl (fun hc => ?_) (fun hc => ?_)
  · simp at hc
  · refine awp_skip ?_
    (refine hk3 _ ?_; clear hk3)
    refine awp_seq' fun k6 hk6 => ?_
    refine awp_seq' fun k7 hk7 => awp_region (et := Try.et) Try.vtOK Try.etOK ?_
    simp (maxSteps := 5000000) (disch := first | (intro _; intros; contradiction) | omega) [i64_in, u8_in, vgd_t, vgd_f, wgd_t, wgd_f]
    (refine hk7 _ ?_; clear hk7)
    refine awp_cond rfl rfl (fun hc2 => ?_) (fun hc2 => ?_)
    · refine awp_seq' fun k8 hk8 => awp_region (et := Try.et) Try.vtOK Try.etOK ?_
      simp (maxSteps := 5000000) (disch := first | (intro _; intros; contradiction) | omega) [i64_in, u8_in, vgd_t, vgd_f, wgd_t, wgd_f]
      (refine hk8 _ ?_; clear hk8)
      refine awp_ret ⟨.inr rfl, ?_⟩
      simp
    · refine awp_skip ?_
      simp at hc2
      (refine hk6 _ ?_; clear hk6)
      refine awp_seq' fun k9 hk9 => awp_region (et := Try.et) Try.vtOK Try.etOK ?_
      simp (maxSteps := 5000000) (disch := first | (intro _; intros; contradiction) | omega) [i64_in, u8_in, vgd_t, vgd_f, wgd_t, wgd_f]
      refine vcall_fn rfl (by simp) (LeTs.refl _) (ref43_Worn_S c l ‹0 ≤ c ∧ c < 256› hl (by omega)) ?_
      simp (maxSteps := 5000000) (disch := first | (intro _; intros; contradiction) | omega) [i64_in, u8_in, vgd_t, vgd_f, wgd_t, wgd_f]
      (refine hk9 _ ?_; clear hk9)
      have hg : (Fi.worn c l).good := Fi.worn_good (by omega) l
      generalize Fi.worn c l = f at *
      refine awp_seq' fun k10 hk10 => awp_region_draw (et := Try.et) Try.mixed Try.vtOK Try.etOK ?_
      simp (maxSteps := 5000000) (disch := first | (intro _; intros; contradiction) | omega) [i64_in, u8_in, vgd_t, vgd_f, wgd_t, wgd_f, Int.tmod_eq_emod_of_nonneg]
      refine wcall_fn rfl (by simp) (LeTs.refl _) (law43_write_S f (b0 % 2 == 0) b0 hg.took) ?_
      simp (maxSteps := 5000000) (disch := first | (intro _; intros; contradiction) | omega) [i64_in, u8_in, vgd_t, vgd_f, wgd_t, wgd_f, Int.tmod_eq_emod_of_nonneg]
      refine wcall_fn rfl (by simp) (LeTs.refl _) (law43_read_S f (b1 % 2 == 0) hg.took) ?_
      simp (maxSteps := 5000000) (disch := first | (intro _; intros; contradiction) | omega) [i64_in, u8_in, vgd_t, vgd_f, wgd_t, wgd_f]
      (refine ⟨by kernel_rfl, hk10 _ ?_⟩; clear hk10)
      have ga := Fi.write_good hg (b0 % 2 == 0) b0
      have gb := Fi.read_good hg (b1 % 2 == 0)
      refine awp_seq' fun k11 hk11 => ?_
      refine awp_seq' fun k12 hk12 => awp_region (et := Try.et) Try.vtOK Try.etOK ?_
      simp (maxSteps := 5000000) (disch := first | (intro _; intros; contradiction) | omega) [i64_in, u8_in, vgd_t, vgd_f, wgd_t, wgd_f]
      refine vcall_fn rfl (by simp) (LeTs.refl _) (ref43_Valid_ok _ ga) ?_
      simp (maxSteps := 5000000) (disch := first | (intro _; intros; contradiction) | omega) [i64_in, u8_in, vgd_t, vgd_f, wgd_t, wgd_f]
      refine vcall_fn rfl (by simp) (LeTs.refl _) (ref43_Valid_ok _ gb) ?_
      simp (maxSteps := 5000000) (disch := first | (intro _; intros; contradiction) | omega) [i64_in, u8_in, vgd_t, vgd_f, wgd_t, wgd_f]
      (refine hk12 _ ?_; clear hk12)
      refine awp_cond rfl rfl (fun hc3 => ?_) (fun hc3 => ?_)
      · simp at hc3
      · refine awp_skip ?_
        (refine hk11 _ ?_; clear hk11)
        refine awp_seq' fun k14 hk14 => awp_region_draw (et := Try.et) Try.mixed Try.vtOK Try.etOK ?_
        simp (maxSteps := 5000000) (disch := first | (intro _; intros; contradiction) | omega) [i64_in, u8_in, vgd_t, vgd_f, wgd_t, wgd_f, Int.tmod_eq_emod_of_nonneg]
        refine wcall_fn rfl (by simp) (LeTs.refl _) (law43_read_S _ (b1 % 2 == 0) ga.took) ?_
        simp (maxSteps := 5000000) (disch := first | (intro _; intros; contradiction) | omega) [i64_in, u8_in, vgd_t, vgd_f, wgd_t, wgd_f, Int.tmod_eq_emod_of_nonneg]
        refine wcall_fn rfl (by simp) (LeTs.refl _) (law43_write_S _ (b0 % 2 == 0) b0 gb.took) ?_
        simp (maxSteps := 5000000) (disch := first | (intro _; intros; contradiction) | omega) [i64_in, u8_in, vgd_t, vgd_f, wgd_t, wgd_f]
        (refine ⟨by kernel_rfl, hk14 _ ?_⟩; clear hk14)
        have gab := Fi.read_good ga (b1 % 2 == 0)
        have gba := Fi.write_good gb (b0 % 2 == 0) b0
        refine awp_seq' fun k15 hk15 => awp_region_draw (et := Try.et) Try.mixed Try.vtOK Try.etOK ?_
        simp (maxSteps := 5000000) (disch := first | (intro _; intros; contradiction) | omega) [i64_in, u8_in, vgd_t, vgd_f, wgd_t, wgd_f]
        refine wcall_fn rfl (by simp) (LeTs.refl _) (fifo_Has_H _) ?_
        simp (maxSteps := 5000000) (disch := first | (intro _; intros; contradiction) | omega) [i64_in, u8_in, vgd_t, vgd_f, wgd_t, wgd_f]
        refine wcall_fn rfl (by simp) (LeTs.refl _) (fifo_Has_H f) ?_
        simp (maxSteps := 5000000) (disch := first | (intro _; intros; contradiction) | omega) [i64_in, u8_in, vgd_t, vgd_f, wgd_t, wgd_f, Fi.has_write]
        refine wcall_fn rfl (by simp) (LeTs.refl _) (fifo_Room_H _ gb) ?_
        simp (maxSteps := 5000000) (disch := first | (intro _; intros; contradiction) | omega) [i64_in, u8_in, vgd_t, vgd_f, wgd_t, wgd_f]
        refine wcall_fn rfl (by simp) (LeTs.refl _) (fifo_Room_H f hg) ?_
        have hh : (if b1 % 2 = 0 ∧ f.has = true then (f.write (b0 % 2 == 0) b0).word 0 else 0) = if b1 % 2 = 0 ∧ f.has = true then f.word 0 else 0 := by
          split
          · rename_i h; exact Fi.word0_write hg _ _ h.2
          · rfl
        have hwl : ((f.write (b0 % 2 == 0) b0).read (b1 % 2 == 0)).words.length < 1000000 := by
          have := gab.len_eq
          have := gab.cap
          simp
          omega
        simp (maxSteps := 5000000) (disch := first | (intro _; intros; contradiction) | omega) [i64_in, u8_in, vgd_t, vgd_f, wgd_t, wgd_f, Fi.room_read, hh]
        refine wcall_fn rfl (by simp) (LeTs.refl _) (ref43_Valid_ok _ gab) ?_
        simp (maxSteps := 5000000) (disch := first | (intro _; intros; contradiction) | omega) [i64_in, u8_in, vgd_t, vgd_f, wgd_t, wgd_f]
        refine wcall_fn rfl (by simp) (LeTs.refl _) (ref43_Valid_ok _ gba) ?_
        simp (maxSteps := 5000000) (disch := first | (intro _; intros; contradiction) | omega) [i64_in, u8_in, vgd_t, vgd_f, wgd_t, wgd_f]
        refine wcall_fn rfl (by simp) (LeTs.refl _) (fifo_Words_S _ gab.took) ?_
        simp (maxSteps := 5000000) (disch := first | (intro _; intros; contradiction) | omega) [i64_in, u8_in, vgd_t, vgd_f, wgd_t, wgd_f]
        refine wcall_fn rfl (by simp) (LeTs.refl _) (fifo_Words_S _ gba.took) ?_
        simp (maxSteps := 5000000) (disch := first | (intro _; intros; contradiction) | omega) [i64_in, u8_in, vgd_t, vgd_f, wgd_t, wgd_f]
        refine wcall_fn rfl (by simp) (LeTs.refl _) (ref01_Ints_S _ _ hwl (by rw [← Fi.words_indep hg]; exact hwl)) ?_
        simp (maxSteps := 5000000) (disch := first | (intro _; intros; contradiction) | omega) [i64_in, u8_in, vgd_t, vgd_f, wgd_t, wgd_f, Fi.words_indep hg]
        (refine ⟨by kernel_rfl, hk15 _ ?_⟩; clear hk15)
        refine awp_ret ⟨.inr rfl, ?_⟩
        simp
end Go.Proofs
