/- Values by content: what a slot holds is told by what can be read through it; memory that a call owns is told by numbered entries. -/
import Derived.Test.YtkdajahiaedoiaaPlain
import Derived.WalkKit
import Derived.WalkLawsBesides
import Derived.Laws.BytesArg
import Derived.Laws.IdiomStrings
import Derived.Laws.OwnMore
import Derived.Laws.Rows
import Derived.Orders
namespace Go.Proofs.Ytkdajahiaedoiaa
open Go.RowKit Pl
set_option linter.unusedVariables false
set_option linter.unusedSectionVars false

/-- What a slot or a cell holds. 'sl': a slice that is only read; 'ref': a row that the call owns, by its number; 'ptr': an address in an entry; 'rptr': an address in memory that is only read. -/
inductive T where
  | int (k : IntKind) (n : Int) | bool (b : Bool) | str (s : Bs) | val (v : Value)
  | agg (cs : List T) | tup (cs : List T)
  | sl (k : Nat) (es : List (List T))
  | ref (r : Nat) | ptr (r i j : Nat) | rptr (c : List T) (j : Nat) | any
instance : Inhabited T := ⟨.any⟩
/-- An entry: a variable of some cells, or a row of elements of k cells each. -/
inductive Ent where
  | box (cs : List T)
  | row (k : Nat) (es : List (List T))
def Ent.wd : Ent → Nat
  | .box cs => cs.length
  | .row k _ => k
abbrev Own := Nat → Option Nat
abbrev Hp := Nat → Option Ent
def nilV : Value := .slice none 0 0

mutual
/-- A value by its content, in memory that nobody writes. -/
def RV (ow : Own) (w : World) : T → Value → Prop
  | .int k n, v => v = .int k n
  | .bool b, v => v = .bool b
  | .str s, v => v = .string (bs s)
  | .val x, v => v = x ∧ x.oneCell' = true
  | .sl k es, v => ∃ A c, v = .slice A es.length c ∧ es.length ≤ c ∧ (es = [] ∨ ∃ g o C t fr, A = some ⟨g, o, none⟩ ∧ ow g = none ∧ w.heap[g]? = some (.cells C t fr) ∧ RE ow w k es (C.toList.drop o))
  | .any, v => v.oneCell' = true
  | _, _ => False
def RL (ow : Own) (w : World) : List T → List Value → Prop
  | [], vs => vs = []
  | c :: cs, vs => ∃ u us, vs = u :: us ∧ RV ow w c u ∧ RL ow w cs us
def RE (ow : Own) (w : World) (k : Nat) : List (List T) → List Value → Prop
  | [], _ => True
  | e :: es, vs => ∃ us rest, vs = us ++ rest ∧ us.length = k ∧ RL ow w e us ∧ RE ow w k es rest
end

/-- What nobody owned stays as it was, and nobody owns it. -/
def Stab (ow : Own) (w : World) (ow' : Own) (w' : World) : Prop := ∀ g, g < w.heap.size → ow g = none → ow' g = none ∧ w'.heap[g]? = w.heap[g]?
theorem lt_of_heap {w : World} {g : Nat} {o : Obj} (h : w.heap[g]? = some o) : g < w.heap.size := by
  rcases Nat.lt_or_ge g w.heap.size with hl | hl
  · exact hl
  · rw [Array.getElem?_eq_none hl] at h; cases h
theorem Stab.refl (ow : Own) (w : World) : Stab ow w ow w := fun _ _ h => ⟨h, rfl⟩
theorem Stab.trans {ow ow1 ow2 : Own} {w w1 w2 : World} (h : Stab ow w ow1 w1) (hs : w.heap.size ≤ w1.heap.size) (k : Stab ow1 w1 ow2 w2) : Stab ow w ow2 w2 := fun g hg hn => by
  obtain ⟨a, b⟩ := h g hg hn
  obtain ⟨c, d⟩ := k g (Nat.lt_of_lt_of_le hg hs) a
  exact ⟨c, d.trans b⟩
section
variable {ow ow' : Own} {w w' : World} (hs : Stab ow w ow' w')
include hs
mutual
theorem RV.mono : ∀ {x : T} {v : Value}, RV ow w x v → RV ow' w' x v
  | .int _ _, _, h => by simpa only [RV] using h
  | .bool _, _, h => by simpa only [RV] using h
  | .str _, _, h => by simpa only [RV] using h
  | .val _, _, h => by simpa only [RV] using h
  | .sl k es, _, h => by
    simp only [RV] at h ⊢
    obtain ⟨A, c, hv, hc, h⟩ := h
    refine ⟨A, c, hv, hc, ?_⟩
    rcases h with h | ⟨g, o, C, t, fr, hA, hg, hh, hr⟩
    · exact .inl h
    · obtain ⟨a, b⟩ := hs g (lt_of_heap hh) hg
      exact .inr ⟨g, o, C, t, fr, hA, a, b.trans hh, RE.mono hr⟩
  | .any, _, h => by simpa only [RV] using h
  | .agg _, _, h => by simp only [RV] at h
  | .tup _, _, h => by simp only [RV] at h
  | .ref _, _, h => by simp only [RV] at h
  | .ptr _ _ _, _, h => by simp only [RV] at h
  | .rptr _ _, _, h => by simp only [RV] at h
theorem RL.mono : ∀ {cs : List T} {vs : List Value}, RL ow w cs vs → RL ow' w' cs vs
  | [], _, h => by simpa only [RL] using h
  | c :: cs, _, h => by
    simp only [RL] at h ⊢
    obtain ⟨u, us, hv, h1, h2⟩ := h
    exact ⟨u, us, hv, RV.mono h1, RL.mono h2⟩
theorem RE.mono : ∀ {k : Nat} {es : List (List T)} {vs : List Value}, RE ow w k es vs → RE ow' w' k es vs
  | _, [], _, _ => by simp only [RE]
  | k, e :: es, _, h => by
    simp only [RE] at h ⊢
    obtain ⟨us, rest, hv, hl, h1, h2⟩ := h
    exact ⟨us, rest, hv, hl, RL.mono h1, RE.mono h2⟩
end
end

/-! ### lists of cells -/
theorem RV.one {ow : Own} {w : World} {x : T} {v : Value} (h : RV ow w x v) : v.oneCell' = true := by
  cases x <;> simp only [RV] at h
  case int => subst h; rfl
  case bool => subst h; rfl
  case str => subst h; rfl
  case val => exact h.1 ▸ h.2
  case sl => obtain ⟨A, c, rfl, _⟩ := h; rfl
  case any => exact h
theorem RL.len {ow : Own} {w : World} : ∀ {cs : List T} {vs : List Value}, RL ow w cs vs → vs.length = cs.length
  | [], _, h => by simp only [RL] at h; subst h; rfl
  | c :: cs, _, h => by
    simp only [RL] at h
    obtain ⟨u, us, rfl, _, h2⟩ := h
    simp [RL.len h2]
theorem RL.get {ow : Own} {w : World} : ∀ {cs : List T} {vs : List Value} {i : Nat} {c : T}, RL ow w cs vs → cs[i]? = some c → ∃ u, vs[i]? = some u ∧ RV ow w c u
  | [], _, i, c, _, hc => by simp at hc
  | c0 :: cs, _, i, c, h, hc => by
    simp only [RL] at h
    obtain ⟨u, us, rfl, h1, h2⟩ := h
    cases i with
    | zero => simp at hc; subst hc; exact ⟨u, by simp, h1⟩
    | succ i => simp at hc; simpa using RL.get h2 hc
theorem RL.one {ow : Own} {w : World} : ∀ {cs : List T} {vs : List Value}, RL ow w cs vs → ∀ u ∈ vs, u.oneCell' = true
  | [], _, h, u, hu => by simp only [RL] at h; subst h; cases hu
  | c :: cs, _, h, u, hu => by
    simp only [RL] at h
    obtain ⟨u0, us, rfl, h1, h2⟩ := h
    cases hu with
    | head => exact h1.one
    | tail _ hm => exact RL.one h2 u hm
theorem RL.take {ow : Own} {w : World} : ∀ {cs : List T} {vs : List Value} (n : Nat), RL ow w cs vs → RL ow w (cs.take n) (vs.take n)
  | _, _, 0, _ => by simp [RL]
  | [], _, n + 1, h => by simp only [RL] at h; subst h; simp [RL]
  | c :: cs, _, n + 1, h => by
    simp only [RL] at h
    obtain ⟨u, us, rfl, h1, h2⟩ := h
    simp only [List.take_succ_cons, RL]
    exact ⟨u, _, rfl, h1, RL.take n h2⟩
theorem RL.drop {ow : Own} {w : World} : ∀ {cs : List T} {vs : List Value} (n : Nat), RL ow w cs vs → RL ow w (cs.drop n) (vs.drop n)
  | _, _, 0, h => by simpa using h
  | [], _, n + 1, h => by simp only [RL] at h; subst h; simp [RL]
  | c :: cs, _, n + 1, h => by
    simp only [RL] at h
    obtain ⟨u, us, rfl, h1, h2⟩ := h
    simpa using RL.drop n h2
theorem RL.append {ow : Own} {w : World} : ∀ {cs ds : List T} {vs us : List Value}, RL ow w cs vs → RL ow w ds us → RL ow w (cs ++ ds) (vs ++ us)
  | [], _, _, _, h, h2 => by simp only [RL] at h; subst h; simpa using h2
  | c :: cs, _, _, _, h, h2 => by
    simp only [RL] at h
    obtain ⟨u, us, rfl, h1, h3⟩ := h
    simp only [List.cons_append, RL]
    exact ⟨u, _, rfl, h1, RL.append h3 h2⟩
theorem RL.set {ow : Own} {w : World} : ∀ {cs : List T} {vs : List Value} (i : Nat) {c : T} {u : Value}, RL ow w cs vs → RV ow w c u → RL ow w (cs.set i c) (vs.set i u)
  | [], _, i, c, u, h, _ => by simp only [RL] at h; subst h; simp [RL]
  | c0 :: cs, _, i, c, u, h, hc => by
    simp only [RL] at h
    obtain ⟨u0, us, rfl, h1, h2⟩ := h
    cases i with
    | zero => simp only [List.set_cons_zero, RL]; exact ⟨_, _, rfl, hc, h2⟩
    | succ i => simp only [List.set_cons_succ, RL]; exact ⟨_, _, rfl, h1, RL.set i h2 hc⟩

/-- The i-th element of a row begins at i * k. -/
theorem RE.get {ow : Own} {w : World} {k : Nat} : ∀ {es : List (List T)} {vs : List Value} {i : Nat} {e : List T}, RE ow w k es vs → es[i]? = some e →
    RL ow w e ((vs.drop (i * k)).take k) ∧ (i + 1) * k ≤ vs.length
  | [], _, i, e, _, he => by simp at he
  | e0 :: es, _, i, e, h, he => by
    simp only [RE] at h
    obtain ⟨us, rest, rfl, hl, h1, h2⟩ := h
    cases i with
    | zero =>
      simp at he
      subst he
      rw [Nat.zero_mul, List.drop_zero, List.take_append_of_le_length (by omega), List.take_of_length_le (by omega)]
      refine ⟨h1, ?_⟩
      rw [List.length_append, hl]; omega
    | succ i =>
      simp at he
      obtain ⟨a, b⟩ := RE.get h2 he
      have : (i + 1) * k = us.length + i * k := by rw [hl, Nat.add_mul]; omega
      refine ⟨?_, ?_⟩
      · rw [this, List.drop_append, List.drop_eq_nil_of_le (by omega), List.nil_append, Nat.add_sub_cancel_left]
        exact a
      · rw [List.length_append, hl]
        have : (i + 1 + 1) * k = k + (i + 1) * k := by rw [Nat.add_mul (i + 1)]; omega
        omega
theorem RE.len {ow : Own} {w : World} {k : Nat} : ∀ {es : List (List T)} {vs : List Value}, RE ow w k es vs → es.length * k ≤ vs.length
  | [], _, _ => by simp
  | e :: es, _, h => by
    simp only [RE] at h
    obtain ⟨us, rest, rfl, hl, _, h2⟩ := h
    have := RE.len h2
    rw [List.length_cons, Nat.add_mul, List.length_append, hl]; omega
theorem RE.elen {ow : Own} {w : World} {k : Nat} : ∀ {es : List (List T)} {vs : List Value}, RE ow w k es vs → ∀ e ∈ es, e.length = k
  | [], _, _, e, he => by cases he
  | e0 :: es, _, h, e, he => by
    simp only [RE] at h
    obtain ⟨us, rest, rfl, hl, h1, h2⟩ := h
    cases he with
    | head => rw [← hl]; exact h1.len.symm
    | tail _ hm => exact RE.elen h2 e hm
theorem RE.ext {ow : Own} {w : World} {k : Nat} : ∀ {es : List (List T)} {vs us : List Value}, RE ow w k es vs → (∃ r, us = vs.take (es.length * k) ++ r) → RE ow w k es us
  | [], _, _, _, _ => by simp only [RE]
  | e :: es, _, us, h, hu => by
    simp only [RE] at h ⊢
    obtain ⟨xs, rest, rfl, hl, h1, h2⟩ := h
    obtain ⟨r, rfl⟩ := hu
    refine ⟨xs, rest.take (es.length * k) ++ r, ?_, hl, h1, RE.ext h2 ⟨r, rfl⟩⟩
    rw [List.length_cons, Nat.add_mul, List.take_append, hl, Nat.one_mul, List.take_of_length_le (by rw [hl]; omega), Nat.add_sub_cancel, List.append_assoc]
theorem RE.app {ow : Own} {w : World} {k : Nat} : ∀ {es fs : List (List T)} {vs us r : List Value}, RE ow w k es vs → vs.length = es.length * k → RE ow w k fs us → RE ow w k (es ++ fs) (vs ++ us ++ r)
  | [], fs, vs, us, r, h, hl, h2 => by
    have : vs = [] := List.eq_nil_of_length_eq_zero (by simpa using hl)
    subst this
    exact h2.ext ⟨us.drop (fs.length * k) ++ r, by rw [← List.append_assoc, List.take_append_drop]; simp⟩
  | e :: es, fs, _, us, r, h, hl, h2 => by
    simp only [RE] at h
    obtain ⟨xs, rest, rfl, hx, h1, h3⟩ := h
    simp only [List.cons_append, RE]
    refine ⟨xs, rest ++ us ++ r, by simp, hx, h1, RE.app h3 ?_ h2⟩
    rw [List.length_append, List.length_cons, Nat.add_mul, hx] at hl; omega
theorem RE.set {ow : Own} {w : World} {k : Nat} : ∀ {es : List (List T)} {vs : List Value} (i j : Nat) {e : List T} {c : T} {u : Value}, RE ow w k es vs → es[i]? = some e → j < k → RV ow w c u →
    RE ow w k (es.set i (e.set j c)) (vs.set (i * k + j) u)
  | [], _, i, j, e, c, u, _, he, _, _ => by simp at he
  | e0 :: es, _, i, j, e, c, u, h, he, hj, hc => by
    simp only [RE] at h
    obtain ⟨xs, rest, rfl, hx, h1, h2⟩ := h
    cases i with
    | zero =>
      simp at he
      subst he
      simp only [List.set_cons_zero, RE, Nat.zero_mul, Nat.zero_add]
      exact ⟨xs.set j u, rest, by rw [List.set_append, if_pos (by omega)], by simpa using hx, h1.set j hc, h2⟩
    | succ i =>
      simp at he
      simp only [List.set_cons_succ, RE]
      refine ⟨xs, rest.set (i * k + j) u, ?_, hx, h1, RE.set i j h2 he hj hc⟩
      have hz : (i + 1) * k + j = xs.length + (i * k + j) := by rw [hx, Nat.add_mul]; omega
      rw [List.set_append, if_neg (by omega), hz, Nat.add_sub_cancel_left]
theorem RE.drop {ow : Own} {w : World} {k : Nat} : ∀ {es : List (List T)} {vs : List Value} (n : Nat), RE ow w k es vs → RE ow w k (es.drop n) (vs.drop (n * k))
  | es, vs, 0, h => by simpa using h
  | [], vs, n + 1, h => by simp [RE]
  | e :: es, _, n + 1, h => by
    simp only [RE] at h
    obtain ⟨xs, rest, rfl, hx, h1, h2⟩ := h
    have hz : (n + 1) * k = xs.length + n * k := by rw [hx, Nat.add_mul]; omega
    have hd : List.drop ((n + 1) * k) (xs ++ rest) = rest.drop (n * k) := by rw [hz, List.drop_append, List.drop_eq_nil_of_le (by omega), List.nil_append, Nat.add_sub_cancel_left]
    rw [List.drop_succ_cons, hd]
    exact RE.drop n h2
theorem RE.take {ow : Own} {w : World} {k : Nat} : ∀ {es : List (List T)} {vs : List Value} (n : Nat), RE ow w k es vs → RE ow w k (es.take n) vs
  | es, vs, 0, h => by simp [RE]
  | [], vs, n + 1, h => by simp [RE]
  | e :: es, _, n + 1, h => by
    simp only [RE] at h
    obtain ⟨xs, rest, rfl, hx, h1, h2⟩ := h
    simp only [List.take_succ_cons, RE]
    exact ⟨xs, rest, rfl, hx, h1, RE.take n h2⟩
end Go.Proofs.Ytkdajahiaedoiaa
