/- Values by content: what a slot holds is told by what can be read through it; memory that a call owns is told by numbered entries. What slots hold, the entries, and what one step may turn. One operation, told by content: what it asks and what it gives. One operation, told by content: the operations that call nobody. -/
import Derived.Test.YtkgfidphcpklhaaDoorPlain
import Derived.WalkKit
import Derived.WalkLawsBesides
import Derived.Laws.BytesArg
import Derived.Laws.IdiomStrings
import Derived.Laws.OwnMore
import Derived.Laws.Rows
import Derived.Orders
import Derived.Laws.IdiomCopy
set_option linter.unusedSimpArgs false
namespace Go.Proofs.YtkgfidphcpklhaaDoor
open Go.RowKit Pl
set_option linter.unusedVariables false
set_option linter.unusedSectionVars false

/-- What a slot or a cell holds. 'sl': a slice that is only read; 'ref': a row that the call owns, by its number; 'ptr': an address in an entry; 'rptr': an address in memory that is only read. -/
inductive T where
  | int (k : IntKind) (n : Int) | bool (b : Bool) | str (s : Bs) | val (v : Value)
  | agg (cs : List T) | tup (cs : List T)
  | sl (k : Nat) (es : List (List T))
  | ref (r : Nat) | ptr (r i j : Nat) | rptr (c : List T) (j : Nat) | any | fnp (f r : Nat) | fnq (f r s : Nat)
instance : Inhabited T := ⟨.any⟩
/-- An entry: a variable of some cells, or a row of elements of k cells each. -/
inductive Ent where
  | box (cs : List T)
  | row (k : Nat) (es : List (List T))
def Ent.wd : Ent → Nat
  | .box cs => cs.length
  | .row k _ => k
abbrev Own := Nat → Option Nat
abbrev Hp := Nat → Option Ent
def nilV : Value := .slice none 0 0

mutual
/-- A value by its content, in memory that nobody writes. -/
def RV (ow : Own) (w : World) : T → Value → Prop
  | .int k n, v => v = .int k n
  | .bool b, v => v = .bool b
  | .str s, v => v = .string (bs s)
  | .val x, v => v = x ∧ x.oneCell' = true
  | .sl k es, v => ∃ A c, v = .slice A es.length c ∧ es.length ≤ c ∧ (es = [] ∨ ∃ g o C t fr, A = some ⟨g, o, none⟩ ∧ ow g = none ∧ w.heap[g]? = some (.cells C t fr) ∧ RE ow w k es (C.toList.drop o))
  | .any, v => v.oneCell' = true
  | _, _ => False
def RL (ow : Own) (w : World) : List T → List Value → Prop
  | [], vs => vs = []
  | c :: cs, vs => ∃ u us, vs = u :: us ∧ RV ow w c u ∧ RL ow w cs us
def RE (ow : Own) (w : World) (k : Nat) : List (List T) → List Value → Prop
  | [], _ => True
  | e :: es, vs => ∃ us rest, vs = us ++ rest ∧ us.length = k ∧ RL ow w e us ∧ RE ow w k es rest
end

/-- What nobody owned stays as it was, and nobody owns it. -/
def Stab (ow : Own) (w : World) (ow' : Own) (w' : World) : Prop := ∀ g, g < w.heap.size → ow g = none → ow' g = none ∧ w'.heap[g]? = w.heap[g]?
theorem lt_of_heap {w : World} {g : Nat} {o : Obj} (h : w.heap[g]? = some o) : g < w.heap.size := by
  rcases Nat.lt_or_ge g w.heap.size with hl | hl
  · exact hl
  · rw [Array.getElem?_eq_none hl] at h; cases h
theorem Stab.refl (ow : Own) (w : World) : Stab ow w ow w := fun _ _ h => ⟨h, rfl⟩
theorem Stab.trans {ow ow1 ow2 : Own} {w w1 w2 : World} (h : Stab ow w ow1 w1) (hs : w.heap.size ≤ w1.heap.size) (k : Stab ow1 w1 ow2 w2) : Stab ow w ow2 w2 := fun g hg hn => by
  obtain ⟨a, b⟩ := h g hg hn
  obtain ⟨c, d⟩ := k g (Nat.lt_of_lt_of_le hg hs) a
  exact ⟨c, d.trans b⟩
section
variable {ow ow' : Own} {w w' : World} (hs : Stab ow w ow' w')
include hs
mutual
theorem RV.mono : ∀ {x : T} {v : Value}, RV ow w x v → RV ow' w' x v
  | .int _ _, _, h => by simpa only [RV] using h
  | .bool _, _, h => by simpa only [RV] using h
  | .str _, _, h => by simpa only [RV] using h
  | .val _, _, h => by simpa only [RV] using h
  | .sl k es, _, h => by
    simp only [RV] at h ⊢
    obtain ⟨A, c, hv, hc, h⟩ := h
    refine ⟨A, c, hv, hc, ?_⟩
    rcases h with h | ⟨g, o, C, t, fr, hA, hg, hh, hr⟩
    · exact .inl h
    · obtain ⟨a, b⟩ := hs g (lt_of_heap hh) hg
      exact .inr ⟨g, o, C, t, fr, hA, a, b.trans hh, RE.mono hr⟩
  | .any, _, h => by simpa only [RV] using h
  | .agg _, _, h => by simp only [RV] at h
  | .tup _, _, h => by simp only [RV] at h
  | .ref _, _, h => by simp only [RV] at h
  | .ptr _ _ _, _, h => by simp only [RV] at h
  | .rptr _ _, _, h => by simp only [RV] at h
  | .fnp _ _, _, h => by simp only [RV] at h
  | .fnq _ _ _, _, h => by simp only [RV] at h
theorem RL.mono : ∀ {cs : List T} {vs : List Value}, RL ow w cs vs → RL ow' w' cs vs
  | [], _, h => by simpa only [RL] using h
  | c :: cs, _, h => by
    simp only [RL] at h ⊢
    obtain ⟨u, us, hv, h1, h2⟩ := h
    exact ⟨u, us, hv, RV.mono h1, RL.mono h2⟩
theorem RE.mono : ∀ {k : Nat} {es : List (List T)} {vs : List Value}, RE ow w k es vs → RE ow' w' k es vs
  | _, [], _, _ => by simp only [RE]
  | k, e :: es, _, h => by
    simp only [RE] at h ⊢
    obtain ⟨us, rest, hv, hl, h1, h2⟩ := h
    exact ⟨us, rest, hv, hl, RL.mono h1, RE.mono h2⟩
end
end

/-! ### lists of cells -/
theorem RV.one {ow : Own} {w : World} {x : T} {v : Value} (h : RV ow w x v) : v.oneCell' = true := by
  cases x <;> simp only [RV] at h
  case int => subst h; rfl
  case bool => subst h; rfl
  case str => subst h; rfl
  case val => exact h.1 ▸ h.2
  case sl => obtain ⟨A, c, rfl, _⟩ := h; rfl
  case any => exact h
theorem RL.len {ow : Own} {w : World} : ∀ {cs : List T} {vs : List Value}, RL ow w cs vs → vs.length = cs.length
  | [], _, h => by simp only [RL] at h; subst h; rfl
  | c :: cs, _, h => by
    simp only [RL] at h
    obtain ⟨u, us, rfl, _, h2⟩ := h
    simp [RL.len h2]
theorem RL.get {ow : Own} {w : World} : ∀ {cs : List T} {vs : List Value} {i : Nat} {c : T}, RL ow w cs vs → cs[i]? = some c → ∃ u, vs[i]? = some u ∧ RV ow w c u
  | [], _, i, c, _, hc => by simp at hc
  | c0 :: cs, _, i, c, h, hc => by
    simp only [RL] at h
    obtain ⟨u, us, rfl, h1, h2⟩ := h
    cases i with
    | zero => simp at hc; subst hc; exact ⟨u, by simp, h1⟩
    | succ i => simp at hc; simpa using RL.get h2 hc
theorem RL.one {ow : Own} {w : World} : ∀ {cs : List T} {vs : List Value}, RL ow w cs vs → ∀ u ∈ vs, u.oneCell' = true
  | [], _, h, u, hu => by simp only [RL] at h; subst h; cases hu
  | c :: cs, _, h, u, hu => by
    simp only [RL] at h
    obtain ⟨u0, us, rfl, h1, h2⟩ := h
    cases hu with
    | head => exact h1.one
    | tail _ hm => exact RL.one h2 u hm
theorem RL.take {ow : Own} {w : World} : ∀ {cs : List T} {vs : List Value} (n : Nat), RL ow w cs vs → RL ow w (cs.take n) (vs.take n)
  | _, _, 0, _ => by simp [RL]
  | [], _, n + 1, h => by simp only [RL] at h; subst h; simp [RL]
  | c :: cs, _, n + 1, h => by
    simp only [RL] at h
    obtain ⟨u, us, rfl, h1, h2⟩ := h
    simp only [List.take_succ_cons, RL]
    exact ⟨u, _, rfl, h1, RL.take n h2⟩
theorem RL.drop {ow : Own} {w : World} : ∀ {cs : List T} {vs : List Value} (n : Nat), RL ow w cs vs → RL ow w (cs.drop n) (vs.drop n)
  | _, _, 0, h => by simpa using h
  | [], _, n + 1, h => by simp only [RL] at h; subst h; simp [RL]
  | c :: cs, _, n + 1, h => by
    simp only [RL] at h
    obtain ⟨u, us, rfl, h1, h2⟩ := h
    simpa using RL.drop n h2
theorem RL.append {ow : Own} {w : World} : ∀ {cs ds : List T} {vs us : List Value}, RL ow w cs vs → RL ow w ds us → RL ow w (cs ++ ds) (vs ++ us)
  | [], _, _, _, h, h2 => by simp only [RL] at h; subst h; simpa using h2
  | c :: cs, _, _, _, h, h2 => by
    simp only [RL] at h
    obtain ⟨u, us, rfl, h1, h3⟩ := h
    simp only [List.cons_append, RL]
    exact ⟨u, _, rfl, h1, RL.append h3 h2⟩
theorem RL.set {ow : Own} {w : World} : ∀ {cs : List T} {vs : List Value} (i : Nat) {c : T} {u : Value}, RL ow w cs vs → RV ow w c u → RL ow w (cs.set i c) (vs.set i u)
  | [], _, i, c, u, h, _ => by simp only [RL] at h; subst h; simp [RL]
  | c0 :: cs, _, i, c, u, h, hc => by
    simp only [RL] at h
    obtain ⟨u0, us, rfl, h1, h2⟩ := h
    cases i with
    | zero => simp only [List.set_cons_zero, RL]; exact ⟨_, _, rfl, hc, h2⟩
    | succ i => simp only [List.set_cons_succ, RL]; exact ⟨_, _, rfl, h1, RL.set i h2 hc⟩

/-- The i-th element of a row begins at i * k. -/
theorem RE.get {ow : Own} {w : World} {k : Nat} : ∀ {es : List (List T)} {vs : List Value} {i : Nat} {e : List T}, RE ow w k es vs → es[i]? = some e →
    RL ow w e ((vs.drop (i * k)).take k) ∧ (i + 1) * k ≤ vs.length
  | [], _, i, e, _, he => by simp at he
  | e0 :: es, _, i, e, h, he => by
    simp only [RE] at h
    obtain ⟨us, rest, rfl, hl, h1, h2⟩ := h
    cases i with
    | zero =>
      simp at he
      subst he
      rw [Nat.zero_mul, List.drop_zero, List.take_append_of_le_length (by omega), List.take_of_length_le (by omega)]
      refine ⟨h1, ?_⟩
      rw [List.length_append, hl]; omega
    | succ i =>
      simp at he
      obtain ⟨a, b⟩ := RE.get h2 he
      have : (i + 1) * k = us.length + i * k := by rw [hl, Nat.add_mul]; omega
      refine ⟨?_, ?_⟩
      · rw [this, List.drop_append, List.drop_eq_nil_of_le (by omega), List.nil_append, Nat.add_sub_cancel_left]
        exact a
      · rw [List.length_append, hl]
        have : (i + 1 + 1) * k = k + (i + 1) * k := by rw [Nat.add_mul (i + 1)]; omega
        omega
theorem RE.len {ow : Own} {w : World} {k : Nat} : ∀ {es : List (List T)} {vs : List Value}, RE ow w k es vs → es.length * k ≤ vs.length
  | [], _, _ => by simp
  | e :: es, _, h => by
    simp only [RE] at h
    obtain ⟨us, rest, rfl, hl, _, h2⟩ := h
    have := RE.len h2
    rw [List.length_cons, Nat.add_mul, List.length_append, hl]; omega
theorem RE.elen {ow : Own} {w : World} {k : Nat} : ∀ {es : List (List T)} {vs : List Value}, RE ow w k es vs → ∀ e ∈ es, e.length = k
  | [], _, _, e, he => by cases he
  | e0 :: es, _, h, e, he => by
    simp only [RE] at h
    obtain ⟨us, rest, rfl, hl, h1, h2⟩ := h
    cases he with
    | head => rw [← hl]; exact h1.len.symm
    | tail _ hm => exact RE.elen h2 e hm
theorem RE.ext {ow : Own} {w : World} {k : Nat} : ∀ {es : List (List T)} {vs us : List Value}, RE ow w k es vs → (∃ r, us = vs.take (es.length * k) ++ r) → RE ow w k es us
  | [], _, _, _, _ => by simp only [RE]
  | e :: es, _, us, h, hu => by
    simp only [RE] at h ⊢
    obtain ⟨xs, rest, rfl, hl, h1, h2⟩ := h
    obtain ⟨r, rfl⟩ := hu
    refine ⟨xs, rest.take (es.length * k) ++ r, ?_, hl, h1, RE.ext h2 ⟨r, rfl⟩⟩
    rw [List.length_cons, Nat.add_mul, List.take_append, hl, Nat.one_mul, List.take_of_length_le (by rw [hl]; omega), Nat.add_sub_cancel, List.append_assoc]
theorem RE.app {ow : Own} {w : World} {k : Nat} : ∀ {es fs : List (List T)} {vs us r : List Value}, RE ow w k es vs → vs.length = es.length * k → RE ow w k fs us → RE ow w k (es ++ fs) (vs ++ us ++ r)
  | [], fs, vs, us, r, h, hl, h2 => by
    have : vs = [] := List.eq_nil_of_length_eq_zero (by simpa using hl)
    subst this
    exact h2.ext ⟨us.drop (fs.length * k) ++ r, by rw [← List.append_assoc, List.take_append_drop]; simp⟩
  | e :: es, fs, _, us, r, h, hl, h2 => by
    simp only [RE] at h
    obtain ⟨xs, rest, rfl, hx, h1, h3⟩ := h
    simp only [List.cons_append, RE]
    refine ⟨xs, rest ++ us ++ r, by simp, hx, h1, RE.app h3 ?_ h2⟩
    rw [List.length_append, List.length_cons, Nat.add_mul, hx] at hl; omega
theorem RE.set {ow : Own} {w : World} {k : Nat} : ∀ {es : List (List T)} {vs : List Value} (i j : Nat) {e : List T} {c : T} {u : Value}, RE ow w k es vs → es[i]? = some e → j < k → RV ow w c u →
    RE ow w k (es.set i (e.set j c)) (vs.set (i * k + j) u)
  | [], _, i, j, e, c, u, _, he, _, _ => by simp at he
  | e0 :: es, _, i, j, e, c, u, h, he, hj, hc => by
    simp only [RE] at h
    obtain ⟨xs, rest, rfl, hx, h1, h2⟩ := h
    cases i with
    | zero =>
      simp at he
      subst he
      simp only [List.set_cons_zero, RE, Nat.zero_mul, Nat.zero_add]
      exact ⟨xs.set j u, rest, by rw [List.set_append, if_pos (by omega)], by simpa using hx, h1.set j hc, h2⟩
    | succ i =>
      simp at he
      simp only [List.set_cons_succ, RE]
      refine ⟨xs, rest.set (i * k + j) u, ?_, hx, h1, RE.set i j h2 he hj hc⟩
      have hz : (i + 1) * k + j = xs.length + (i * k + j) := by rw [hx, Nat.add_mul]; omega
      rw [List.set_append, if_neg (by omega), hz, Nat.add_sub_cancel_left]
theorem RE.drop {ow : Own} {w : World} {k : Nat} : ∀ {es : List (List T)} {vs : List Value} (n : Nat), RE ow w k es vs → RE ow w k (es.drop n) (vs.drop (n * k))
  | es, vs, 0, h => by simpa using h
  | [], vs, n + 1, h => by simp [RE]
  | e :: es, _, n + 1, h => by
    simp only [RE] at h
    obtain ⟨xs, rest, rfl, hx, h1, h2⟩ := h
    have hz : (n + 1) * k = xs.length + n * k := by rw [hx, Nat.add_mul]; omega
    have hd : List.drop ((n + 1) * k) (xs ++ rest) = rest.drop (n * k) := by rw [hz, List.drop_append, List.drop_eq_nil_of_le (by omega), List.nil_append, Nat.add_sub_cancel_left]
    rw [List.drop_succ_cons, hd]
    exact RE.drop n h2
theorem RE.take {ow : Own} {w : World} {k : Nat} : ∀ {es : List (List T)} {vs : List Value} (n : Nat), RE ow w k es vs → RE ow w k (es.take n) vs
  | es, vs, 0, h => by simp [RE]
  | [], vs, n + 1, h => by simp [RE]
  | e :: es, _, n + 1, h => by
    simp only [RE] at h
    obtain ⟨xs, rest, rfl, hx, h1, h2⟩ := h
    simp only [List.take_succ_cons, RE]
    exact ⟨xs, rest, rfl, hx, h1, RE.take n h2⟩
end Go.Proofs.YtkgfidphcpklhaaDoor
namespace Go.Proofs.YtkgfidphcpklhaaDoor
open Go.RowKit Pl
set_option linter.unusedVariables false
set_option linter.unusedSectionVars false

def FreeR (fr : Nat × Nat) (n : Nat) : Prop := fr.2 ≤ fr.1 ∨ n ≤ fr.1
/-- The entries, who owns which block, the memory, and the numbers that were given out. -/
structure Cx where
  H : Hp
  ow : Own
  w : World
  us : Nat → Prop
def Hdr (X : Cx) (r k n : Nat) (v : Value) : Prop := (v = nilV ∧ n = 0) ∨
  ∃ g c C t fr, v = .slice (some ⟨g, 0, none⟩) n c ∧ X.ow g = some r ∧ X.w.heap[g]? = some (.cells C t fr) ∧ FreeR fr C.size ∧ C.size = c * k ∧ n ≤ c ∧ c ≤ maxLen
/-- A cell or a slot of one cell. -/
def RS0 (X : Cx) (x : T) (v : Value) : Prop := match x with
  | .ref r => X.us r ∧ (∃ A n c, v = .slice A n c) ∧ ∀ k es, X.H r = some (.row k es) → Hdr X r k es.length v
  | .ptr r i j => X.us r ∧ (∃ a, v = .pointer (some a)) ∧ ∀ e, X.H r = some e → ∃ g, X.ow g = some r ∧ v = .pointer (some ⟨g, i * e.wd + j, none⟩)
  | .rptr c j => ∃ g o C t fr, v = .pointer (some ⟨g, o + j, none⟩) ∧ X.ow g = none ∧ X.w.heap[g]? = some (.cells C t fr) ∧ RL X.ow X.w c ((C.toList.drop o).take c.length)
  | .any => True
  | .fnp f r => ∃ u, v = .func (.func f) #[] #[u] ∧ X.us r ∧ (∃ a, u = .pointer (some a)) ∧ ∀ e, X.H r = some e → ∃ g, X.ow g = some r ∧ u = .pointer (some ⟨g, 0 * e.wd + 0, none⟩)
  | .fnq f r s => ∃ u u', v = .func (.func f) #[] #[u, u'] ∧ (X.us r ∧ (∃ a, u = .pointer (some a)) ∧ ∀ e, X.H r = some e → ∃ g, X.ow g = some r ∧ u = .pointer (some ⟨g, 0 * e.wd + 0, none⟩)) ∧ (X.us s ∧ (∃ a, u' = .pointer (some a)) ∧ ∀ e, X.H s = some e → ∃ g, X.ow g = some s ∧ u' = .pointer (some ⟨g, 0 * e.wd + 0, none⟩))
  | x => RV X.ow X.w x v
def RSl (X : Cx) : List T → List Value → Prop
  | [], vs => vs = []
  | c :: cs, vs => ∃ u us, vs = u :: us ∧ u.oneCell' = true ∧ RS0 X c u ∧ RSl X cs us
def RS1 (X : Cx) (x : T) (v : Value) : Prop := match x with
  | .agg cs => ∃ vs, v = .agg vs ∧ RSl X cs vs.toList
  | x => RS0 X x v
def RSt (X : Cx) : List T → List Value → Prop
  | [], vs => vs = []
  | c :: cs, vs => ∃ u us, vs = u :: us ∧ RS1 X c u ∧ RSt X cs us
def RS (X : Cx) (x : T) (v : Value) : Prop := match x with
  | .tup cs => ∃ vs, v = .tuple vs ∧ RSt X cs vs.toList
  | x => RS1 X x v
def Node (X : Cx) (r : Nat) : Ent → Prop
  | .box cs => ∃ g C t fr, X.ow g = some r ∧ X.w.heap[g]? = some (.cells C t fr) ∧ FreeR fr C.size ∧ RSl X cs C.toList
  | .row k es => 0 < k ∧ (es = [] ∨ ∃ g C t fr, X.ow g = some r ∧ X.w.heap[g]? = some (.cells C t fr) ∧ FreeR fr C.size ∧ RE X.ow X.w k es C.toList)
/-- Variables of the package that are read and never written, and what they hold. -/
def startZ : List Int := [1779033703, 3144134277, 1013904242, 2773480762, 1359893119, 2600822924, 528734635, 1541459225]
def roundZ : List Int := [1116352408, 1899447441, 3049323471, 3921009573, 961987163, 1508970993, 2453635748, 2870763221, 3624381080, 310598401, 607225278, 1426881987, 1925078388, 2162078206, 2614888103, 3248222580, 3835390401, 4022224774, 264347078, 604807628, 770255983, 1249150122, 1555081692, 1996064986, 2554220882, 2821834349, 2952996808, 3210313671, 3336571891, 3584528711, 113926993, 338241895, 666307205, 773529912, 1294757372, 1396182291, 1695183700, 1986661051, 2177026350, 2456956037, 2730485921, 2820302411, 3259730800, 3345764771, 3516065817, 3600352804, 4094571909, 275423344, 430227734, 506948616, 659060556, 883997877, 958139571, 1322822218, 1537002063, 1747873779, 1955562222, 2024104815, 2227730452, 2361852424, 2428436474, 2756734187, 3204031479, 3329325298]
def globT (zs : List Int) : List T := zs.map fun z => .int .u32 z
def powZ : List Int := (List.range 20).map fun i => ((10 ^ i : Nat) : Int)
def mvW : List Bs := [[], [116, 97, 107, 101], [98, 101, 103, 105, 110], [103, 105, 118, 101], [116, 105, 99, 107], [99, 97, 114, 114, 121], [108, 111, 115, 101], [116, 119, 105, 99, 101], [115, 112, 111, 105, 108], [102, 97, 108, 108], [114, 105, 115, 101]]
def glob (g : Nat) : Option (List T) :=
  bif Nat.beq g 0 then some (mvW.map fun w => .str w) else
  bif Nat.beq g 6 then some (powZ.map fun z => .int .u64 z) else
  none
/-- What more is known of variables: 0: one int; 1: nil, or a value of some type. -/
def glK : Nat → Array Value → Prop
  | 0, C => ∃ m, C[0]? = some (.int .i64 m)
  | _, C => ∃ ev, C[0]? = some ev ∧ (ev = .nilIface ∨ ∃ te pe, ev = .iface te pe)
def globX (g : Nat) : Option Nat :=
  bif Nat.beq g 1 then some 0 else
  bif Nat.beq g 4 then some 1 else none
def Gl (X : Cx) : Prop := (∀ g cs, glob g = some cs → X.ow g = none ∧ ∃ C t fr, X.w.heap[g]? = some (.cells C t fr) ∧ RL X.ow X.w cs C.toList) ∧
  ∀ g k, globX g = some k → X.ow g = none ∧ ∃ C t fr, X.w.heap[g]? = some (.cells C t fr) ∧ glK k C
theorem Gl.mono {X X' : Cx} (hs : Stab X.ow X.w X'.ow X'.w) (h : Gl X) : Gl X' := ⟨fun g cs hg => by
  obtain ⟨a, C, t, fr, b, c⟩ := h.1 g cs hg
  obtain ⟨p, q⟩ := hs g (lt_of_heap b) a
  exact ⟨p, C, t, fr, q.trans b, RL.mono hs c⟩, fun g k hg => by
  obtain ⟨a, C, t, fr, b, c⟩ := h.2 g k hg
  obtain ⟨p, q⟩ := hs g (lt_of_heap b) a
  exact ⟨p, C, t, fr, q.trans b, c⟩⟩
structure HR (X : Cx) : Prop where
  inj : ∀ g g' r, X.H r ≠ none → X.ow g = some r → X.ow g' = some r → g = g'
  lt : ∀ g r, X.ow g = some r → g < X.w.heap.size ∧ X.us r
  node : ∀ r e, X.H r = some e → X.us r ∧ Node X r e
  zero : X.H 0 = none
  pos : X.us 0
  gl : Gl X

def Ent.shape : Ent → Bool × Nat × Nat
  | .box cs => (true, cs.length, 0)
  | .row k es => (false, k, es.length)
/-- What was there stays readable. -/
structure Same (X X' : Cx) : Prop where
  us : ∀ r, X.us r → X'.us r
  os : X'.w.os = X.w.os
  tape : X'.w.tape = X.w.tape
  output : X'.w.output = X.w.output
  size : X.w.heap.size ≤ X'.w.heap.size
  stab : Stab X.ow X.w X'.ow X'.w
  ent : ∀ r, X.us r → ∀ e', X'.H r = some e' → ∃ e, X.H r = some e ∧ e.shape = e'.shape
  fra : ∀ g, X.ow g = some 0 → X'.ow g = some 0 ∧ X'.w.heap[g]? = X.w.heap[g]?
  pin : ∀ r, X.us r → X'.H r ≠ none → ∀ g, X.ow g = some r → X'.ow g = some r ∧ ∀ C t fr, X.w.heap[g]? = some (.cells C t fr) → ∃ C', X'.w.heap[g]? = some (.cells C' t fr) ∧ C'.size = C.size

theorem HR.inj' {X : Cx} (hh : HR X) {g g' r : Nat} {e : Ent} (hH : X.H r = some e) (h : X.ow g = some r) (h' : X.ow g' = some r) : g = g' := hh.inj g g' r (by rw [hH]; simp) h h'
theorem HR.ne {X : Cx} (hh : HR X) {r : Nat} {e : Ent} (hH : X.H r = some e) : r ≠ 0 := fun h => by subst h; rw [hh.zero] at hH; cases hH
theorem Same.refl (X : Cx) : Same X X := ⟨fun _ h => h, rfl, rfl, rfl, Nat.le_refl _, .refl _ _, fun r _ e h => ⟨e, h, rfl⟩, fun g h => ⟨h, rfl⟩, fun r _ _ g hg => ⟨hg, fun C t fr h => ⟨C, h, rfl⟩⟩⟩
theorem Same.trans {X Y Z : Cx} (h : Same X Y) (k : Same Y Z) : Same X Z where
  us := fun r hr => k.us r (h.us r hr)
  os := k.os.trans h.os
  tape := k.tape.trans h.tape
  output := k.output.trans h.output
  size := Nat.le_trans h.size k.size
  stab := h.stab.trans h.size k.stab
  ent := fun r hr e' he => by
    obtain ⟨e1, h1, s1⟩ := k.ent r (h.us r hr) e' he
    obtain ⟨e, h0, s0⟩ := h.ent r hr e1 h1
    exact ⟨e, h0, s0.trans s1⟩
  fra := fun g hg => by
    obtain ⟨a, b⟩ := h.fra g hg
    obtain ⟨c, d⟩ := k.fra g a
    exact ⟨c, d.trans b⟩
  pin := fun r hr hn g hg => by
    have hy : Y.H r ≠ none := by
      cases hz : Z.H r with
      | none => exact absurd hz hn
      | some e' =>
        obtain ⟨e1, h1, _⟩ := k.ent r (h.us r hr) e' hz
        rw [h1]; simp
    obtain ⟨a, b⟩ := h.pin r hr hy g hg
    obtain ⟨c, d⟩ := k.pin r (h.us r hr) hn g a
    refine ⟨c, fun C t fr hC => ?_⟩
    obtain ⟨C1, h1, s1⟩ := b C t fr hC
    obtain ⟨C2, h2, s2⟩ := d C1 t fr h1
    exact ⟨C2, h2, s2.trans s1⟩
theorem Ent.wd_shape {e e' : Ent} (h : e.shape = e'.shape) : e.wd = e'.wd := by
  cases e <;> cases e' <;> simp_all [Ent.shape, Ent.wd]
theorem Hdr.mono {X X' : Cx} (h : Same X X') {r k n : Nat} {v : Value} (hr : X.us r) (hn : X'.H r ≠ none) (hh : Hdr X r k n v) : Hdr X' r k n v := by
  rcases hh with hh | ⟨g, c, C, t, fr, hv, hg, hC, hf, hs, hc, hm⟩
  · exact .inl hh
  · obtain ⟨a, b⟩ := h.pin r hr hn g hg
    obtain ⟨C', h1, h2⟩ := b C t fr hC
    exact .inr ⟨g, c, C', t, fr, hv, a, h1, by rw [h2]; exact hf, by rw [h2]; exact hs, hc, hm⟩
theorem RS0.mono {X X' : Cx} (h : Same X X') {x : T} {v : Value} (hh : RS0 X x v) : RS0 X' x v := by
  cases x
  case ref r =>
    obtain ⟨hr, hv, hh⟩ := hh
    refine ⟨h.us _ hr, hv, fun k es he => ?_⟩
    obtain ⟨e, h0, hs⟩ := h.ent r hr _ he
    cases e with
    | box cs => simp [Ent.shape] at hs
    | row k' es' =>
      simp [Ent.shape] at hs
      obtain ⟨rfl, hl⟩ := hs
      rw [← hl]
      exact (hh _ _ h0).mono h hr (by rw [he]; simp)
  case ptr r i j =>
    obtain ⟨hr, hv, hh⟩ := hh
    refine ⟨h.us _ hr, hv, fun e' he => ?_⟩
    obtain ⟨e, h0, hs⟩ := h.ent r hr _ he
    obtain ⟨g, hg, hp⟩ := hh e h0
    exact ⟨g, (h.pin r hr (by rw [he]; simp) g hg).1, by rw [← Ent.wd_shape hs]; exact hp⟩
  case rptr c j =>
    obtain ⟨g, o, C, t, fr, hv, hg, hC, hr⟩ := hh
    obtain ⟨a, b⟩ := h.stab g (lt_of_heap hC) hg
    exact ⟨g, o, C, t, fr, hv, a, b.trans hC, RL.mono h.stab hr⟩
  case any => trivial
  case fnp f r =>
    obtain ⟨u, hv, hr, hp, hh⟩ := hh
    refine ⟨u, hv, h.us _ hr, hp, fun e' he => ?_⟩
    obtain ⟨e, h0, hs⟩ := h.ent r hr _ he
    obtain ⟨g, hg, hp⟩ := hh e h0
    exact ⟨g, (h.pin r hr (by rw [he]; simp) g hg).1, by rw [← Ent.wd_shape hs]; exact hp⟩
  case fnq f r s =>
    obtain ⟨u, u', hv, ⟨hr, hp, hh⟩, ⟨hr', hp', hh'⟩⟩ := hh
    refine ⟨u, u', hv, ⟨h.us _ hr, hp, fun e' he => ?_⟩, ⟨h.us _ hr', hp', fun e' he => ?_⟩⟩
    · obtain ⟨e, h0, hs⟩ := h.ent r hr _ he
      obtain ⟨g, hg, hp⟩ := hh e h0
      exact ⟨g, (h.pin r hr (by rw [he]; simp) g hg).1, by rw [← Ent.wd_shape hs]; exact hp⟩
    · obtain ⟨e, h0, hs⟩ := h.ent s hr' _ he
      obtain ⟨g, hg, hp⟩ := hh' e h0
      exact ⟨g, (h.pin s hr' (by rw [he]; simp) g hg).1, by rw [← Ent.wd_shape hs]; exact hp⟩
  all_goals exact RV.mono h.stab hh
theorem RSl.mono {X X' : Cx} (h : Same X X') : ∀ {cs : List T} {vs : List Value}, RSl X cs vs → RSl X' cs vs
  | [], _, hh => hh
  | c :: cs, _, ⟨u, us, hv, h1, h2, h3⟩ => ⟨u, us, hv, h1, h2.mono h, RSl.mono h h3⟩
theorem RS1.mono {X X' : Cx} (h : Same X X') {x : T} {v : Value} (hh : RS1 X x v) : RS1 X' x v := by
  cases x
  case agg cs => obtain ⟨vs, hv, hh⟩ := hh; exact ⟨vs, hv, hh.mono h⟩
  all_goals (simp only [RS1] at hh ⊢; exact hh.mono h)
theorem RSt.mono {X X' : Cx} (h : Same X X') : ∀ {cs : List T} {vs : List Value}, RSt X cs vs → RSt X' cs vs
  | [], _, hh => hh
  | c :: cs, _, ⟨u, us, hv, h2, h3⟩ => ⟨u, us, hv, h2.mono h, RSt.mono h h3⟩
theorem RS.mono {X X' : Cx} (h : Same X X') {x : T} {v : Value} (hh : RS X x v) : RS X' x v := by
  cases x
  case tup cs => obtain ⟨vs, hv, hh⟩ := hh; exact ⟨vs, hv, hh.mono h⟩
  all_goals (simp only [RS] at hh ⊢; exact hh.mono h)
theorem RSl.len {X : Cx} : ∀ {cs : List T} {vs : List Value}, RSl X cs vs → vs.length = cs.length
  | [], _, h => by cases h; rfl
  | c :: cs, _, ⟨u, us, hv, _, _, h3⟩ => by subst hv; simp [h3.len]
theorem RSl.get {X : Cx} : ∀ {cs : List T} {vs : List Value} {i : Nat} {c : T}, RSl X cs vs → cs[i]? = some c → ∃ u, vs[i]? = some u ∧ u.oneCell' = true ∧ RS0 X c u
  | [], _, i, c, _, hc => by simp at hc
  | c0 :: cs, _, i, c, ⟨u, us, hv, h1, h2, h3⟩, hc => by
    subst hv
    cases i with
    | zero => simp at hc; subst hc; exact ⟨u, by simp, h1, h2⟩
    | succ i => simp at hc; simpa using h3.get hc
theorem RSl.one {X : Cx} : ∀ {cs : List T} {vs : List Value}, RSl X cs vs → ∀ u ∈ vs, u.oneCell' = true
  | [], _, h, u, hu => by cases h; cases hu
  | c :: cs, _, ⟨u0, us, hv, h1, h2, h3⟩, u, hu => by
    subst hv
    cases hu with
    | head => exact h1
    | tail _ hm => exact h3.one u hm
theorem RSl.take {X : Cx} : ∀ {cs : List T} {vs : List Value} (n : Nat), RSl X cs vs → RSl X (cs.take n) (vs.take n)
  | _, _, 0, _ => by simp [RSl]
  | [], _, n + 1, h => by cases h; simp [RSl]
  | c :: cs, _, n + 1, ⟨u, us, hv, h1, h2, h3⟩ => by subst hv; exact ⟨u, _, rfl, h1, h2, h3.take n⟩
theorem RSl.drop {X : Cx} : ∀ {cs : List T} {vs : List Value} (n : Nat), RSl X cs vs → RSl X (cs.drop n) (vs.drop n)
  | _, _, 0, h => by simpa using h
  | [], _, n + 1, h => by cases h; simp [RSl]
  | c :: cs, _, n + 1, ⟨u, us, hv, h1, h2, h3⟩ => by subst hv; simpa using h3.drop n
theorem RSl.append {X : Cx} : ∀ {cs ds : List T} {vs us : List Value}, RSl X cs vs → RSl X ds us → RSl X (cs ++ ds) (vs ++ us)
  | [], _, _, _, h, h2 => by cases h; simpa using h2
  | c :: cs, _, _, _, ⟨u, us, hv, h1, h2, h3⟩, h4 => by subst hv; exact ⟨u, _, rfl, h1, h2, h3.append h4⟩
theorem RSl.set {X : Cx} : ∀ {cs : List T} {vs : List Value} (i : Nat) {c : T} {u : Value}, RSl X cs vs → RS0 X c u → u.oneCell' = true → RSl X (cs.set i c) (vs.set i u)
  | [], _, i, c, u, h, _, _ => by cases h; simp [RSl]
  | c0 :: cs, _, i, c, u, ⟨u0, us, hv, h1, h2, h3⟩, hc, ho => by
    subst hv
    cases i with
    | zero => exact ⟨_, _, rfl, ho, hc, h3⟩
    | succ i => exact ⟨_, _, rfl, h1, h2, h3.set i hc ho⟩
theorem RL.rsl {X : Cx} : ∀ {cs : List T} {vs : List Value}, RL X.ow X.w cs vs → RSl X cs vs
  | [], _, h => by simp only [RL] at h; exact h
  | c :: cs, _, h => by
    simp only [RL] at h
    obtain ⟨u, us, hv, h1, h2⟩ := h
    refine ⟨u, us, hv, h1.one, ?_, h2.rsl⟩
    cases c <;> first | exact h1 | (simp only [RV] at h1; done) | trivial
theorem RV.rs0 {X : Cx} {x : T} {v : Value} (h : RV X.ow X.w x v) : RS0 X x v := by
  cases x <;> first | exact h | (simp only [RV] at h; done) | trivial
theorem RS0.rs1 {X : Cx} {x : T} {v : Value} (h : RS0 X x v) (ho : v.oneCell' = true) : RS1 X x v := by
  cases x <;> first | exact h | (simp only [RS0, RV] at h; done)
theorem RS1.rs {X : Cx} {x : T} {v : Value} (h : RS1 X x v) : RS X x v := by
  cases x <;> first | exact h | (simp only [RS1, RS0, RV] at h; done)
theorem RS0.rs {X : Cx} {x : T} {v : Value} (h : RS0 X x v) : RS X x v := by
  cases x <;> first | exact h | (simp only [RS0, RV] at h; done)

/-- An entry whose block is as it was. -/
theorem Node.mono {X X' : Cx} (h : Same X X') {r : Nat} {e : Ent} (hr : X.us r) (hn : X'.H r ≠ none)
    (hb : ∀ g, X.ow g = some r → X'.w.heap[g]? = X.w.heap[g]?) (hh : Node X r e) : Node X' r e := by
  cases e with
  | box cs =>
    obtain ⟨g, C, t, fr, hg, hC, hf, hl⟩ := hh
    exact ⟨g, C, t, fr, (h.pin r hr hn g hg).1, (hb g hg).trans hC, hf, hl.mono h⟩
  | row k es =>
    refine ⟨hh.1, ?_⟩
    rcases hh.2 with h0 | ⟨g, C, t, fr, hg, hC, hf, hl⟩
    · exact .inl h0
    · exact .inr ⟨g, C, t, fr, (h.pin r hr hn g hg).1, (hb g hg).trans hC, hf, RE.mono h.stab hl⟩

/-! ### the ways in which entries turn -/
def updE (H : Hp) (r : Nat) (e : Option Ent) : Hp := fun i => bif Nat.beq i r then e else H i
theorem updE_same (H : Hp) (r : Nat) (e : Option Ent) : updE H r e r = e := by simp [updE]
theorem updE_other (H : Hp) {r i : Nat} (e : Option Ent) (h : i ≠ r) : updE H r e i = H i := by
  have : Nat.beq i r = false := by
    cases hb : Nat.beq i r with
    | false => rfl
    | true => exact absurd (Nat.eq_of_beq_eq_true hb) h
  simp [updE, this]
/-- More numbers are given out; a draw. -/
theorem same_nx (X : Cx) {u : Nat → Prop} (hn : ∀ r, X.us r → u r) (w : World) (h : w.heap = X.w.heap) (ho : w.os = X.w.os) (ht : w.tape = X.w.tape) (hu : w.output = X.w.output) : Same X { X with us := u, w := w } :=
  ⟨hn, ho, ht, hu, by show X.w.heap.size ≤ w.heap.size; rw [h]; exact Nat.le_refl _, fun g _ hg => ⟨hg, by show w.heap[g]? = _; rw [h]⟩, fun r _ e he => ⟨e, he, rfl⟩, fun g hg => ⟨hg, by show w.heap[g]? = _; rw [h]⟩, fun r _ _ g hg => ⟨hg, fun C t fr hC => ⟨C, by show w.heap[g]? = _; rw [h]; exact hC, rfl⟩⟩⟩
theorem HR.nx {X : Cx} (hh : HR X) {u : Nat → Prop} (hn : ∀ r, X.us r → u r) (w : World) (h : w.heap = X.w.heap) (ho : w.os = X.w.os) (ht : w.tape = X.w.tape) (hu : w.output = X.w.output) : HR { X with us := u, w := w } := by
  have hs := same_nx X hn w h ho ht hu
  refine ⟨hh.inj, fun g r hg => ?_, fun r e he => ?_, hh.zero, hn 0 hh.pos, hh.gl.mono hs.stab⟩
  · obtain ⟨a, b⟩ := hh.lt g r hg
    exact ⟨by show g < w.heap.size; rw [h]; exact a, hn r b⟩
  · obtain ⟨a, b⟩ := hh.node r e he
    exact ⟨hn r a, b.mono hs a (by show X.H r ≠ none; rw [he]; simp) (fun g _ => by show w.heap[g]? = _; rw [h])⟩

/-- A window of numbers of which none was given out. -/
def Fresh (X : Cx) (id : Nat) : Prop := ∀ r, id ≤ r → r < id + 16 → ¬ X.us r
def Cx.win (X : Cx) (id : Nat) : Nat → Prop := fun r => X.us r ∨ (id ≤ r ∧ r < id + 16)
theorem Fresh.ne {X : Cx} {id r : Nat} (h : Fresh X id) (hr : X.us r) : r ≠ id := fun e => h id (Nat.le_refl _) (by omega) (e ▸ hr)
/-- A new block with a new number. -/
def Cx.new (X : Cx) (id : Nat) (e : Ent) (w1 : World) (C : Array Value) (t : TypeId) (fr : Nat × Nat) : Cx :=
  { H := updE X.H id (some e), ow := fun g => if g = X.w.heap.size then some id else X.ow g, w := { w1 with heap := X.w.heap.push (.cells C t fr) }, us := X.win id }
theorem ow_lt {X : Cx} (hh : HR X) : X.ow X.w.heap.size = none := by
  cases h : X.ow X.w.heap.size with
  | none => rfl
  | some r => exact absurd (hh.lt _ r h).1 (Nat.lt_irrefl _)
theorem same_new {X : Cx} (hh : HR X) {id : Nat} (hi : Fresh X id) (e : Ent) (w1 : World) (C : Array Value) (t : TypeId) (fr : Nat × Nat) (ho : w1.os = X.w.os) (ht : w1.tape = X.w.tape) (hu : w1.output = X.w.output) :
    Same X (X.new id e w1 C t fr) := by
  refine ⟨fun r hr => .inl hr, ho, ht, hu, by show X.w.heap.size ≤ (X.w.heap.push _).size; simp, fun g hg hn => ⟨?_, ?_⟩, fun r hr e' he => ?_, fun g hg => ⟨?_, ?_⟩, fun r hr _ g hg => ⟨?_, fun C' t' fr' hC => ⟨C', ?_, rfl⟩⟩⟩
  · show (if g = X.w.heap.size then some id else X.ow g) = none
    rw [if_neg (by omega)]; exact hn
  · show (X.w.heap.push _)[g]? = _
    rw [Array.getElem?_push, if_neg (by omega)]
  · have : updE X.H id (some e) r = some e' := he
    rw [updE_other _ _ (hi.ne hr)] at this
    exact ⟨e', this, rfl⟩
  · show (if g = X.w.heap.size then some id else X.ow g) = some 0
    rw [if_neg (by have := (hh.lt g 0 hg).1; omega)]; exact hg
  · show (X.w.heap.push _)[g]? = _
    rw [Array.getElem?_push, if_neg (by have := (hh.lt g 0 hg).1; omega)]
  · show (if g = X.w.heap.size then some id else X.ow g) = some r
    rw [if_neg (by have := (hh.lt g r hg).1; omega)]; exact hg
  · show (X.w.heap.push _)[g]? = _
    rw [Array.getElem?_push, if_neg (by have := (hh.lt g r hg).1; omega)]; exact hC
theorem HR.new {X : Cx} (hh : HR X) {id : Nat} (hi : Fresh X id) (e : Ent) (w1 : World) (C : Array Value) (t : TypeId) (fr : Nat × Nat) (ho : w1.os = X.w.os) (ht : w1.tape = X.w.tape) (hu : w1.output = X.w.output)
    (hnode : Same X (X.new id e w1 C t fr) → Node (X.new id e w1 C t fr) id e) : HR (X.new id e w1 C t fr) := by
  have hs := same_new hh hi e w1 C t fr ho ht hu
  refine ⟨fun g g' r h0 h1 h2 => ?_, fun g r hg => ?_, fun r e' he => ?_, ?_, .inl hh.pos, hh.gl.mono hs.stab⟩
  · change updE X.H id (some e) r ≠ none at h0
    change (if g = X.w.heap.size then some id else X.ow g) = some r at h1
    change (if g' = X.w.heap.size then some id else X.ow g') = some r at h2
    split at h1 <;> split at h2
    · omega
    · injection h1 with h1; subst h1
      exact absurd rfl (hi.ne (hh.lt g' _ h2).2)
    · injection h2 with h2; subst h2
      exact absurd rfl (hi.ne (hh.lt g _ h1).2)
    · rw [updE_other _ _ (hi.ne (hh.lt g _ h1).2)] at h0
      exact hh.inj g g' r h0 h1 h2
  · change (if g = X.w.heap.size then some id else X.ow g) = some r at hg
    have hsz : (X.new id e w1 C t fr).w.heap.size = X.w.heap.size + 1 := by show (X.w.heap.push _).size = _; simp
    split at hg
    · injection hg with hg; subst hg
      exact ⟨by rw [hsz]; omega, .inr ⟨Nat.le_refl _, by omega⟩⟩
    · obtain ⟨a, b⟩ := hh.lt g r hg
      exact ⟨by rw [hsz]; omega, .inl b⟩
  · change updE X.H id (some e) r = some e' at he
    by_cases hr : r = id
    · subst hr
      rw [updE_same] at he
      injection he with he; subst he
      exact ⟨.inr ⟨Nat.le_refl _, by omega⟩, hnode hs⟩
    · rw [updE_other _ _ hr] at he
      obtain ⟨a, b⟩ := hh.node r e' he
      refine ⟨.inl a, b.mono hs a (by show updE X.H id (some e) r ≠ none; rw [updE_other _ _ hr, he]; simp) (fun g hg => ?_)⟩
      show (X.w.heap.push _)[g]? = _
      rw [Array.getElem?_push, if_neg (by have := (hh.lt g r hg).1; omega)]
  · show updE X.H id (some e) 0 = none
    rw [updE_other _ _ (hi.ne hh.pos)]; exact hh.zero

/-- An entry is given up: nobody owns its block any more. -/
def Cx.drop (X : Cx) (r : Nat) : Cx := { X with H := updE X.H r none, ow := fun g => if r ≠ 0 ∧ X.ow g = some r then none else X.ow g }
theorem same_drop (X : Cx) (r : Nat) : Same X (X.drop r) := by
  refine ⟨fun _ h => h, rfl, rfl, rfl, Nat.le_refl _, fun g hg hn => ⟨?_, rfl⟩, fun i hi e' he => ?_, fun g hg => ⟨?_, rfl⟩, fun i hi hne g hg => ⟨?_, fun C t fr hC => ⟨C, hC, rfl⟩⟩⟩
  · show (if r ≠ 0 ∧ X.ow g = some r then none else X.ow g) = none
    rw [hn]; simp
  · change updE X.H r none i = some e' at he
    by_cases hir : i = r
    · subst hir; rw [updE_same] at he; cases he
    · rw [updE_other _ _ hir] at he; exact ⟨e', he, rfl⟩
  · show (if r ≠ 0 ∧ X.ow g = some r then none else X.ow g) = some 0
    rw [hg, if_neg]
    rintro ⟨h1, h2⟩
    injection h2 with h2; exact h1 h2.symm
  · change updE X.H r none i ≠ none at hne
    have hir : i ≠ r := fun h => by subst h; rw [updE_same] at hne; exact hne rfl
    show (if r ≠ 0 ∧ X.ow g = some r then none else X.ow g) = some i
    rw [hg, if_neg (fun h => hir (by have := h.2; injection this))]
theorem drop_ow_eq {X : Cx} {r g i : Nat} (h : (X.drop r).ow g = some i) : X.ow g = some i := by
  change (if r ≠ 0 ∧ X.ow g = some r then none else X.ow g) = some i at h
  split at h
  · cases h
  · exact h
theorem drop_own {X : Cx} {r g : Nat} (hr : r ≠ 0) (h : X.ow g = some r) : (X.drop r).ow g = none := by
  show (if r ≠ 0 ∧ X.ow g = some r then none else X.ow g) = none
  rw [if_pos ⟨hr, h⟩]
theorem HR.drop {X : Cx} (hh : HR X) (r : Nat) : HR (X.drop r) := by
  have hs := same_drop X r
  refine ⟨fun g g' i h0 h1 h2 => hh.inj g g' i ?_ (drop_ow_eq h1) (drop_ow_eq h2), fun g i hg => hh.lt g i (drop_ow_eq hg), fun i e he => ?_, ?_, hh.pos, hh.gl.mono hs.stab⟩
  · change updE X.H r none i ≠ none at h0
    by_cases hir : i = r
    · subst hir; rw [updE_same] at h0; exact absurd rfl h0
    · rwa [updE_other _ _ hir] at h0
  · change updE X.H r none i = some e at he
    have hir : i ≠ r := fun h => by subst h; rw [updE_same] at he; cases he
    rw [updE_other _ _ hir] at he
    obtain ⟨a, b⟩ := hh.node i e he
    exact ⟨a, b.mono hs a (by show updE X.H r none i ≠ none; rw [updE_other _ _ hir, he]; simp) (fun g _ => rfl)⟩
  · show updE X.H r none 0 = none
    by_cases h0 : 0 = r
    · subst h0; rw [updE_same]
    · rw [updE_other _ _ h0]; exact hh.zero

/-- The block of an entry is written; nothing else turns. -/
def Cx.put (X : Cx) (r : Nat) (e : Ent) (g : Nat) (C : Array Value) (t : TypeId) (fr : Nat × Nat) : Cx :=
  { X with H := updE X.H r (some e), w := { X.w with heap := X.w.heap.setIfInBounds g (.cells C t fr) } }
theorem same_put {X : Cx} (hh : HR X) {r : Nat} {e0 e : Ent} {g : Nat} {C0 C : Array Value} {t : TypeId} {fr : Nat × Nat} (h0 : X.H r = some e0) (hg : X.ow g = some r) (hC : X.w.heap[g]? = some (.cells C0 t fr)) (hs : e0.shape = e.shape) (hz : C.size = C0.size) :
    Same X (X.put r e g C t fr) := by
  have hget : ∀ i, (X.put r e g C t fr).w.heap[i]? = if i = g then some (.cells C t fr) else X.w.heap[i]? := fun i => by
    show (X.w.heap.setIfInBounds g _)[i]? = _
    rw [Array.getElem?_setIfInBounds]
    have := lt_of_heap hC
    by_cases hi : g = i
    · subst hi; simp [this]
    · rw [if_neg hi, if_neg (fun h => hi h.symm)]
  refine ⟨fun _ h => h, rfl, rfl, rfl, by show _ ≤ (X.w.heap.setIfInBounds g _).size; simp, fun i hi hn => ⟨hn, ?_⟩, fun i hi e' he => ?_, fun i hi => ⟨hi, ?_⟩, fun i hi _ j hj => ⟨hj, fun C' t' fr' hC' => ?_⟩⟩
  · rw [hget, if_neg (fun h => by subst h; rw [hg] at hn; cases hn)]
  · change updE X.H r (some e) i = some e' at he
    by_cases hir : i = r
    · subst hir; rw [updE_same] at he; injection he with he; subst he; exact ⟨e0, h0, hs⟩
    · rw [updE_other _ _ hir] at he; exact ⟨e', he, rfl⟩
  · rw [hget, if_neg]
    intro h; subst h; rw [hg] at hi; injection hi with hi; exact hh.ne h0 hi
  · rw [hget]
    by_cases hj2 : j = g
    · subst hj2
      rw [hC] at hC'
      injection hC' with hC'
      injection hC' with a b c
      subst a b c
      exact ⟨C, by simp, hz⟩
    · exact ⟨C', by rw [if_neg hj2]; exact hC', rfl⟩
theorem HR.put {X : Cx} (hh : HR X) {r : Nat} {e0 e : Ent} {g : Nat} {C0 C : Array Value} {t : TypeId} {fr : Nat × Nat} (h0 : X.H r = some e0) (hg : X.ow g = some r) (hC : X.w.heap[g]? = some (.cells C0 t fr)) (hs : e0.shape = e.shape) (hz : C.size = C0.size)
    (hnode : Same X (X.put r e g C t fr) → (X.put r e g C t fr).w.heap[g]? = some (.cells C t fr) → Node (X.put r e g C t fr) r e) : HR (X.put r e g C t fr) := by
  have hsame := same_put hh h0 hg hC hs hz
  have hlt := lt_of_heap hC
  refine ⟨fun i j k hk hi hj => hh.inj i j k (fun hn => hk ?_) hi hj, fun i j hi => ?_, fun i e' he => ?_, by show updE X.H r (some e) 0 = none; rw [updE_other _ _ (Ne.symm (hh.ne h0))]; exact hh.zero, hh.pos, hh.gl.mono hsame.stab⟩
  · show updE X.H r (some e) k = none
    rw [updE_other _ _ (fun h => by subst h; rw [h0] at hn; cases hn)]; exact hn
  · obtain ⟨a, b⟩ := hh.lt i j hi
    exact ⟨by show i < (X.w.heap.setIfInBounds g _).size; simpa using a, b⟩
  · change updE X.H r (some e) i = some e' at he
    by_cases hir : i = r
    · subst hir
      rw [updE_same] at he; injection he with he; subst he
      refine ⟨(hh.node _ _ h0).1, hnode hsame ?_⟩
      show (X.w.heap.setIfInBounds g _)[g]? = _
      rw [Array.getElem?_setIfInBounds]; simp [hlt]
    · rw [updE_other _ _ hir] at he
      obtain ⟨a, b⟩ := hh.node i e' he
      refine ⟨a, b.mono hsame a (by show updE X.H r (some e) i ≠ none; rw [updE_other _ _ hir, he]; simp) (fun j hj => ?_)⟩
      show (X.w.heap.setIfInBounds g _)[j]? = _
      rw [Array.getElem?_setIfInBounds, if_neg]
      intro h; subst h; rw [hg] at hj; injection hj with hj; exact hir hj.symm
end Go.Proofs.YtkgfidphcpklhaaDoor
namespace Go.Proofs.YtkgfidphcpklhaaDoor
open Go.RowKit Pl
set_option linter.unusedVariables false
set_option linter.unusedSectionVars false

/-! ### types -/
inductive TD where
  | int (k : IntKind) | bool | string | slice (e : TypeId) | array (n : Nat) (e : TypeId) | struct (fs : List (Nat × TypeId)) | ptr (e : TypeId) | other
structure Ty where
  sz : Nat
  by8 : Nat
  zero : List T
  d : TD
  cmp : Bool
abbrev TT := TypeId → Option Ty
def TD.agg : TD → Bool
  | .array _ _ => true
  | .struct _ => true
  | _ => false
def TD.of : TypeDesc → TD
  | .bool => .bool
  | .int k => .int k
  | .string => .string
  | .slice e => .slice e
  | .array n e => .array n e
  | .struct fs => .struct (fs.toList.map fun f => (f.offset, f.type))
  | .pointer e => .ptr e
  | _ => .other
def zv : T → Value
  | .int k n => .int k n
  | .bool b => .bool b
  | .str s => .string (bs s)
  | .val v => v
  | _ => undef
def zok : T → Bool
  | .int _ _ => true
  | .bool _ => true
  | .str _ => true
  | .val v => v.oneCell'
  | _ => false
def flatF (P : Program) : List Field → Nat → List T → Prop
  | [], _, zs => zs = []
  | f :: fs, i, zs => match zs with
    | z :: zs => f.name ≠ "_" ∧ f.offset = i ∧ (match z with
      | .int k _ => P.underlying f.type = some (.int k)
      | .bool _ => P.underlying f.type = some .bool
      | .str _ => P.underlying f.type = some .string
      | _ => False) ∧ flatF P fs (i + 1) zs
    | [] => False
/-- The same with structs within: n bounds how deep. -/
inductive FlatN (P : Program) : Nat → List Field → Nat → List T → Prop
  | flat {n : Nat} {fs : List Field} {i : Nat} {zs : List T} : flatF P fs i zs → FlatN P n fs i zs
  | cell {n : Nat} {f : Field} {fs : List Field} {i : Nat} {z : T} {zs : List T} : f.name ≠ "_" → f.offset = i → (match z with
      | .int k _ => P.underlying f.type = some (.int k)
      | .bool _ => P.underlying f.type = some .bool
      | .str _ => P.underlying f.type = some .string
      | _ => False) → FlatN P n fs (i + 1) zs → FlatN P n (f :: fs) i (z :: zs)
  | sub {n : Nat} {f : Field} {fs : List Field} {i : Nat} {G : Array Field} {us zs : List T} : f.name ≠ "_" → f.offset = i → P.underlying f.type = some (.struct G) → P.stoodInHeld f.type = false →
      (∀ w, (Go.sizeOf f.type).run P w = .ok us.length w) → FlatN P n G.toList 0 us → FlatN P (n + 1) fs (i + us.length) zs → FlatN P (n + 1) (f :: fs) i (us ++ zs)
theorem flatN_of {P : Program} {fs : List Field} {i : Nat} {zs : List T} (h : flatF P fs i zs) : ∃ n, n ≤ 9000 ∧ FlatN P n fs i zs := ⟨0, by decide, .flat h⟩
structure TyOk (P : Program) (t : TypeId) (y : Ty) : Prop where
  info : ∃ i z, P.info? t = some i ∧ i.size = y.sz ∧ i.bytes = y.by8 ∧ i.zero = some z ∧ z.cells.toList = y.zero.map zv
  und : ∃ d, P.underlying t = some d ∧ TD.of d = y.d
  len : y.zero.length = y.sz
  zs : y.zero.all zok = true
  cm : y.cmp = true → P.eqGuardType P.depth t = false ∧ P.stoodInHeld t = false ∧ ∃ F, P.underlying t = some (.struct F) ∧ ∃ n, n ≤ 9000 ∧ FlatN P n F.toList 0 y.zero
def TtOk (P : Program) (tt : TT) : Prop := ∀ t y, tt t = some y → TyOk P t y

theorem zok_rv {ow : Own} {w : World} {x : T} (h : zok x = true) : RV ow w x (zv x) := by
  cases x <;> simp [zok] at h <;> simp [RV, zv, h]
theorem zok_rl {ow : Own} {w : World} : ∀ {xs : List T}, xs.all zok = true → RL ow w xs (xs.map zv)
  | [], _ => by simp [RL]
  | x :: xs, h => by
    simp at h
    simp only [List.map_cons, RL]
    exact ⟨_, _, rfl, zok_rv h.1, zok_rl (by simpa using h.2)⟩

/-! ### lists overwritten -/
def ovl {α : Type} (l : List α) (o : Nat) : List α → List α
  | [] => l
  | v :: vs => ovl (l.set o v) (o + 1) vs
theorem ovl_length {α : Type} : ∀ (vs l : List α) (o : Nat), (ovl l o vs).length = l.length
  | [], l, o => rfl
  | v :: vs, l, o => by rw [ovl, ovl_length vs]; simp
theorem ovl_eq {α : Type} : ∀ (vs l : List α) (o : Nat), o + vs.length ≤ l.length → ovl l o vs = l.take o ++ vs ++ l.drop (o + vs.length)
  | [], l, o, h => by simp [ovl]
  | v :: vs, l, o, h => by
    have hl : o + (vs.length + 1) ≤ l.length := by simpa using h
    have h1 : (l.set o v).take (o + 1) = l.take o ++ [v] := by
      rw [List.take_add_one, List.take_set_of_le (Nat.le_refl _), List.getElem?_set_self (by omega)]; rfl
    rw [ovl, ovl_eq vs _ _ (by simp; omega), h1, List.drop_set_of_lt (by omega), show o + 1 + vs.length = o + (vs.length + 1) by omega]
    simp
theorem RSl.ovl {X : Cx} : ∀ {xs cs : List T} {us vs : List Value} (o : Nat), RSl X cs vs → RSl X xs us → RSl X (ovl cs o xs) (ovl vs o us)
  | [], _, _, _, o, h, h2 => by cases h2; exact h
  | x :: xs, _, _, _, o, h, ⟨u, us, hv, h1, h2, h3⟩ => by subst hv; exact RSl.ovl (o + 1) (h.set o h2 h1) h3
theorem RE.ovl {ow : Own} {w : World} {k : Nat} {es : List (List T)} {i : Nat} : ∀ {xs e : List T} {us vs : List Value} (j : Nat), RE ow w k (es.set i e) vs → i < es.length → RL ow w xs us → j + xs.length ≤ k → RE ow w k (es.set i (ovl e j xs)) (Go.Proofs.YtkgfidphcpklhaaDoor.ovl vs (i * k + j) us)
  | [], _, _, _, j, h, hi, h2, _ => by simp only [RL] at h2; subst h2; exact h
  | x :: xs, e, _, _, j, h, hi, h2, hj => by
    simp only [RL] at h2
    obtain ⟨u, us, rfl, h1, h3⟩ := h2
    simp at hj
    have hs := RE.set i j (e := e) h (by simp [hi]) (by omega) h1
    rw [List.set_set] at hs
    have := RE.ovl (j + 1) hs hi h3 (by omega)
    simpa [Go.Proofs.YtkgfidphcpklhaaDoor.ovl, Nat.add_assoc] using this

/-- Some cells of a block are written. -/
theorem run_storeBlock {P : Program} (g o : Nat) (t : TypeId) (fr : Nat × Nat) : ∀ (vs : List Value) (i : Nat) (C : Array Value) (w : World), w.heap[g]? = some (.cells C t fr) → FreeR fr C.size → o + i + vs.length ≤ C.size → (∀ u ∈ vs, u.oneCell' = true) →
    (storeCells ⟨g, o, none⟩ vs i).run P w = .ok () { w with heap := w.heap.setIfInBounds g (.cells (ovl C.toList (o + i) vs).toArray t fr) }
  | [], i, C, w, hC, _, _, _ => by
    have : w.heap.setIfInBounds g (.cells (ovl C.toList (o + i) ([] : List Value)).toArray t fr) = w.heap := by
      apply Array.ext_getElem?
      intro j
      rw [Array.getElem?_setIfInBounds]
      split
      · rename_i hj; subst hj
        have := lt_of_heap hC
        simp [this, hC, ovl]
        simpa using (Array.getElem?_eq_some_iff.1 hC).2.symm
      · rfl
    rw [this]; rfl
  | v :: vs, i, C, w, hC, hf, hl, h1 => by
    simp at hl
    have hadd : (⟨g, o, none⟩ : Addr).add i = ⟨g, o + i, none⟩ := by unfold Addr.add; split <;> simp_all
    have hcell : w.cell? ⟨g, o + i, none⟩ = some C[o + i] := by simp [World.cell?, hC, show o + i < C.size by omega]
    have hfro : w.frozen? ⟨g, o + i, none⟩ = false := by
      obtain ⟨lo, hi⟩ := fr
      simp [World.frozen?, hC]
      intro hlo
      rcases hf with hf | hf <;> simp at hf <;> omega
    have hset : w.setCell ⟨g, o + i, none⟩ v = { w with heap := w.heap.setIfInBounds g (.cells (C.setIfInBounds (o + i) v) t fr) } := by
      unfold World.setCell
      congr 1
      apply Array.ext_getElem?
      intro j
      rw [Array.getElem?_modify, Array.getElem?_setIfInBounds]
      by_cases hj : g = j
      · subst hj
        have hg := (Array.getElem?_eq_some_iff.1 hC).2
        simp [lt_of_heap hC, hg]
      · simp [hj]
    have hst : (store ((⟨g, o, none⟩ : Addr).add i) v).run P w = .ok () (w.setCell ⟨g, o + i, none⟩ v) := by
      rw [hadd, run_store P w _ v _ (h1 v (by simp)), hcell]
      simp [hfro]
    have ih := run_storeBlock (P := P) g o t fr vs (i + 1) (C.setIfInBounds (o + i) v) (w.setCell ⟨g, o + i, none⟩ v) (by rw [hset]; simp [lt_of_heap hC]) (by simpa using hf) (by simp; omega) (fun u hu => h1 u (by simp [hu]))
    simp only [storeCells, Sem.run_bind, hst, Result.andThen_ok, ih]
    rw [hset]
    simp [ovl, Nat.add_assoc]
end Go.Proofs.YtkgfidphcpklhaaDoor
namespace Go.Proofs.YtkgfidphcpklhaaDoor
open Go.RowKit Pl
set_option linter.unusedVariables false
set_option linter.unusedSectionVars false

abbrev Upd := List (Nat × Option Ent)
abbrev Kon := T → Upd → Prop
def updL (H : Hp) : Upd → Hp
  | [] => H
  | (r, e) :: l => updL (updE H r e) l
def forceT (x : T) (K : T → Prop) : Prop := match x with
  | .int k n => K (.int k n)
  | .bool b => K (.bool b)
  | .str s => K (.str s)
  | .val v => K (.val v)
  | .agg cs => K (.agg cs)
  | .tup cs => K (.tup cs)
  | .sl k es => K (.sl k es)
  | .ref r => K (.ref r)
  | .ptr r i j => K (.ptr r i j)
  | .rptr c j => K (.rptr c j)
  | .any => K .any
  | .fnp f r => K (.fnp f r)
  | .fnq f r s => K (.fnq f r s)
theorem forceT_eq {x : T} {K : T → Prop} (h : forceT x K) : K x := by cases x <;> exact h
/-- A branch on a bool. -/
def CondB (b : Bool) (p q : Prop) : Prop := (b = true → p) ∧ (b = false → q)
def CondT (t : T) (p q : Prop) : Prop := match t with
  | .bool b => CondB b p q
  | _ => False
def opnds : Op → List Operand
  | .move x | .assign x | .box _ x | .load _ x | .nilCheck x | .unOp _ _ x | .convert _ _ x | .fieldAddr _ x _ | .field _ x _ | .extract x _ => [x]
  | .pick c a b => [c, a, b]
  | .build _ ps | .buildSlice _ _ ps => ps.toList.map (·.2)
  | .store _ a v | .binOp _ _ a v _ | .makeSlice _ a v | .indexAddr _ a v | .index _ a v => [a, v]
  | .slice _ x l h m => x :: (l.toList ++ h.toList ++ m.toList)
  | .call c => (match c.callee with | .value f => [f] | _ => []) ++ c.args.toList
  | .makeFunc _ a b => a.toList ++ b.toList
  | _ => []
def cellsT : T → Option (List T)
  | .agg cs => some cs
  | .any => none
  | .tup _ => none
  | .fnp _ _ => none
  | .fnq _ _ _ => none
  | x => some [x]
def byteE (b : UInt8) : List T := [.int .u8 (b.toNat : Int)]
def bytesE (l : Bs) : List (List T) := l.map byteE

/-- Two operands. -/
def binT (op : BinOp) (x y : T) (K : T → Prop) : Prop := match x, y with
  | .int k a, .int k' b => match op with
    | .shl => 0 ≤ b ∧ b ≤ (k.bits : Int) ∧ ∃ r, r = k.wrap (a * 2 ^ b.toNat) ∧ K (.int k r)
    | .shr => 0 ≤ b ∧ b ≤ (k.bits : Int) ∧ ∃ r, r = a / 2 ^ b.toNat ∧ K (.int k r)
    | .add => k = k' ∧ ∃ r, r = k.wrap (a + b) ∧ K (.int k r)
    | .sub => k = k' ∧ ∃ r, r = k.wrap (a - b) ∧ K (.int k r)
    | .mul => k = k' ∧ ∃ r, r = k.wrap (a * b) ∧ K (.int k r)
    | .quo => k = k' ∧ b ≠ 0 ∧ ∃ r, r = k.wrap (a.tdiv b) ∧ K (.int k r)
    | .rem => k = k' ∧ b ≠ 0 ∧ ∃ r, r = a.tmod b ∧ K (.int k r)
    | .and => k = k' ∧ ∃ r, r = bits .and k a b ∧ K (.int k r)
    | .or => k = k' ∧ ∃ r, r = bits .or k a b ∧ K (.int k r)
    | .xor => k = k' ∧ ∃ r, r = bits .xor k a b ∧ K (.int k r)
    | .andNot => k = k' ∧ ∃ r, r = bits .andNot k a b ∧ K (.int k r)
    | .eql => k = k' ∧ K (.bool (decide (a = b)))
    | .neq => k = k' ∧ K (.bool (!decide (a = b)))
    | .lss => k = k' ∧ K (.bool (decide (a < b)))
    | .leq => k = k' ∧ K (.bool (decide (a ≤ b)))
    | .gtr => k = k' ∧ K (.bool (decide (b < a)))
    | .geq => k = k' ∧ K (.bool (decide (b ≤ a)))
  | .str a, .str b => match op with
    | .add => ((a.length + b.length : Nat) : Int) ≤ 9223372036854775807 ∧ K (.str (a ++ b))
    | .eql => K (.bool (decide (a = b)))
    | .neq => K (.bool (!decide (a = b)))
    | .lss => K (.bool (Op.bytesLess a b))
    | .leq => K (.bool (Op.bytesLess a b || decide (a = b)))
    | .gtr => K (.bool (!(Op.bytesLess a b || decide (a = b))))
    | .geq => K (.bool (!Op.bytesLess a b))
    | _ => False
  | _, _ => False
/-- Structs, compared cell by cell. -/
def eqC : List T → List T → Bool
  | [], [] => true
  | .int _ a :: xs, .int _ b :: ys => decide (a = b) && eqC xs ys
  | .bool a :: xs, .bool b :: ys => decide (a = b) && eqC xs ys
  | .str a :: xs, .str b :: ys => decide (a = b) && eqC xs ys
  | _, _ => false
def sameK : List T → List T → Bool
  | [], [] => true
  | .int k _ :: zs, .int k' _ :: xs => decide (k = k') && sameK zs xs
  | .bool _ :: zs, .bool _ :: xs => sameK zs xs
  | .str _ :: zs, .str _ :: xs => sameK zs xs
  | _, _ => false
def eqT (tt : TT) (op : BinOp) (t : TypeId) (xs ys : List T) (K : T → Prop) : Prop := match tt t with
  | some y => y.cmp = true ∧ sameK y.zero xs = true ∧ sameK y.zero ys = true ∧ (match op with
    | .eql => K (.bool (eqC xs ys))
    | .neq => K (.bool (!eqC xs ys))
    | _ => False)
  | none => False
def eqB (tt : TT) (op : BinOp) (t : TypeId) (a b : Bool) (K : T → Prop) : Prop := match tt t with
  | some y => match y.d with
    | .bool => (match op with
      | .eql => K (.bool (decide (a = b)))
      | .neq => K (.bool (!decide (a = b)))
      | _ => False)
    | _ => False
  | none => False
def unT (op : UnOp) (x : T) (K : T → Prop) : Prop := match op, x with
  | .not, .bool b => K (.bool (!b))
  | .neg, .int k n => ∃ r, r = k.wrap (0 - n) ∧ K (.int k r)
  | .xor, .int k n => ∃ r, r = bits .xor k (if k.signed then -1 else k.max) n ∧ K (.int k r)
  | _, _ => False
/-- The cells of one variable, read. -/
def forceSp {α : Type} (l : List α) (K : List α → Prop) : Prop := match l with
  | [] => K []
  | x :: l => forceSp l fun l => K (x :: l)
theorem forceSp_eq {α : Type} : ∀ {l : List α} {K : List α → Prop}, forceSp l K → K l
  | [], _, h => h
  | x :: l, K, h => forceSp_eq (K := fun l => K (x :: l)) h
theorem forceSp_mk {α : Type} : ∀ {l : List α} {K : List α → Prop}, K l → forceSp l K
  | [], _, h => h
  | x :: l, K, h => forceSp_mk (K := fun l => K (x :: l)) h
def loadT (y : Ty) (cs : List T) (j : Nat) (K : T → Prop) : Prop :=
  bif y.d.agg then forceSp ((cs.drop j).take y.sz) fun xs => xs.length = y.sz ∧ K (.agg xs) else ∃ c, cs[j]? = some c ∧ forceT c K
/-- The cells of parts, overwritten. -/
def fillT (place : Nat → Option (Nat × Nat)) (cells : List T) : List (Nat × T) → Option (List T)
  | [] => some cells
  | (i, x) :: l => match place i, cellsT x with
    | some (o, sz), some xs => bif Nat.beq xs.length sz && Nat.ble (o + sz) cells.length then fillT place (ovl cells o xs) l else none
    | _, _ => none
def placeS (tt : TT) (fs : List (Nat × TypeId)) (i : Nat) : Option (Nat × Nat) := match fs[i]? with
  | some (o, ft) => match tt ft with
    | some y => some (o, y.sz)
    | none => none
  | none => none
/-- A row that the call owns, as a slice that is only read: its number is given up. -/
def frz (H : Hp) : List T → Option (List T × List Nat)
  | [] => some ([], [])
  | c :: cs => match frz H cs with
    | some (ds, rs) => match c with
      | .ref r => match H r with
        | some (.row k es) => some (.sl k es :: ds, r :: rs)
        | _ => none
      | .int k n => some (.int k n :: ds, rs)
      | .bool b => some (.bool b :: ds, rs)
      | .str s => some (.str s :: ds, rs)
      | .val v => some (.val v :: ds, rs)
      | .sl k es => some (.sl k es :: ds, rs)
      | _ => none
    | none => none
/-- Elements put into a row. -/
def fillE (H : Hp) (sz : Nat) (es : List (List T)) (gone : List Nat) : List (Nat × T) → Option (List (List T) × List Nat)
  | [] => some (es, gone)
  | (i, x) :: l => match cellsT x with
    | some xs => match frz H xs with
      | some (ys, rs) => bif Nat.beq ys.length sz && Nat.blt i es.length then fillE H sz (es.set i ys) (gone ++ rs) l else none
      | none => none
    | none => none
def goneU (l : List Nat) : Upd := l.map fun r => (r, none)
def zipParts : List (Nat × Operand) → List T → List (Nat × T)
  | (i, _) :: l, x :: xs => (i, x) :: zipParts l xs
  | _, _ => []

def isU8 (tt : TT) (e : TypeId) : Bool := match tt e with
  | some y => match y.d with
    | .int .u8 => true
    | _ => false
  | none => false
def isBytes (tt : TT) (y : Ty) : Bool := match y.d with
  | .slice e => isU8 tt e
  | _ => false
def isStr (y : Ty) : Bool := match y.d with
  | .string => true
  | _ => false
def sliceSz (tt : TT) (y : Ty) : Option Nat := match y.d with
  | .slice e => match tt e with
    | some ye => some ye.sz
    | none => none
  | _ => none
/-- What is appended, and whose row it is. -/
def newsT (tt : TT) (H : Hp) (ye yu : Ty) (z : T) (K : Nat → List (List T) → Prop) : Prop := match z with
  | .ref s => match H s with
    | some (.row k es) => sliceSz tt yu = some k ∧ K k es
    | _ => False
  | .sl k es => sliceSz tt yu = some k ∧ K k es
  | .val v => v = nilV ∧ sliceSz tt yu = some ye.sz ∧ K ye.sz []
  | .str b => isStr yu = true ∧ (match ye.d with | .int .u8 => True | _ => False) ∧ K 1 (bytesE b)
  | .int kk n => (match yu.d with | .int k' => k' = kk | _ => False) ∧ ye.sz ≠ 0 ∧ Nat.ble ye.by8 100000 = true ∧ ∃ m : Nat, n = m ∧ (m : Int) ≤ 1000000000 ∧ K ye.sz (List.replicate m ye.zero)
  | _ => False
def appT (tt : TT) (H : Hp) (ye yu : Ty) (x z : T) (K : Nat → List (List T) → List Nat → Prop) : Prop := match x with
  | .val v => v = nilV ∧ newsT tt H ye yu z fun k es => K k es []
  | .ref r => match H r with
    | some (.row k0 es0) => (match z with | .ref s => !Nat.beq s r | _ => true) = true ∧ newsT tt H ye yu z fun k es => k0 = k ∧ K k (es0 ++ es) [r]
    | _ => False
  | _ => False

/-- What an operation asks of the contents, and what it gives. -/
def Eff (tt : TT) (op : Op) (ty : TypeId) (args : List T) (H : Hp) (id : Nat) (K : Kon) : Prop := match op, args with
  | .move _, [x] => forceT x fun x => K x []
  | .assign _, [x] => forceT x fun x => K x []
  | .pick _ _ _, [c, a, b] => CondT c (forceT a fun a => K a []) (forceT b fun b => K b [])
  | .alloc e, [] => match tt e with
    | some y => K (.ptr id 0 0) [(id, some (.box y.zero))]
    | none => False
  | .box e _, [x] => match tt e, cellsT x with
    | some y, some cs => K (.ptr id 0 0) [(id, some (.box cs))]
    | _, _ => False
  | .nilCheck _, [x] => match x with
    | .ptr r i j => K (.ptr r i j) []
    | .rptr c j => K (.rptr c j) []
    | _ => False
  | .fieldAddr st _ f, [x] => match tt st with
    | some y => match y.d with
      | .struct fs => match fs[f]? with
        | some (off, ft) => match tt ft with
          | some yf => yf.sz ≠ 0 ∧ (match x with
            | .ptr r i j => K (.ptr r i (j + off)) []
            | .rptr c j => K (.rptr c (j + off)) []
            | _ => False)
          | none => False
        | none => False
      | _ => False
    | none => False
  | .indexAddr t _ _, [x, i] => match i, tt t with
    | .int _ n, some y => match y.d with
      | .slice e => match tt e with
        | some ye => match x with
          | .ref r => match H r with
            | some (.row k es) => k = ye.sz ∧ ∃ i : Nat, n = i ∧ i < es.length ∧ K (.ptr r i 0) []
            | _ => False
          | .sl k es => k = ye.sz ∧ ∃ (i : Nat) (e : List T), n = i ∧ es[i]? = some e ∧ K (.rptr e 0) []
          | _ => False
        | none => False
      | .array len e => match tt e with
        | some ye => ∃ m : Nat, n = m ∧ m < len ∧ (match x with
          | .ptr r i j => K (.ptr r i (j + m * ye.sz)) []
          | .rptr c j => K (.rptr c (j + m * ye.sz)) []
          | _ => False)
        | none => False
      | _ => False
    | _, _ => False
  | .index t _ _, [x, i] => match i, x, tt t with
    | .int _ n, .str s, some y => match y.d with
      | .string => ∃ i : Nat, n = i ∧ i < s.length ∧ K (.int .u8 ((s.getD i 0).toNat : Int)) []
      | _ => False
    | .int _ n, .agg cs, some y => match y.d with
      | .array len e => match tt e with
        | some ye => ye.d.agg = false ∧ ye.sz = 1 ∧ ∃ m : Nat, n = m ∧ m < len ∧ ∃ c, cs[m]? = some c ∧ forceT c fun c => K c []
        | none => False
      | _ => False
    | _, _, _ => False
  | .extract _ i, [x] => match x with
    | .tup cs => match cs[i]? with
      | some c => forceT c fun c => K c []
      | none => False
    | _ => False
  | .load t _, [x] => match tt t with
    | some y => match x with
      | .ptr r i j => match H r with
        | some (.box cs) => i = 0 ∧ loadT y cs j fun c => K c []
        | some (.row k es) => ∃ e, es[i]? = some e ∧ loadT y e j fun c => K c []
        | none => False
      | .rptr c j => loadT y c j fun c => K c []
      | _ => False
    | none => False
  | .store t _ _, [p, x] => match tt t, cellsT x with
    | some y, some xs => xs.length = y.sz ∧ (match p with
      | .ptr r i j => match H r with
        | some (.box cs) => i = 0 ∧ j + y.sz ≤ cs.length ∧ K .any [(r, some (.box (ovl cs j xs)))]
        | some (.row k es) => xs.all (fun c => match c with | .ref _ => false | .ptr _ _ _ => false | .rptr _ _ => false | .any => false | .agg _ => false | .tup _ => false | .fnp _ _ => false | .fnq _ _ _ => false | _ => true) = true ∧ ∃ e, es[i]? = some e ∧ j + y.sz ≤ k ∧ K .any [(r, some (.row k (es.set i (ovl e j xs))))]
        | none => False
      | _ => False)
    | _, _ => False
  | .binOp op t _ _ _, [x, y] => match x, y with
    | .agg xs, .agg ys => eqT tt op t xs ys fun r => K r []
    | .bool a, .bool b => eqB tt op t a b fun r => K r []
    | x, y => binT op x y fun r => K r []
  | .unOp op _ _, [x] => unT op x fun r => K r []
  | .convert src dst _, [x] => match tt src, tt dst with
    | some ys, some yd => match yd.d, x with
      | .int k, .int _ n => ∃ r, r = k.wrap n ∧ K (.int k r) []
      | .string, .str s => K (.str s) []
      | .slice e, .str s => isStr ys = true ∧ isU8 tt e = true ∧ (s.length : Int) ≤ 1000000000 ∧ K (.ref id) [(id, some (.row 1 (bytesE s)))]
      | .string, .ref r => match H r with
        | some (.row _ es) => isBytes tt ys = true ∧ ∃ l, es = bytesE l ∧ K (.str l) []
        | _ => False
      | .string, .sl _ es => isBytes tt ys = true ∧ ∃ l, es = bytesE l ∧ K (.str l) []
      | .string, .val v => isBytes tt ys = true ∧ v = nilV ∧ K (.str []) []
      | _, _ => False
    | _, _ => False
  | .build t parts, xs => match tt t with
    | some y => match y.d with
      | .struct fs => fs.all (fun f => (tt f.2).isSome) = true ∧ (match fillT (placeS tt fs) y.zero (zipParts parts.toList xs) with
        | some cells => K (.agg cells) []
        | none => False)
      | .array _ e => match tt e with
        | some ye => match fillT (fun i => some (i * ye.sz, ye.sz)) y.zero (zipParts parts.toList xs) with
          | some cells => K (.agg cells) []
          | none => False
        | none => False
      | _ => False
    | none => False
  | .buildSlice t len parts, xs => match tt t with
    | some y => match y.d with
      | .slice e => match tt e with
        | some ye => Nat.ble (len * ye.sz) 16777216 = true ∧ ye.sz ≠ 0 ∧ (match fillE H ye.sz (List.replicate len ye.zero) [] (zipParts parts.toList xs) with
          | some (es, gone) => K (.ref id) (goneU gone ++ [(id, some (.row ye.sz es))])
          | none => False)
        | none => False
      | _ => False
    | none => False
  | .makeSlice t _ _, [l, c] => match l, c, tt t with
    | .int _ n, .int _ n', some y => match y.d with
      | .slice e => match tt e with
        | some ye => ye.sz ≠ 0 ∧ Nat.ble ye.by8 100000 = true ∧ ∃ m : Nat, n = m ∧ n' = m ∧ (m : Int) ≤ 1000000000 ∧ K (.ref id) [(id, some (.row ye.sz (List.replicate m ye.zero)))]
        | none => False
      | _ => False
    | _, _, _ => False
  | .slice t _ (some _) none none, [x, a] => match a, x, tt t with
    | .int _ n, .str s, some y => isStr y = true ∧ ∃ i : Nat, n = i ∧ i ≤ s.length ∧ K (.str (s.drop i)) []
    | .int _ n, .sl k es, some y => sliceSz tt y = some k ∧ ∃ i : Nat, n = i ∧ i ≤ es.length ∧ K (.sl k (es.drop i)) []
    | .int _ n, .ref r, some y => match H r with
      | some (.row k es) => sliceSz tt y = some k ∧ ∃ i : Nat, n = i ∧ i ≤ es.length ∧ K (.sl k (es.drop i)) [(r, none)]
      | _ => False
    | _, _, _ => False
  | .slice t _ none (some _) none, [x, a] => match a, x, tt t with
    | .int _ n, .str s, some y => isStr y = true ∧ ∃ i : Nat, n = i ∧ i ≤ s.length ∧ K (.str (s.take i)) []
    | .int _ n, .sl k es, some y => sliceSz tt y = some k ∧ ∃ i : Nat, n = i ∧ i ≤ es.length ∧ K (.sl k (es.take i)) []
    | .int _ n, .ref r, some y => match H r with
      | some (.row k es) => sliceSz tt y = some k ∧ ∃ i : Nat, n = i ∧ i ≤ es.length ∧ K (.sl k (es.take i)) [(r, none)]
      | _ => False
    | _, _, _ => False
  | .slice t _ (some _) (some _) none, [x, a, b] => match a, b, x, tt t with
    | .int _ n, .int _ m, .str s, some y => isStr y = true ∧ ∃ i j : Nat, n = i ∧ m = j ∧ i ≤ j ∧ j ≤ s.length ∧ K (.str ((s.take j).drop i)) []
    | .int _ n, .int _ m, .sl k es, some y => sliceSz tt y = some k ∧ ∃ i j : Nat, n = i ∧ m = j ∧ i ≤ j ∧ j ≤ es.length ∧ K (.sl k ((es.take j).drop i)) []
    | _, _, _, _ => False
  | .makeFunc fn a _, xs => match fn, a.toList, xs with
    | .func f, [], [.ptr r i j] => i = 0 ∧ j = 0 ∧ K (.fnp f r) []
    | .func f, [], [.ptr r i j, .ptr s k l] => i = 0 ∧ j = 0 ∧ k = 0 ∧ l = 0 ∧ K (.fnq f r s) []
    | _, _, _ => False
  | .call c, xs => match c.callee, xs with
    | .builtin .len, [x] => match c.argTypes.toList with
      | [t] => match tt t with
        | some y => match x with
          | .str s => isStr y = true ∧ K (.int .i64 (s.length : Int)) []
          | .sl _ es => (sliceSz tt y).isSome = true ∧ ∃ n : Nat, es.length = n ∧ K (.int .i64 (n : Int)) []
          | .ref r => match H r with
            | some (.row _ es) => (sliceSz tt y).isSome = true ∧ ∃ n : Nat, es.length = n ∧ K (.int .i64 (n : Int)) []
            | _ => False
          | .val v => (sliceSz tt y).isSome = true ∧ v = nilV ∧ K (.int .i64 0) []
          | _ => False
        | none => False
      | _ => False
    | .builtin .min, [x, z] => match x, z with
      | .int k n, .int _ m => ∃ r : Int, r = (if m < n then m else n) ∧ K (.int k r) []
      | _, _ => False
    | .builtin .max, [x, z] => match x, z with
      | .int k n, .int _ m => ∃ r : Int, r = (if m > n then m else n) ∧ K (.int k r) []
      | _, _ => False
    | .builtin .append, [x, z] => match c.argTypes.toList with
      | [t, u] => match tt t, tt u with
        | some y, some yu => match y.d with
          | .slice e => match tt e with
            | some ye => appT tt H ye yu x z fun k es gone => k = ye.sz ∧ ye.sz ≠ 0 ∧ Nat.ble ye.by8 100000 = true ∧ (es.length : Int) ≤ 1000000000 ∧ K (.ref id) (goneU gone ++ [(id, some (.row ye.sz es))])
            | none => False
          | _ => False
        | _, _ => False
      | _ => False
    | _, _ => False
  | _, _ => False

/-- What is left behind an operation. -/
def Out (X : Cx) (id : Nat) (K : Kon) (v : Value) (w' : World) : Prop :=
  ∃ x upd X', K x upd ∧ X'.w = w' ∧ X'.us = X.win id ∧ X'.H = updL X.H upd ∧ Same X X' ∧ HR X' ∧ RS X' x v
def Args (X : Cx) : List T → List Value → Prop
  | [], vs => vs = []
  | x :: xs, vs => ∃ u us, vs = u :: us ∧ RS X x u ∧ Args X xs us

section
variable {X : Cx} {id : Nat} {K : Kon} (hh : HR X) (hi : Fresh X id)
include hh hi
theorem Out.same {x : T} {v : Value} (h : K x []) (hx : RS X x v) : Out X id K v X.w :=
  ⟨x, [], { X with us := X.win id }, h, rfl, rfl, rfl, same_nx X (fun _ h => .inl h) X.w rfl rfl rfl rfl, hh.nx (fun _ h => .inl h) X.w rfl rfl rfl rfl, hx.mono (same_nx X (fun _ h => .inl h) X.w rfl rfl rfl rfl)⟩
theorem Out.newBox {cs : List T} {C : Array Value} {t : TypeId} (h : K (.ptr id 0 0) [(id, some (.box cs))]) (hc : RSl X cs C.toList) :
    Out X id K (.pointer (some ⟨X.w.heap.size, 0, none⟩)) (X.w.alloc (.cells C t)) := by
  have hs := same_new hh hi (.box cs) X.w C t (0, 0) rfl rfl rfl
  refine ⟨_, _, X.new id (.box cs) X.w C t (0, 0), h, rfl, rfl, rfl, hs, hh.new hi _ X.w C t (0, 0) rfl rfl rfl fun _ => ?_, ?_⟩
  · refine ⟨X.w.heap.size, C, t, (0, 0), by simp [Cx.new], ?_, .inl (Nat.le_refl _), hc.mono hs⟩
    show (X.w.heap.push _)[_]? = _
    simp
  · refine ⟨.inr ⟨Nat.le_refl _, by omega⟩, ⟨_, rfl⟩, fun e he => ⟨X.w.heap.size, by simp [Cx.new], by simp⟩⟩
theorem Out.newRow {k n c : Nat} {es : List (List T)} {C : Array Value} {t : TypeId} {fr : Nat × Nat} (w1 : World) (ho : w1.os = X.w.os) (ht : w1.tape = X.w.tape) (hu : w1.output = X.w.output) (hw : w1.heap = X.w.heap)
    (h : K (.ref id) [(id, some (.row k es))]) (hk : 0 < k) (hn : n = es.length) (hsz : C.size = c * k) (hnc : n ≤ c) (hm : c ≤ maxLen) (hf : FreeR fr C.size)
    (hc : RE X.ow X.w k es C.toList) : Out X id K (.slice (some ⟨X.w.heap.size, 0, none⟩) n c) (w1.alloc (.cells C t fr)) := by
  have hs := same_new hh hi (.row k es) w1 C t fr ho ht hu
  have hget : (X.w.heap.push (.cells C t fr))[X.w.heap.size]? = some (.cells C t fr) := by simp
  have hwa : (X.new id (.row k es) w1 C t fr).w = w1.alloc (.cells C t fr) := by simp [Cx.new, World.alloc, hw]
  subst hn
  refine ⟨_, _, X.new id (.row k es) w1 C t fr, h, hwa, rfl, rfl, hs, hh.new hi _ w1 C t fr ho ht hu fun _ => ?_, ?_⟩
  · exact ⟨hk, .inr ⟨X.w.heap.size, C, t, fr, by simp [Cx.new], hget, hf, RE.mono hs.stab hc⟩⟩
  · refine ⟨.inr ⟨Nat.le_refl _, by omega⟩, ⟨_, _, _, rfl⟩, fun k' es' he => ?_⟩
    change updE X.H id (some (.row k es)) id = _ at he
    rw [updE_same] at he
    injection he with he; injection he with a b; subst a b
    exact .inr ⟨X.w.heap.size, c, C, t, fr, rfl, by simp [Cx.new], hget, hf, hsz, hnc, hm⟩
theorem Out.put {r : Nat} {e0 e : Ent} {g : Nat} {C0 C : Array Value} {t : TypeId} {fr : Nat × Nat} {v : Value} (h0 : X.H r = some e0) (hg : X.ow g = some r) (hC : X.w.heap[g]? = some (.cells C0 t fr)) (hs : e0.shape = e.shape) (hz : C.size = C0.size)
    (h : K .any [(r, some e)]) (hnode : Same X (X.put r e g C t fr) → (X.put r e g C t fr).w.heap[g]? = some (.cells C t fr) → Node (X.put r e g C t fr) r e) :
    Out X id K v { X.w with heap := X.w.heap.setIfInBounds g (.cells C t fr) } := by
  have hsame := same_put hh h0 hg hC hs hz
  have hhr := hh.put h0 hg hC hs hz hnode
  exact ⟨.any, _, { X.put r e g C t fr with us := X.win id }, h, rfl, rfl, rfl, hsame.trans (same_nx _ (fun _ h => .inl h) _ rfl rfl rfl rfl), hhr.nx (fun _ h => .inl h) _ rfl rfl rfl rfl, trivial⟩
end
end Go.Proofs.YtkgfidphcpklhaaDoor
