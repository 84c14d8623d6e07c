/- What slots hold, the entries, and what one step may turn. -/
import Derived.Test.YtkdajahiaedoiaaV0
namespace Go.Proofs.Ytkdajahiaedoiaa
open Go.RowKit Pl
set_option linter.unusedVariables false
set_option linter.unusedSectionVars false

def FreeR (fr : Nat × Nat) (n : Nat) : Prop := fr.2 ≤ fr.1 ∨ n ≤ fr.1
/-- The entries, who owns which block, the memory, and the numbers that were given out. -/
structure Cx where
  H : Hp
  ow : Own
  w : World
  us : Nat → Prop
def Hdr (X : Cx) (r k n : Nat) (v : Value) : Prop := (v = nilV ∧ n = 0) ∨
  ∃ g c C t fr, v = .slice (some ⟨g, 0, none⟩) n c ∧ X.ow g = some r ∧ X.w.heap[g]? = some (.cells C t fr) ∧ FreeR fr C.size ∧ C.size = c * k ∧ n ≤ c ∧ c ≤ maxLen
/-- A cell or a slot of one cell. -/
def RS0 (X : Cx) (x : T) (v : Value) : Prop := match x with
  | .ref r => X.us r ∧ (∃ A n c, v = .slice A n c) ∧ ∀ k es, X.H r = some (.row k es) → Hdr X r k es.length v
  | .ptr r i j => X.us r ∧ (∃ a, v = .pointer (some a)) ∧ ∀ e, X.H r = some e → ∃ g, X.ow g = some r ∧ v = .pointer (some ⟨g, i * e.wd + j, none⟩)
  | .rptr c j => ∃ g o C t fr, v = .pointer (some ⟨g, o + j, none⟩) ∧ X.ow g = none ∧ X.w.heap[g]? = some (.cells C t fr) ∧ RL X.ow X.w c ((C.toList.drop o).take c.length)
  | .any => True
  | x => RV X.ow X.w x v
def RSl (X : Cx) : List T → List Value → Prop
  | [], vs => vs = []
  | c :: cs, vs => ∃ u us, vs = u :: us ∧ u.oneCell' = true ∧ RS0 X c u ∧ RSl X cs us
def RS1 (X : Cx) (x : T) (v : Value) : Prop := match x with
  | .agg cs => ∃ vs, v = .agg vs ∧ RSl X cs vs.toList
  | x => RS0 X x v
def RSt (X : Cx) : List T → List Value → Prop
  | [], vs => vs = []
  | c :: cs, vs => ∃ u us, vs = u :: us ∧ RS1 X c u ∧ RSt X cs us
def RS (X : Cx) (x : T) (v : Value) : Prop := match x with
  | .tup cs => ∃ vs, v = .tuple vs ∧ RSt X cs vs.toList
  | x => RS1 X x v
def Node (X : Cx) (r : Nat) : Ent → Prop
  | .box cs => ∃ g C t fr, X.ow g = some r ∧ X.w.heap[g]? = some (.cells C t fr) ∧ FreeR fr C.size ∧ RSl X cs C.toList
  | .row k es => 0 < k ∧ (es = [] ∨ ∃ g C t fr, X.ow g = some r ∧ X.w.heap[g]? = some (.cells C t fr) ∧ FreeR fr C.size ∧ RE X.ow X.w k es C.toList)
structure HR (X : Cx) : Prop where
  inj : ∀ g g' r, X.H r ≠ none → X.ow g = some r → X.ow g' = some r → g = g'
  lt : ∀ g r, X.ow g = some r → g < X.w.heap.size ∧ X.us r
  node : ∀ r e, X.H r = some e → X.us r ∧ Node X r e
  zero : X.H 0 = none
  pos : X.us 0

def Ent.shape : Ent → Bool × Nat × Nat
  | .box cs => (true, cs.length, 0)
  | .row k es => (false, k, es.length)
/-- What was there stays readable. -/
structure Same (X X' : Cx) : Prop where
  us : ∀ r, X.us r → X'.us r
  os : X'.w.os = X.w.os
  tape : X'.w.tape = X.w.tape
  output : X'.w.output = X.w.output
  size : X.w.heap.size ≤ X'.w.heap.size
  stab : Stab X.ow X.w X'.ow X'.w
  ent : ∀ r, X.us r → ∀ e', X'.H r = some e' → ∃ e, X.H r = some e ∧ e.shape = e'.shape
  fra : ∀ g, X.ow g = some 0 → X'.ow g = some 0 ∧ X'.w.heap[g]? = X.w.heap[g]?
  pin : ∀ r, X.us r → X'.H r ≠ none → ∀ g, X.ow g = some r → X'.ow g = some r ∧ ∀ C t fr, X.w.heap[g]? = some (.cells C t fr) → ∃ C', X'.w.heap[g]? = some (.cells C' t fr) ∧ C'.size = C.size

theorem HR.inj' {X : Cx} (hh : HR X) {g g' r : Nat} {e : Ent} (hH : X.H r = some e) (h : X.ow g = some r) (h' : X.ow g' = some r) : g = g' := hh.inj g g' r (by rw [hH]; simp) h h'
theorem HR.ne {X : Cx} (hh : HR X) {r : Nat} {e : Ent} (hH : X.H r = some e) : r ≠ 0 := fun h => by subst h; rw [hh.zero] at hH; cases hH
theorem Same.refl (X : Cx) : Same X X := ⟨fun _ h => h, rfl, rfl, rfl, Nat.le_refl _, .refl _ _, fun r _ e h => ⟨e, h, rfl⟩, fun g h => ⟨h, rfl⟩, fun r _ _ g hg => ⟨hg, fun C t fr h => ⟨C, h, rfl⟩⟩⟩
theorem Same.trans {X Y Z : Cx} (h : Same X Y) (k : Same Y Z) : Same X Z where
  us := fun r hr => k.us r (h.us r hr)
  os := k.os.trans h.os
  tape := k.tape.trans h.tape
  output := k.output.trans h.output
  size := Nat.le_trans h.size k.size
  stab := h.stab.trans h.size k.stab
  ent := fun r hr e' he => by
    obtain ⟨e1, h1, s1⟩ := k.ent r (h.us r hr) e' he
    obtain ⟨e, h0, s0⟩ := h.ent r hr e1 h1
    exact ⟨e, h0, s0.trans s1⟩
  fra := fun g hg => by
    obtain ⟨a, b⟩ := h.fra g hg
    obtain ⟨c, d⟩ := k.fra g a
    exact ⟨c, d.trans b⟩
  pin := fun r hr hn g hg => by
    have hy : Y.H r ≠ none := by
      cases hz : Z.H r with
      | none => exact absurd hz hn
      | some e' =>
        obtain ⟨e1, h1, _⟩ := k.ent r (h.us r hr) e' hz
        rw [h1]; simp
    obtain ⟨a, b⟩ := h.pin r hr hy g hg
    obtain ⟨c, d⟩ := k.pin r (h.us r hr) hn g a
    refine ⟨c, fun C t fr hC => ?_⟩
    obtain ⟨C1, h1, s1⟩ := b C t fr hC
    obtain ⟨C2, h2, s2⟩ := d C1 t fr h1
    exact ⟨C2, h2, s2.trans s1⟩
theorem Ent.wd_shape {e e' : Ent} (h : e.shape = e'.shape) : e.wd = e'.wd := by
  cases e <;> cases e' <;> simp_all [Ent.shape, Ent.wd]
theorem Hdr.mono {X X' : Cx} (h : Same X X') {r k n : Nat} {v : Value} (hr : X.us r) (hn : X'.H r ≠ none) (hh : Hdr X r k n v) : Hdr X' r k n v := by
  rcases hh with hh | ⟨g, c, C, t, fr, hv, hg, hC, hf, hs, hc, hm⟩
  · exact .inl hh
  · obtain ⟨a, b⟩ := h.pin r hr hn g hg
    obtain ⟨C', h1, h2⟩ := b C t fr hC
    exact .inr ⟨g, c, C', t, fr, hv, a, h1, by rw [h2]; exact hf, by rw [h2]; exact hs, hc, hm⟩
theorem RS0.mono {X X' : Cx} (h : Same X X') {x : T} {v : Value} (hh : RS0 X x v) : RS0 X' x v := by
  cases x
  case ref r =>
    obtain ⟨hr, hv, hh⟩ := hh
    refine ⟨h.us _ hr, hv, fun k es he => ?_⟩
    obtain ⟨e, h0, hs⟩ := h.ent r hr _ he
    cases e with
    | box cs => simp [Ent.shape] at hs
    | row k' es' =>
      simp [Ent.shape] at hs
      obtain ⟨rfl, hl⟩ := hs
      rw [← hl]
      exact (hh _ _ h0).mono h hr (by rw [he]; simp)
  case ptr r i j =>
    obtain ⟨hr, hv, hh⟩ := hh
    refine ⟨h.us _ hr, hv, fun e' he => ?_⟩
    obtain ⟨e, h0, hs⟩ := h.ent r hr _ he
    obtain ⟨g, hg, hp⟩ := hh e h0
    exact ⟨g, (h.pin r hr (by rw [he]; simp) g hg).1, by rw [← Ent.wd_shape hs]; exact hp⟩
  case rptr c j =>
    obtain ⟨g, o, C, t, fr, hv, hg, hC, hr⟩ := hh
    obtain ⟨a, b⟩ := h.stab g (lt_of_heap hC) hg
    exact ⟨g, o, C, t, fr, hv, a, b.trans hC, RL.mono h.stab hr⟩
  case any => trivial
  all_goals exact RV.mono h.stab hh
theorem RSl.mono {X X' : Cx} (h : Same X X') : ∀ {cs : List T} {vs : List Value}, RSl X cs vs → RSl X' cs vs
  | [], _, hh => hh
  | c :: cs, _, ⟨u, us, hv, h1, h2, h3⟩ => ⟨u, us, hv, h1, h2.mono h, RSl.mono h h3⟩
theorem RS1.mono {X X' : Cx} (h : Same X X') {x : T} {v : Value} (hh : RS1 X x v) : RS1 X' x v := by
  cases x
  case agg cs => obtain ⟨vs, hv, hh⟩ := hh; exact ⟨vs, hv, hh.mono h⟩
  all_goals (simp only [RS1] at hh ⊢; exact hh.mono h)
theorem RSt.mono {X X' : Cx} (h : Same X X') : ∀ {cs : List T} {vs : List Value}, RSt X cs vs → RSt X' cs vs
  | [], _, hh => hh
  | c :: cs, _, ⟨u, us, hv, h2, h3⟩ => ⟨u, us, hv, h2.mono h, RSt.mono h h3⟩
theorem RS.mono {X X' : Cx} (h : Same X X') {x : T} {v : Value} (hh : RS X x v) : RS X' x v := by
  cases x
  case tup cs => obtain ⟨vs, hv, hh⟩ := hh; exact ⟨vs, hv, hh.mono h⟩
  all_goals (simp only [RS] at hh ⊢; exact hh.mono h)
theorem RSl.len {X : Cx} : ∀ {cs : List T} {vs : List Value}, RSl X cs vs → vs.length = cs.length
  | [], _, h => by cases h; rfl
  | c :: cs, _, ⟨u, us, hv, _, _, h3⟩ => by subst hv; simp [h3.len]
theorem RSl.get {X : Cx} : ∀ {cs : List T} {vs : List Value} {i : Nat} {c : T}, RSl X cs vs → cs[i]? = some c → ∃ u, vs[i]? = some u ∧ u.oneCell' = true ∧ RS0 X c u
  | [], _, i, c, _, hc => by simp at hc
  | c0 :: cs, _, i, c, ⟨u, us, hv, h1, h2, h3⟩, hc => by
    subst hv
    cases i with
    | zero => simp at hc; subst hc; exact ⟨u, by simp, h1, h2⟩
    | succ i => simp at hc; simpa using h3.get hc
theorem RSl.one {X : Cx} : ∀ {cs : List T} {vs : List Value}, RSl X cs vs → ∀ u ∈ vs, u.oneCell' = true
  | [], _, h, u, hu => by cases h; cases hu
  | c :: cs, _, ⟨u0, us, hv, h1, h2, h3⟩, u, hu => by
    subst hv
    cases hu with
    | head => exact h1
    | tail _ hm => exact h3.one u hm
theorem RSl.take {X : Cx} : ∀ {cs : List T} {vs : List Value} (n : Nat), RSl X cs vs → RSl X (cs.take n) (vs.take n)
  | _, _, 0, _ => by simp [RSl]
  | [], _, n + 1, h => by cases h; simp [RSl]
  | c :: cs, _, n + 1, ⟨u, us, hv, h1, h2, h3⟩ => by subst hv; exact ⟨u, _, rfl, h1, h2, h3.take n⟩
theorem RSl.drop {X : Cx} : ∀ {cs : List T} {vs : List Value} (n : Nat), RSl X cs vs → RSl X (cs.drop n) (vs.drop n)
  | _, _, 0, h => by simpa using h
  | [], _, n + 1, h => by cases h; simp [RSl]
  | c :: cs, _, n + 1, ⟨u, us, hv, h1, h2, h3⟩ => by subst hv; simpa using h3.drop n
theorem RSl.append {X : Cx} : ∀ {cs ds : List T} {vs us : List Value}, RSl X cs vs → RSl X ds us → RSl X (cs ++ ds) (vs ++ us)
  | [], _, _, _, h, h2 => by cases h; simpa using h2
  | c :: cs, _, _, _, ⟨u, us, hv, h1, h2, h3⟩, h4 => by subst hv; exact ⟨u, _, rfl, h1, h2, h3.append h4⟩
theorem RSl.set {X : Cx} : ∀ {cs : List T} {vs : List Value} (i : Nat) {c : T} {u : Value}, RSl X cs vs → RS0 X c u → u.oneCell' = true → RSl X (cs.set i c) (vs.set i u)
  | [], _, i, c, u, h, _, _ => by cases h; simp [RSl]
  | c0 :: cs, _, i, c, u, ⟨u0, us, hv, h1, h2, h3⟩, hc, ho => by
    subst hv
    cases i with
    | zero => exact ⟨_, _, rfl, ho, hc, h3⟩
    | succ i => exact ⟨_, _, rfl, h1, h2, h3.set i hc ho⟩
theorem RL.rsl {X : Cx} : ∀ {cs : List T} {vs : List Value}, RL X.ow X.w cs vs → RSl X cs vs
  | [], _, h => by simp only [RL] at h; exact h
  | c :: cs, _, h => by
    simp only [RL] at h
    obtain ⟨u, us, hv, h1, h2⟩ := h
    refine ⟨u, us, hv, h1.one, ?_, h2.rsl⟩
    cases c <;> first | exact h1 | (simp only [RV] at h1; done) | trivial
theorem RV.rs0 {X : Cx} {x : T} {v : Value} (h : RV X.ow X.w x v) : RS0 X x v := by
  cases x <;> first | exact h | (simp only [RV] at h; done) | trivial
theorem RS0.rs1 {X : Cx} {x : T} {v : Value} (h : RS0 X x v) (ho : v.oneCell' = true) : RS1 X x v := by
  cases x <;> first | exact h | (simp only [RS0, RV] at h; done)
theorem RS1.rs {X : Cx} {x : T} {v : Value} (h : RS1 X x v) : RS X x v := by
  cases x <;> first | exact h | (simp only [RS1, RS0, RV] at h; done)
theorem RS0.rs {X : Cx} {x : T} {v : Value} (h : RS0 X x v) : RS X x v := by
  cases x <;> first | exact h | (simp only [RS0, RV] at h; done)

/-- An entry whose block is as it was. -/
theorem Node.mono {X X' : Cx} (h : Same X X') {r : Nat} {e : Ent} (hr : X.us r) (hn : X'.H r ≠ none)
    (hb : ∀ g, X.ow g = some r → X'.w.heap[g]? = X.w.heap[g]?) (hh : Node X r e) : Node X' r e := by
  cases e with
  | box cs =>
    obtain ⟨g, C, t, fr, hg, hC, hf, hl⟩ := hh
    exact ⟨g, C, t, fr, (h.pin r hr hn g hg).1, (hb g hg).trans hC, hf, hl.mono h⟩
  | row k es =>
    refine ⟨hh.1, ?_⟩
    rcases hh.2 with h0 | ⟨g, C, t, fr, hg, hC, hf, hl⟩
    · exact .inl h0
    · exact .inr ⟨g, C, t, fr, (h.pin r hr hn g hg).1, (hb g hg).trans hC, hf, RE.mono h.stab hl⟩

/-! ### the ways in which entries turn -/
def updE (H : Hp) (r : Nat) (e : Option Ent) : Hp := fun i => bif Nat.beq i r then e else H i
theorem updE_same (H : Hp) (r : Nat) (e : Option Ent) : updE H r e r = e := by simp [updE]
theorem updE_other (H : Hp) {r i : Nat} (e : Option Ent) (h : i ≠ r) : updE H r e i = H i := by
  have : Nat.beq i r = false := by
    cases hb : Nat.beq i r with
    | false => rfl
    | true => exact absurd (Nat.eq_of_beq_eq_true hb) h
  simp [updE, this]
/-- More numbers are given out; a draw. -/
theorem same_nx (X : Cx) {u : Nat → Prop} (hn : ∀ r, X.us r → u r) (w : World) (h : w.heap = X.w.heap) (ho : w.os = X.w.os) (ht : w.tape = X.w.tape) (hu : w.output = X.w.output) : Same X { X with us := u, w := w } :=
  ⟨hn, ho, ht, hu, by show X.w.heap.size ≤ w.heap.size; rw [h]; exact Nat.le_refl _, fun g _ hg => ⟨hg, by show w.heap[g]? = _; rw [h]⟩, fun r _ e he => ⟨e, he, rfl⟩, fun g hg => ⟨hg, by show w.heap[g]? = _; rw [h]⟩, fun r _ _ g hg => ⟨hg, fun C t fr hC => ⟨C, by show w.heap[g]? = _; rw [h]; exact hC, rfl⟩⟩⟩
theorem HR.nx {X : Cx} (hh : HR X) {u : Nat → Prop} (hn : ∀ r, X.us r → u r) (w : World) (h : w.heap = X.w.heap) (ho : w.os = X.w.os) (ht : w.tape = X.w.tape) (hu : w.output = X.w.output) : HR { X with us := u, w := w } := by
  have hs := same_nx X hn w h ho ht hu
  refine ⟨hh.inj, fun g r hg => ?_, fun r e he => ?_, hh.zero, hn 0 hh.pos⟩
  · obtain ⟨a, b⟩ := hh.lt g r hg
    exact ⟨by show g < w.heap.size; rw [h]; exact a, hn r b⟩
  · obtain ⟨a, b⟩ := hh.node r e he
    exact ⟨hn r a, b.mono hs a (by show X.H r ≠ none; rw [he]; simp) (fun g _ => by show w.heap[g]? = _; rw [h])⟩

/-- A window of numbers of which none was given out. -/
def Fresh (X : Cx) (id : Nat) : Prop := ∀ r, id ≤ r → r < id + 16 → ¬ X.us r
def Cx.win (X : Cx) (id : Nat) : Nat → Prop := fun r => X.us r ∨ (id ≤ r ∧ r < id + 16)
theorem Fresh.ne {X : Cx} {id r : Nat} (h : Fresh X id) (hr : X.us r) : r ≠ id := fun e => h id (Nat.le_refl _) (by omega) (e ▸ hr)
/-- A new block with a new number. -/
def Cx.new (X : Cx) (id : Nat) (e : Ent) (w1 : World) (C : Array Value) (t : TypeId) (fr : Nat × Nat) : Cx :=
  { H := updE X.H id (some e), ow := fun g => if g = X.w.heap.size then some id else X.ow g, w := { w1 with heap := X.w.heap.push (.cells C t fr) }, us := X.win id }
theorem ow_lt {X : Cx} (hh : HR X) : X.ow X.w.heap.size = none := by
  cases h : X.ow X.w.heap.size with
  | none => rfl
  | some r => exact absurd (hh.lt _ r h).1 (Nat.lt_irrefl _)
theorem same_new {X : Cx} (hh : HR X) {id : Nat} (hi : Fresh X id) (e : Ent) (w1 : World) (C : Array Value) (t : TypeId) (fr : Nat × Nat) (ho : w1.os = X.w.os) (ht : w1.tape = X.w.tape) (hu : w1.output = X.w.output) :
    Same X (X.new id e w1 C t fr) := by
  refine ⟨fun r hr => .inl hr, ho, ht, hu, by show X.w.heap.size ≤ (X.w.heap.push _).size; simp, fun g hg hn => ⟨?_, ?_⟩, fun r hr e' he => ?_, fun g hg => ⟨?_, ?_⟩, fun r hr _ g hg => ⟨?_, fun C' t' fr' hC => ⟨C', ?_, rfl⟩⟩⟩
  · show (if g = X.w.heap.size then some id else X.ow g) = none
    rw [if_neg (by omega)]; exact hn
  · show (X.w.heap.push _)[g]? = _
    rw [Array.getElem?_push, if_neg (by omega)]
  · have : updE X.H id (some e) r = some e' := he
    rw [updE_other _ _ (hi.ne hr)] at this
    exact ⟨e', this, rfl⟩
  · show (if g = X.w.heap.size then some id else X.ow g) = some 0
    rw [if_neg (by have := (hh.lt g 0 hg).1; omega)]; exact hg
  · show (X.w.heap.push _)[g]? = _
    rw [Array.getElem?_push, if_neg (by have := (hh.lt g 0 hg).1; omega)]
  · show (if g = X.w.heap.size then some id else X.ow g) = some r
    rw [if_neg (by have := (hh.lt g r hg).1; omega)]; exact hg
  · show (X.w.heap.push _)[g]? = _
    rw [Array.getElem?_push, if_neg (by have := (hh.lt g r hg).1; omega)]; exact hC
theorem HR.new {X : Cx} (hh : HR X) {id : Nat} (hi : Fresh X id) (e : Ent) (w1 : World) (C : Array Value) (t : TypeId) (fr : Nat × Nat) (ho : w1.os = X.w.os) (ht : w1.tape = X.w.tape) (hu : w1.output = X.w.output)
    (hnode : Same X (X.new id e w1 C t fr) → Node (X.new id e w1 C t fr) id e) : HR (X.new id e w1 C t fr) := by
  have hs := same_new hh hi e w1 C t fr ho ht hu
  refine ⟨fun g g' r h0 h1 h2 => ?_, fun g r hg => ?_, fun r e' he => ?_, ?_, .inl hh.pos⟩
  · change updE X.H id (some e) r ≠ none at h0
    change (if g = X.w.heap.size then some id else X.ow g) = some r at h1
    change (if g' = X.w.heap.size then some id else X.ow g') = some r at h2
    split at h1 <;> split at h2
    · omega
    · injection h1 with h1; subst h1
      exact absurd rfl (hi.ne (hh.lt g' _ h2).2)
    · injection h2 with h2; subst h2
      exact absurd rfl (hi.ne (hh.lt g _ h1).2)
    · rw [updE_other _ _ (hi.ne (hh.lt g _ h1).2)] at h0
      exact hh.inj g g' r h0 h1 h2
  · change (if g = X.w.heap.size then some id else X.ow g) = some r at hg
    have hsz : (X.new id e w1 C t fr).w.heap.size = X.w.heap.size + 1 := by show (X.w.heap.push _).size = _; simp
    split at hg
    · injection hg with hg; subst hg
      exact ⟨by rw [hsz]; omega, .inr ⟨Nat.le_refl _, by omega⟩⟩
    · obtain ⟨a, b⟩ := hh.lt g r hg
      exact ⟨by rw [hsz]; omega, .inl b⟩
  · change updE X.H id (some e) r = some e' at he
    by_cases hr : r = id
    · subst hr
      rw [updE_same] at he
      injection he with he; subst he
      exact ⟨.inr ⟨Nat.le_refl _, by omega⟩, hnode hs⟩
    · rw [updE_other _ _ hr] at he
      obtain ⟨a, b⟩ := hh.node r e' he
      refine ⟨.inl a, b.mono hs a (by show updE X.H id (some e) r ≠ none; rw [updE_other _ _ hr, he]; simp) (fun g hg => ?_)⟩
      show (X.w.heap.push _)[g]? = _
      rw [Array.getElem?_push, if_neg (by have := (hh.lt g r hg).1; omega)]
  · show updE X.H id (some e) 0 = none
    rw [updE_other _ _ (hi.ne hh.pos)]; exact hh.zero

/-- An entry is given up: nobody owns its block any more. -/
def Cx.drop (X : Cx) (r : Nat) : Cx := { X with H := updE X.H r none, ow := fun g => if r ≠ 0 ∧ X.ow g = some r then none else X.ow g }
theorem same_drop (X : Cx) (r : Nat) : Same X (X.drop r) := by
  refine ⟨fun _ h => h, rfl, rfl, rfl, Nat.le_refl _, fun g hg hn => ⟨?_, rfl⟩, fun i hi e' he => ?_, fun g hg => ⟨?_, rfl⟩, fun i hi hne g hg => ⟨?_, fun C t fr hC => ⟨C, hC, rfl⟩⟩⟩
  · show (if r ≠ 0 ∧ X.ow g = some r then none else X.ow g) = none
    rw [hn]; simp
  · change updE X.H r none i = some e' at he
    by_cases hir : i = r
    · subst hir; rw [updE_same] at he; cases he
    · rw [updE_other _ _ hir] at he; exact ⟨e', he, rfl⟩
  · show (if r ≠ 0 ∧ X.ow g = some r then none else X.ow g) = some 0
    rw [hg, if_neg]
    rintro ⟨h1, h2⟩
    injection h2 with h2; exact h1 h2.symm
  · change updE X.H r none i ≠ none at hne
    have hir : i ≠ r := fun h => by subst h; rw [updE_same] at hne; exact hne rfl
    show (if r ≠ 0 ∧ X.ow g = some r then none else X.ow g) = some i
    rw [hg, if_neg (fun h => hir (by have := h.2; injection this))]
theorem drop_ow_eq {X : Cx} {r g i : Nat} (h : (X.drop r).ow g = some i) : X.ow g = some i := by
  change (if r ≠ 0 ∧ X.ow g = some r then none else X.ow g) = some i at h
  split at h
  · cases h
  · exact h
theorem drop_own {X : Cx} {r g : Nat} (hr : r ≠ 0) (h : X.ow g = some r) : (X.drop r).ow g = none := by
  show (if r ≠ 0 ∧ X.ow g = some r then none else X.ow g) = none
  rw [if_pos ⟨hr, h⟩]
theorem HR.drop {X : Cx} (hh : HR X) (r : Nat) : HR (X.drop r) := by
  have hs := same_drop X r
  refine ⟨fun g g' i h0 h1 h2 => hh.inj g g' i ?_ (drop_ow_eq h1) (drop_ow_eq h2), fun g i hg => hh.lt g i (drop_ow_eq hg), fun i e he => ?_, ?_, hh.pos⟩
  · change updE X.H r none i ≠ none at h0
    by_cases hir : i = r
    · subst hir; rw [updE_same] at h0; exact absurd rfl h0
    · rwa [updE_other _ _ hir] at h0
  · change updE X.H r none i = some e at he
    have hir : i ≠ r := fun h => by subst h; rw [updE_same] at he; cases he
    rw [updE_other _ _ hir] at he
    obtain ⟨a, b⟩ := hh.node i e he
    exact ⟨a, b.mono hs a (by show updE X.H r none i ≠ none; rw [updE_other _ _ hir, he]; simp) (fun g _ => rfl)⟩
  · show updE X.H r none 0 = none
    by_cases h0 : 0 = r
    · subst h0; rw [updE_same]
    · rw [updE_other _ _ h0]; exact hh.zero

/-- The block of an entry is written; nothing else turns. -/
def Cx.put (X : Cx) (r : Nat) (e : Ent) (g : Nat) (C : Array Value) (t : TypeId) (fr : Nat × Nat) : Cx :=
  { X with H := updE X.H r (some e), w := { X.w with heap := X.w.heap.setIfInBounds g (.cells C t fr) } }
theorem same_put {X : Cx} (hh : HR X) {r : Nat} {e0 e : Ent} {g : Nat} {C0 C : Array Value} {t : TypeId} {fr : Nat × Nat} (h0 : X.H r = some e0) (hg : X.ow g = some r) (hC : X.w.heap[g]? = some (.cells C0 t fr)) (hs : e0.shape = e.shape) (hz : C.size = C0.size) :
    Same X (X.put r e g C t fr) := by
  have hget : ∀ i, (X.put r e g C t fr).w.heap[i]? = if i = g then some (.cells C t fr) else X.w.heap[i]? := fun i => by
    show (X.w.heap.setIfInBounds g _)[i]? = _
    rw [Array.getElem?_setIfInBounds]
    have := lt_of_heap hC
    by_cases hi : g = i
    · subst hi; simp [this]
    · rw [if_neg hi, if_neg (fun h => hi h.symm)]
  refine ⟨fun _ h => h, rfl, rfl, rfl, by show _ ≤ (X.w.heap.setIfInBounds g _).size; simp, fun i hi hn => ⟨hn, ?_⟩, fun i hi e' he => ?_, fun i hi => ⟨hi, ?_⟩, fun i hi _ j hj => ⟨hj, fun C' t' fr' hC' => ?_⟩⟩
  · rw [hget, if_neg (fun h => by subst h; rw [hg] at hn; cases hn)]
  · change updE X.H r (some e) i = some e' at he
    by_cases hir : i = r
    · subst hir; rw [updE_same] at he; injection he with he; subst he; exact ⟨e0, h0, hs⟩
    · rw [updE_other _ _ hir] at he; exact ⟨e', he, rfl⟩
  · rw [hget, if_neg]
    intro h; subst h; rw [hg] at hi; injection hi with hi; exact hh.ne h0 hi
  · rw [hget]
    by_cases hj2 : j = g
    · subst hj2
      rw [hC] at hC'
      injection hC' with hC'
      injection hC' with a b c
      subst a b c
      exact ⟨C, by simp, hz⟩
    · exact ⟨C', by rw [if_neg hj2]; exact hC', rfl⟩
theorem HR.put {X : Cx} (hh : HR X) {r : Nat} {e0 e : Ent} {g : Nat} {C0 C : Array Value} {t : TypeId} {fr : Nat × Nat} (h0 : X.H r = some e0) (hg : X.ow g = some r) (hC : X.w.heap[g]? = some (.cells C0 t fr)) (hs : e0.shape = e.shape) (hz : C.size = C0.size)
    (hnode : Same X (X.put r e g C t fr) → (X.put r e g C t fr).w.heap[g]? = some (.cells C t fr) → Node (X.put r e g C t fr) r e) : HR (X.put r e g C t fr) := by
  have hsame := same_put hh h0 hg hC hs hz
  have hlt := lt_of_heap hC
  refine ⟨fun i j k hk hi hj => hh.inj i j k (fun hn => hk ?_) hi hj, fun i j hi => ?_, fun i e' he => ?_, by show updE X.H r (some e) 0 = none; rw [updE_other _ _ (Ne.symm (hh.ne h0))]; exact hh.zero, hh.pos⟩
  · show updE X.H r (some e) k = none
    rw [updE_other _ _ (fun h => by subst h; rw [h0] at hn; cases hn)]; exact hn
  · obtain ⟨a, b⟩ := hh.lt i j hi
    exact ⟨by show i < (X.w.heap.setIfInBounds g _).size; simpa using a, b⟩
  · change updE X.H r (some e) i = some e' at he
    by_cases hir : i = r
    · subst hir
      rw [updE_same] at he; injection he with he; subst he
      refine ⟨(hh.node _ _ h0).1, hnode hsame ?_⟩
      show (X.w.heap.setIfInBounds g _)[g]? = _
      rw [Array.getElem?_setIfInBounds]; simp [hlt]
    · rw [updE_other _ _ hir] at he
      obtain ⟨a, b⟩ := hh.node i e' he
      refine ⟨a, b.mono hsame a (by show updE X.H r (some e) i ≠ none; rw [updE_other _ _ hir, he]; simp) (fun j hj => ?_)⟩
      show (X.w.heap.setIfInBounds g _)[j]? = _
      rw [Array.getElem?_setIfInBounds, if_neg]
      intro h; subst h; rw [hg] at hj; injection hj with hj; exact hir hj.symm
end Go.Proofs.Ytkdajahiaedoiaa
