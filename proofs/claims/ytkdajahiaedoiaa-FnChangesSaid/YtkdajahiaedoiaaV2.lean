/- One operation, told by content: what it asks and what it gives. -/
import Derived.Test.YtkdajahiaedoiaaV1
import Derived.Laws.IdiomCopy
namespace Go.Proofs.Ytkdajahiaedoiaa
open Go.RowKit Pl
set_option linter.unusedVariables false
set_option linter.unusedSectionVars false

/-! ### types -/
inductive TD where
  | int (k : IntKind) | bool | string | slice (e : TypeId) | array (n : Nat) (e : TypeId) | struct (fs : List (Nat × TypeId)) | ptr (e : TypeId) | other
structure Ty where
  sz : Nat
  by8 : Nat
  zero : List T
  d : TD
  cmp : Bool
abbrev TT := TypeId → Option Ty
def TD.agg : TD → Bool
  | .array _ _ => true
  | .struct _ => true
  | _ => false
def TD.of : TypeDesc → TD
  | .bool => .bool
  | .int k => .int k
  | .string => .string
  | .slice e => .slice e
  | .array n e => .array n e
  | .struct fs => .struct (fs.toList.map fun f => (f.offset, f.type))
  | .pointer e => .ptr e
  | _ => .other
def zv : T → Value
  | .int k n => .int k n
  | .bool b => .bool b
  | .str s => .string (bs s)
  | .val v => v
  | _ => undef
def zok : T → Bool
  | .int _ _ => true
  | .bool _ => true
  | .str _ => true
  | .val v => v.oneCell'
  | _ => false
def flatF (P : Program) : List Field → Nat → List T → Prop
  | [], _, zs => zs = []
  | f :: fs, i, zs => match zs with
    | z :: zs => f.name ≠ "_" ∧ f.offset = i ∧ (match z with
      | .int k _ => P.underlying f.type = some (.int k)
      | .bool _ => P.underlying f.type = some .bool
      | .str _ => P.underlying f.type = some .string
      | _ => False) ∧ flatF P fs (i + 1) zs
    | [] => False
structure TyOk (P : Program) (t : TypeId) (y : Ty) : Prop where
  info : ∃ i z, P.info? t = some i ∧ i.size = y.sz ∧ i.bytes = y.by8 ∧ i.zero = some z ∧ z.cells.toList = y.zero.map zv
  und : ∃ d, P.underlying t = some d ∧ TD.of d = y.d
  len : y.zero.length = y.sz
  zs : y.zero.all zok = true
  cm : y.cmp = true → P.eqGuardType P.depth t = false ∧ P.stoodInHeld t = false ∧ ∃ F, P.underlying t = some (.struct F) ∧ flatF P F.toList 0 y.zero
def TtOk (P : Program) (tt : TT) : Prop := ∀ t y, tt t = some y → TyOk P t y

theorem zok_rv {ow : Own} {w : World} {x : T} (h : zok x = true) : RV ow w x (zv x) := by
  cases x <;> simp [zok] at h <;> simp [RV, zv, h]
theorem zok_rl {ow : Own} {w : World} : ∀ {xs : List T}, xs.all zok = true → RL ow w xs (xs.map zv)
  | [], _ => by simp [RL]
  | x :: xs, h => by
    simp at h
    simp only [List.map_cons, RL]
    exact ⟨_, _, rfl, zok_rv h.1, zok_rl (by simpa using h.2)⟩

/-! ### lists overwritten -/
def ovl {α : Type} (l : List α) (o : Nat) : List α → List α
  | [] => l
  | v :: vs => ovl (l.set o v) (o + 1) vs
theorem ovl_length {α : Type} : ∀ (vs l : List α) (o : Nat), (ovl l o vs).length = l.length
  | [], l, o => rfl
  | v :: vs, l, o => by rw [ovl, ovl_length vs]; simp
theorem ovl_eq {α : Type} : ∀ (vs l : List α) (o : Nat), o + vs.length ≤ l.length → ovl l o vs = l.take o ++ vs ++ l.drop (o + vs.length)
  | [], l, o, h => by simp [ovl]
  | v :: vs, l, o, h => by
    have hl : o + (vs.length + 1) ≤ l.length := by simpa using h
    have h1 : (l.set o v).take (o + 1) = l.take o ++ [v] := by
      rw [List.take_add_one, List.take_set_of_le (Nat.le_refl _), List.getElem?_set_self (by omega)]; rfl
    rw [ovl, ovl_eq vs _ _ (by simp; omega), h1, List.drop_set_of_lt (by omega), show o + 1 + vs.length = o + (vs.length + 1) by omega]
    simp
theorem RSl.ovl {X : Cx} : ∀ {xs cs : List T} {us vs : List Value} (o : Nat), RSl X cs vs → RSl X xs us → RSl X (ovl cs o xs) (ovl vs o us)
  | [], _, _, _, o, h, h2 => by cases h2; exact h
  | x :: xs, _, _, _, o, h, ⟨u, us, hv, h1, h2, h3⟩ => by subst hv; exact RSl.ovl (o + 1) (h.set o h2 h1) h3
theorem RE.ovl {ow : Own} {w : World} {k : Nat} {es : List (List T)} {i : Nat} : ∀ {xs e : List T} {us vs : List Value} (j : Nat), RE ow w k (es.set i e) vs → i < es.length → RL ow w xs us → j + xs.length ≤ k → RE ow w k (es.set i (ovl e j xs)) (Go.Proofs.Ytkdajahiaedoiaa.ovl vs (i * k + j) us)
  | [], _, _, _, j, h, hi, h2, _ => by simp only [RL] at h2; subst h2; exact h
  | x :: xs, e, _, _, j, h, hi, h2, hj => by
    simp only [RL] at h2
    obtain ⟨u, us, rfl, h1, h3⟩ := h2
    simp at hj
    have hs := RE.set i j (e := e) h (by simp [hi]) (by omega) h1
    rw [List.set_set] at hs
    have := RE.ovl (j + 1) hs hi h3 (by omega)
    simpa [Go.Proofs.Ytkdajahiaedoiaa.ovl, Nat.add_assoc] using this

/-- Some cells of a block are written. -/
theorem run_storeBlock {P : Program} (g o : Nat) (t : TypeId) (fr : Nat × Nat) : ∀ (vs : List Value) (i : Nat) (C : Array Value) (w : World), w.heap[g]? = some (.cells C t fr) → FreeR fr C.size → o + i + vs.length ≤ C.size → (∀ u ∈ vs, u.oneCell' = true) →
    (storeCells ⟨g, o, none⟩ vs i).run P w = .ok () { w with heap := w.heap.setIfInBounds g (.cells (ovl C.toList (o + i) vs).toArray t fr) }
  | [], i, C, w, hC, _, _, _ => by
    have : w.heap.setIfInBounds g (.cells (ovl C.toList (o + i) ([] : List Value)).toArray t fr) = w.heap := by
      apply Array.ext_getElem?
      intro j
      rw [Array.getElem?_setIfInBounds]
      split
      · rename_i hj; subst hj
        have := lt_of_heap hC
        simp [this, hC, ovl]
        simpa using (Array.getElem?_eq_some_iff.1 hC).2.symm
      · rfl
    rw [this]; rfl
  | v :: vs, i, C, w, hC, hf, hl, h1 => by
    simp at hl
    have hadd : (⟨g, o, none⟩ : Addr).add i = ⟨g, o + i, none⟩ := by unfold Addr.add; split <;> simp_all
    have hcell : w.cell? ⟨g, o + i, none⟩ = some C[o + i] := by simp [World.cell?, hC, show o + i < C.size by omega]
    have hfro : w.frozen? ⟨g, o + i, none⟩ = false := by
      obtain ⟨lo, hi⟩ := fr
      simp [World.frozen?, hC]
      intro hlo
      rcases hf with hf | hf <;> simp at hf <;> omega
    have hset : w.setCell ⟨g, o + i, none⟩ v = { w with heap := w.heap.setIfInBounds g (.cells (C.setIfInBounds (o + i) v) t fr) } := by
      unfold World.setCell
      congr 1
      apply Array.ext_getElem?
      intro j
      rw [Array.getElem?_modify, Array.getElem?_setIfInBounds]
      by_cases hj : g = j
      · subst hj
        have hg := (Array.getElem?_eq_some_iff.1 hC).2
        simp [lt_of_heap hC, hg]
      · simp [hj]
    have hst : (store ((⟨g, o, none⟩ : Addr).add i) v).run P w = .ok () (w.setCell ⟨g, o + i, none⟩ v) := by
      rw [hadd, run_store P w _ v _ (h1 v (by simp)), hcell]
      simp [hfro]
    have ih := run_storeBlock (P := P) g o t fr vs (i + 1) (C.setIfInBounds (o + i) v) (w.setCell ⟨g, o + i, none⟩ v) (by rw [hset]; simp [lt_of_heap hC]) (by simpa using hf) (by simp; omega) (fun u hu => h1 u (by simp [hu]))
    simp only [storeCells, Sem.run_bind, hst, Result.andThen_ok, ih]
    rw [hset]
    simp [ovl, Nat.add_assoc]
end Go.Proofs.Ytkdajahiaedoiaa
