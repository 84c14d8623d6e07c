/- A walk of old, that makes memory and writes none of what was there, as a contract by content. Functions by content: numbers, strings and entries are read. Functions by content: fields of a message. Functions by content: entries are read. -/
import Derived.Test.YtkgfidphcpklhaaDoorV21
import Derived.Test.YtkgfidphcpklhaaDoorFBE
import Derived.Test.YtkgfidphcpklhaaDoorWa
namespace Go.Proofs.YtkgfidphcpklhaaDoor
open Go.RowKit Pl
set_option linter.unusedVariables false

def plain0 : T → Bool
  | .int _ _ => true
  | .bool _ => true
  | .str _ => true
  | _ => false
def plain1 : T → Bool
  | .agg cs => cs.all plain0
  | x => plain0 x
def zv1 : T → Value
  | .agg cs => .agg (cs.map zv).toArray
  | x => zv x
theorem plain_l {X : Cx} : ∀ {cs : List T} {us : List Value}, cs.all plain0 = true → RSl X cs us → us = cs.map zv
  | [], us, _, h => h
  | c :: cs, us, hp, ⟨u, us', hu, _, h1, h2⟩ => by
    simp only [List.all_cons, Bool.and_eq_true] at hp
    subst hu
    rw [List.map_cons, plain_l hp.2 h2]
    congr 1
    cases c <;> first | (cases hp.1; done) | (simpa only [RS0, RV, zv] using h1)
theorem plain_args {X : Cx} : ∀ {ts : List T} {vs : List Value}, ts.all plain1 = true → Args X ts vs → vs = ts.map zv1
  | [], vs, _, h => h
  | t :: ts, vs, hp, ⟨u, us, hu, h1, h2⟩ => by
    simp only [List.all_cons, Bool.and_eq_true] at hp
    subst hu
    rw [List.map_cons, plain_args hp.2 h2]
    congr 1
    cases t
    case agg cs =>
      obtain ⟨vs, rfl, hl⟩ := h1
      have := plain_l hp.1 hl
      rw [zv1, ← this]
    all_goals first | (cases hp.1; done) | (simpa only [RS, RS1, RS0, RV, zv1, zv] using h1)
theorem idxE_nil (r : Nat) : idxE [] r = none := by simp [idxE]
theorem old_ct {P : Program} {f : FuncId} {ts : List T} {v : Value} {r : T} (hfn : ∃ fn, P.funcs[f]? = some fn ∧ (fn.name == "runtime.NumGoroutine") = false ∧ fn.body.isNone = false)
    (hp : ts.all plain1 = true) (hr : ∀ X, RS X r v) (h : ∀ w, Calls P f (ts.map zv1).toArray w fun e w' => e = .returned v ∧ Below w.heap.size w w') : CT P f [] ts r [] := by
  refine ⟨hfn, fun X hh hH hu vs ha => ?_⟩
  rw [plain_args hp ha]
  refine (h X.w).mono ?_
  rintro e w' ⟨rfl, hb⟩
  have hgl : Gl { X with w := w' } := Gl.mono (X := X) (X' := { X with w := w' }) (fun g (hg : g < X.w.heap.size) hn => ⟨hn, hb.block g hg⟩) hh.gl
  have hno : ∀ r, X.H r = none := fun r => by rw [hH]; exact idxE_nil r
  refine ⟨v, { X with w := w' }, rfl, rfl, hH, hu, ⟨fun g g' r hr => absurd (hno r) hr, fun g r hg => ?_, fun r e he => ?_, hh.zero, hh.pos, hgl⟩, hr _, ?_⟩
  · obtain ⟨a, b⟩ := hh.lt g r hg
    exact ⟨Nat.lt_of_lt_of_le a hb.size, b⟩
  · have := hno r
    rw [show X.H r = some e from he] at this; cases this
  · refine ⟨fun _ h => h, hb.os, hb.tape, hb.output, hb.size, fun g hg hn => ⟨hn, hb.block g hg⟩, fun r _ e' he => ?_, fun g hg => ⟨hg, hb.block g (hh.lt g 0 hg).1⟩, fun r _ hn => absurd (hno r) hn⟩
    have := hno r
    rw [show X.H r = some e' from he] at this; cases this
end Go.Proofs.YtkgfidphcpklhaaDoor
namespace Go.Proofs.YtkgfidphcpklhaaDoor
open Go.RowKit Pl
set_option linter.unusedVariables false
set_option linter.unusedSimpArgs false
attribute [local irreducible] CondB CallP LoopW AnsP LeP

def rvT : Option (Nat × Nat) → T
  | none => .tup [.int .i64 0, .int .i64 0, .bool false]
  | some (n, q) => .tup [.int .i64 (n : Int), .int .i64 (q : Int), .bool true]
def rsT : Option (Bs × Nat) → T
  | none => .tup [.str [], .int .i64 0, .bool false]
  | some (l, q) => .tup [.str l, .int .i64 (q : Int), .bool true]
theorem w_shl {a j sh : Nat} {e : Int} {K : Int → Prop} (he : e = (j : Int)) (hs : sh = a * 2 ^ j) (h : sh ≤ 9223372036854775807) (hk : K ((sh : Nat) : Int)) : ∃ r, r = IntKind.i64.wrap ((a : Int) * 2 ^ e.toNat) ∧ K r := by
  subst he
  have e2 : (a : Int) * 2 ^ (j : Int).toNat = ((sh : Nat) : Int) := by subst hs; simp
  exact ⟨_, by rw [e2, wrap_i64 (by omega) (by omega)], hk⟩
theorem le64 {b : Int} (h : b ≤ 64) : b ≤ ((IntKind.i64.bits : Nat) : Int) := h
theorem drop_cons {t : Bs} {p : Nat} (h : p < t.length) : t.drop p = t.getD p 0 :: t.drop (p + 1) := by
  rw [List.drop_eq_getElem_cons h]; simp [List.getD, List.getElem?_eq_getElem h]
theorem pow128 {k : Nat} (h : k ≤ 5) : 128 ^ k ≤ 34359738368 := by
  rcases (show k = 0 ∨ k = 1 ∨ k = 2 ∨ k = 3 ∨ k = 4 ∨ k = 5 by omega) with rfl | rfl | rfl | rfl | rfl | rfl <;> decide
theorem rv_rs (o : Option (Nat × Nat)) (X : Cx) : RS X (rvT o) (rvVal o) := by
  cases o with
  | none => exact ⟨_, rfl, _, _, rfl, mk_int X _ _, _, _, rfl, mk_int X _ _, _, _, rfl, mk_bool X _, rfl⟩
  | some x => exact ⟨_, rfl, _, _, rfl, mk_int X _ _, _, _, rfl, mk_int X _ _, _, _, rfl, mk_bool X _, rfl⟩
theorem rs_rs (o : Option (Bs × Nat)) (X : Cx) : RS X (rsT o) (rsVal o) := by
  cases o with
  | none => exact ⟨_, rfl, _, _, rfl, mk_str X _, _, _, rfl, mk_int X _ _, _, _, rfl, mk_bool X _, rfl⟩
  | some x => exact ⟨_, rfl, _, _, rfl, mk_str X _, _, _, rfl, mk_int X _ _, _, _, rfl, mk_bool X _, rfl⟩
end Go.Proofs.YtkgfidphcpklhaaDoor
namespace Go.Proofs.YtkgfidphcpklhaaDoor
open Go.RowKit Pl
set_option linter.unusedVariables false
set_option linter.unusedSimpArgs false
attribute [local irreducible] CondB CallP LoopW AnsP LeP

def fldB (t : Bs) (p : Nat) (b : Bool) : Ent := .box [.str t, .int .i64 (p : Int), .bool b]
end Go.Proofs.YtkgfidphcpklhaaDoor
namespace Go.Proofs.YtkgfidphcpklhaaDoor
open Go.RowKit Pl
set_option linter.unusedVariables false
set_option linter.unusedSimpArgs false
attribute [local irreducible] CondB CallP LoopW AnsP LeP

theorem lfAt_app {l : List Lf} {x : Lf} {i : Nat} : lfAt (l ++ [x]) i = if i = l.length then x else lfAt l i := by
  unfold lfAt
  by_cases h : i = l.length
  · subst h; simp
  · rw [if_neg h]
    rcases Nat.lt_or_ge i l.length with hl | hl
    · simp [List.getD, List.getElem?_append_left hl]
    · simp [List.getD, List.getElem?_eq_none (show l.length ≤ i from hl), List.getElem?_eq_none (show (l ++ [x]).length ≤ i by simp; omega)]
theorem sml_nil : Sml [] := ⟨by simp, fun i => by simp [lfAt]⟩
theorem sml_snoc {l : List Lf} {x : Lf} (h : Sml l) (hl : (l.length : Int) ≤ 999) (h1 : (x.1.length : Int) ≤ 1000000) (h2 : (x.2.length : Int) ≤ 1000000) : Sml (l ++ [x]) := by
  refine ⟨by simp; omega, fun i => ?_⟩
  rw [lfAt_app]
  split
  · exact ⟨h1, h2⟩
  · exact h.2 i
theorem Sml.fit {l : List Lf} (h : Sml l) : Fit l := fun i => by have := h.2 i; omega
end Go.Proofs.YtkgfidphcpklhaaDoor
