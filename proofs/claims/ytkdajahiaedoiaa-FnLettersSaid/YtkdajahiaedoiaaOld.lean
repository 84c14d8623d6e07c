/- A walk of old, that makes memory and writes none of what was there, as a contract by content. -/
import Derived.Test.YtkdajahiaedoiaaV21
namespace Go.Proofs.Ytkdajahiaedoiaa
open Go.RowKit Pl
set_option linter.unusedVariables false

def plain0 : T → Bool
  | .int _ _ => true
  | .bool _ => true
  | .str _ => true
  | _ => false
def plain1 : T → Bool
  | .agg cs => cs.all plain0
  | x => plain0 x
def zv1 : T → Value
  | .agg cs => .agg (cs.map zv).toArray
  | x => zv x
theorem plain_l {X : Cx} : ∀ {cs : List T} {us : List Value}, cs.all plain0 = true → RSl X cs us → us = cs.map zv
  | [], us, _, h => h
  | c :: cs, us, hp, ⟨u, us', hu, _, h1, h2⟩ => by
    simp only [List.all_cons, Bool.and_eq_true] at hp
    subst hu
    rw [List.map_cons, plain_l hp.2 h2]
    congr 1
    cases c <;> first | (cases hp.1; done) | (simpa only [RS0, RV, zv] using h1)
theorem plain_args {X : Cx} : ∀ {ts : List T} {vs : List Value}, ts.all plain1 = true → Args X ts vs → vs = ts.map zv1
  | [], vs, _, h => h
  | t :: ts, vs, hp, ⟨u, us, hu, h1, h2⟩ => by
    simp only [List.all_cons, Bool.and_eq_true] at hp
    subst hu
    rw [List.map_cons, plain_args hp.2 h2]
    congr 1
    cases t
    case agg cs =>
      obtain ⟨vs, rfl, hl⟩ := h1
      have := plain_l hp.1 hl
      rw [zv1, ← this]
    all_goals first | (cases hp.1; done) | (simpa only [RS, RS1, RS0, RV, zv1, zv] using h1)
theorem idxE_nil (r : Nat) : idxE [] r = none := by simp [idxE]
theorem old_ct {P : Program} {f : FuncId} {ts : List T} {v : Value} {r : T} (hfn : ∃ fn, P.funcs[f]? = some fn ∧ (fn.name == "runtime.NumGoroutine") = false ∧ fn.body.isNone = false)
    (hp : ts.all plain1 = true) (hr : ∀ X, RS X r v) (h : ∀ w, Calls P f (ts.map zv1).toArray w fun e w' => e = .returned v ∧ Below w.heap.size w w') : CT P f [] ts r [] := by
  refine ⟨hfn, fun X hh hH hu vs ha => ?_⟩
  rw [plain_args hp ha]
  refine (h X.w).mono ?_
  rintro e w' ⟨rfl, hb⟩
  have hno : ∀ r, X.H r = none := fun r => by rw [hH]; exact idxE_nil r
  refine ⟨v, { X with w := w' }, rfl, rfl, hH, hu, ⟨fun g g' r hr => absurd (hno r) hr, fun g r hg => ?_, fun r e he => ?_, hh.zero, hh.pos⟩, hr _, ?_⟩
  · obtain ⟨a, b⟩ := hh.lt g r hg
    exact ⟨Nat.lt_of_lt_of_le a hb.size, b⟩
  · have := hno r
    rw [show X.H r = some e from he] at this; cases this
  · refine ⟨fun _ h => h, hb.os, hb.tape, hb.output, hb.size, fun g hg hn => ⟨hn, hb.block g hg⟩, fun r _ e' he => ?_, fun g hg => ⟨hg, hb.block g (hh.lt g 0 hg).1⟩, fun r _ hn => absurd (hno r) hn⟩
    have := hno r
    rw [show X.H r = some e' from he] at this; cases this
end Go.Proofs.Ytkdajahiaedoiaa
