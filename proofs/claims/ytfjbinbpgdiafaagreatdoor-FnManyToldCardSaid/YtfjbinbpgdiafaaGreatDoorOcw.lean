/- Functions by content: what an old walk says of a fresh row. -/
import Derived.Test.YtfjbinbpgdiafaaGreatDoorXt
namespace Go.Proofs.YtfjbinbpgdiafaaGreatDoor
set_option linter.unusedVariables false
set_option linter.unusedSimpArgs false
set_option linter.unusedSectionVars false
open Go.RowKit Pl
theorem zcA (r : Nat) : idxE [] r = none := by simp [idxE]
def inE (l : List Int) : List (List T) := l.map fun n => [T.int .i64 n]
theorem zfm {P : Program} {f : FuncId} {ts : List T} {r : T} (hfn : ∃ fn, P.funcs[f]? = some fn ∧ (fn.name == "runtime.NumGoroutine") = false ∧ fn.body.isNone = false)
 (h : ∀ X : Cx, HR X → ∀ vs, Args X ts vs → Calls P f vs.toArray X.w fun e w' => ∃ v, e = .returned v ∧ Below X.w.heap.size X.w w' ∧ RS { X with w := w' } r v) : CT P f [] ts r [] := by
 refine ⟨hfn, fun X hh hH hu vs ha => ?_⟩
 refine (h X hh vs ha).mono ?_
 rintro e w' ⟨v, rfl, hb, hr⟩
 have hgl : Gl { X with w := w' } := Gl.mono (X := X) (X' := { X with w := w' }) (fun g (hg : g < X.w.heap.size) hn => ⟨hn, hb.block g hg⟩) hh.gl
 have hno : ∀ r, X.H r = none := fun r => by rw [hH]; exact zcA r
 refine ⟨v, { X with w := w' }, rfl, rfl, hH, hu, ⟨fun g g' r hr => absurd (hno r) hr, fun g r hg => ?_, fun r e he => ?_, hh.zero, hh.pos, hgl, fun g hg => ⟨(hh.inn g hg).1, Nat.lt_of_lt_of_le (hh.inn g hg).2.1 hb.size, (hh.inn g hg).2.2⟩⟩, hr, ?_⟩
 ·obtain ⟨a, b⟩ := hh.lt g r hg
  exact ⟨Nat.lt_of_lt_of_le a hb.size, b⟩
 ·have := hno r
  rw [show X.H r = some e from he] at this; cases this
 ·refine ⟨fun _ h => h, hb.os, hb.tape, hb.output, hb.size, fun g hg hn => ⟨hn, hb.block g hg⟩, fun r _ e' he => ?_, fun g hg hg0 => ⟨⟨hg, hg0⟩, hb.block g (hh.lt g 0 hg).1⟩, fun r _ hn => absurd (hno r) hn⟩
  have := hno r
  rw [show X.H r = some e' from he] at this; cases this
theorem z8l {ow : Own} {w : World} {K : Nat} : ∀ (z : List (List T)) (vs : List Value) (k : Nat) (e : List T), RE ow w K z vs → z[k]? = some e → ∃ us, us.length = K ∧ RL ow w e us ∧ ∀ j, j < K → vs[k * K + j]? = us[j]?
 | [], _, k, e, _, hk => by simp at hk
 | e0 :: z, vs, 0, e, h, hk => by
   simp only [RE] at h
   obtain ⟨us, rest, rfl, hl, hr, -⟩ := h
   obtain rfl : e0 = e := by simpa using hk
   exact ⟨us, hl, hr, fun j hj => by rw [Nat.zero_mul, Nat.zero_add, List.getElem?_append_left (by omega)]⟩
 | e0 :: z, vs, k + 1, e, h, hk => by
   simp only [RE] at h
   obtain ⟨us, rest, rfl, hl, -, hE⟩ := h
   obtain ⟨us', h1, h2, h3⟩ := z8l z rest k e hE (by simpa using hk)
   refine ⟨us', h1, h2, fun j hj => ?_⟩
   have e1 : (k + 1) * K + j = us.length + (k * K + j) := by rw [Nat.succ_mul, hl]; omega
   rw [e1, List.getElem?_append_right (by omega), Nat.add_sub_cancel_left]
   exact h3 j hj
theorem zak {ow : Own} {w : World} : ∀ (L : List Int) (vs : List Value), vs.take L.length = L.map (Value.int .i64) → RE ow w 1 (inE L) vs
 | [], vs, _ => by simp [inE, RE]
 | x :: L, vs, h => by
   cases vs with
   | nil => simp at h
   | cons v vs =>
     simp only [List.length_cons, List.take_succ_cons, List.map_cons, List.cons.injEq] at h
     have ih := zak (ow := ow) (w := w) L vs h.2
     simp only [inE, List.map_cons, RE] at ih ⊢
     exact ⟨[v], vs, rfl, rfl, by simp [RL, RV, h.1], ih⟩
end Go.Proofs.YtfjbinbpgdiafaaGreatDoor
