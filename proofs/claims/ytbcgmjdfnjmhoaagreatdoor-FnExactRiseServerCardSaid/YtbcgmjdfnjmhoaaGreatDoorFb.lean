/- A walk of old, that makes memory and writes none of what was there, as a contract by content. Functions by content: numbers, strings and entries are read. Functions by content: fields of a message. Functions by content: entries are read. Functions by content: what the reference reads: numbers, strings, entries. Functions by content: what the drawing cursor gives. Functions by content: drawn names and values. -/
import Derived.Test.YtbcgmjdfnjmhoaaGreatDoorVd
import Derived.Test.YtbcgmjdfnjmhoaaGreatDoorFa
import Derived.Test.YtbcgmjdfnjmhoaaGreatDoorWa
import Derived.Test.YtbcgmjdfnjmhoaaGreatDoorPlainM
import Derived.Laws.Bits128
namespace Go.Proofs.YtbcgmjdfnjmhoaaGreatDoor
set_option maxRecDepth 100000
set_option maxHeartbeats 1000000
set_option linter.unusedVariables false
set_option linter.unusedSimpArgs false
set_option linter.unusedSectionVars false
open Go.RowKit Pl
def zbr : T → Bool
 | .int _ _ => true
 | .bool _ => true
 | .str _ => true
 | _ => false
def zdF : T → Bool
 | .agg cs => cs.all zbr
 | x => zbr x
def zv1 : T → Value
 | .agg cs => .agg (cs.map zv).toArray
 | x => zv x
theorem zbs {X : Cx} : ∀ {cs : List T} {us : List Value}, cs.all zbr = true → RSl X cs us → us = cs.map zv
 | [], us, _, h => h
 | c :: cs, us, hp, ⟨u, us', hu, _, h1, h2⟩ => by
   simp only [List.all_cons, Bool.and_eq_true] at hp
   subst hu
   rw [List.map_cons, zbs hp.2 h2]
   congr 1
   cases c <;> first | (cases hp.1; done) | (simpa only [RS0, RV, zv] using h1)
theorem z5H {X : Cx} : ∀ {ts : List T} {vs : List Value}, ts.all zdF = true → Args X ts vs → vs = ts.map zv1
 | [], vs, _, h => h
 | t :: ts, vs, hp, ⟨u, us, hu, h1, h2⟩ => by
   simp only [List.all_cons, Bool.and_eq_true] at hp
   subst hu
   rw [List.map_cons, z5H hp.2 h2]
   congr 1
   cases t
   case agg cs =>
    obtain ⟨vs, rfl, hl⟩ := h1
    have := zbs hp.1 hl
    rw [zv1, ← this]
   all_goals first | (cases hp.1; done) | (simpa only [RS, RS1, RS0, RV, zv1, zv] using h1)
theorem zcO (r : Nat) : idxE [] r = none := by simp [idxE]
theorem z3t {P : Program} {f : FuncId} {ts : List T} {v : Value} {r : T} (hfn : ∃ fn, P.funcs[f]? = some fn ∧ (fn.name == "runtime.NumGoroutine") = false ∧ fn.body.isNone = false)
 (hp : ts.all zdF = true) (hr : ∀ X, RS X r v) (h : ∀ w, Calls P f (ts.map zv1).toArray w fun e w' => e = .returned v ∧ Below w.heap.size w w') : CT P f [] ts r [] := by
 refine ⟨hfn, fun X hh hH hu vs ha => ?_⟩
 rw [z5H hp ha]
 refine (h X.w).mono ?_
 rintro e w' ⟨rfl, hb⟩
 have hgl : Gl { X with w := w' } := Gl.mono (X := X) (X' := { X with w := w' }) (fun g (hg : g < X.w.heap.size) hn => ⟨hn, hb.block g hg⟩) hh.gl
 have hno : ∀ r, X.H r = none := fun r => by rw [hH]; exact zcO r
 refine ⟨v, { X with w := w' }, rfl, rfl, hH, hu, ⟨fun g g' r hr => absurd (hno r) hr, fun g r hg => ?_, fun r e he => ?_, hh.zero, hh.pos, hgl, fun g hg => ⟨(hh.inn g hg).1, Nat.lt_of_lt_of_le (hh.inn g hg).2.1 hb.size, (hh.inn g hg).2.2⟩⟩, hr _, ?_⟩
 ·obtain ⟨a, b⟩ := hh.lt g r hg
  exact ⟨Nat.lt_of_lt_of_le a hb.size, b⟩
 ·have := hno r
  rw [show X.H r = some e from he] at this; cases this
 ·refine ⟨fun _ h => h, hb.os, hb.tape, hb.output, hb.size, fun g hg hn => ⟨hn, hb.block g hg⟩, fun r _ e' he => ?_, fun g hg hg0 => ⟨⟨hg, hg0⟩, hb.block g (hh.lt g 0 hg).1⟩, fun r _ hn => absurd (hno r) hn⟩
  have := hno r
  rw [show X.H r = some e' from he] at this; cases this
end Go.Proofs.YtbcgmjdfnjmhoaaGreatDoor
namespace Go.Proofs.YtbcgmjdfnjmhoaaGreatDoor
set_option maxRecDepth 100000
set_option maxHeartbeats 1000000
set_option linter.unusedVariables false
set_option linter.unusedSimpArgs false
set_option linter.unusedSectionVars false
open Go.RowKit Pl
attribute [local irreducible] z0F z0I z0T AnsP LeP
def rvT : Option (Nat × Nat) → T
 | none => .tup [.int .i64 0, .int .i64 0, .bool false]
 | some (n, q) => .tup [.int .i64 (n : Int), .int .i64 (q : Int), .bool true]
theorem rv_rs (o : Option (Nat × Nat)) (X : Cx) : RS X (rvT o) (zed o) := by
 cases o with
 | none => exact ⟨_, rfl, _, _, rfl, z14 X _ _, _, _, rfl, z14 X _ _, _, _, rfl, z1F X _, rfl⟩
 | some x => exact ⟨_, rfl, _, _, rfl, z14 X _ _, _, _, rfl, z14 X _ _, _, _, rfl, z1F X _, rfl⟩
theorem z78 (t : Bs) (p : Nat) (ht : (t.length : Int) ≤ 1000000000) (hp : p ≤ t.length) : CT Tryz.prog 146 [] [.str t, .int .i64 (p : Int)] (rvT (z0o t p)) [] :=
 z3t ⟨_, Tryz.func146, rfl, rfl⟩ rfl (rv_rs _) fun w => by
  have h := z3K (bs t) p w (by rw [z0E]; exact ht) (by rw [z0E]; exact hp)
  rw [z0B] at h
  refine h.mono ?_
  rintro e w1 ⟨rfl, rfl⟩
  exact ⟨rfl, Below.refl _ _⟩
end Go.Proofs.YtbcgmjdfnjmhoaaGreatDoor
namespace Go.Proofs.YtbcgmjdfnjmhoaaGreatDoor
set_option maxRecDepth 100000
set_option maxHeartbeats 1000000
set_option linter.unusedVariables false
set_option linter.unusedSimpArgs false
set_option linter.unusedSectionVars false
open Go.RowKit Pl
attribute [local irreducible] z0F z0I z0T AnsP LeP
def fldB (t : Bs) (p : Nat) (b : Bool) : Ent := .box [.str t, .int .i64 (p : Int), .bool b]
theorem zek (t : Bs) (p : Nat) (b : Bool) (ht : (t.length : Int) ≤ 1000000000) (hp : p ≤ t.length) : CT Tryz.prog 67 [fldB t p b] [.ptr 1 0 0] (.int .i64 ((z0R t p b).1 : Int)) [fldB t (z0R t p b).2.1 (z0R t p b).2.2] := by
 have c := z78 t p ht hp
 refine z01 z1e 2 rfl Tryz.func67 rfl rfl rfl ?_
 unfold z0R
 rcases hv : z0o t p with _ | ⟨n, q⟩
 all_goals
  rw [hv] at c
  repeat ((try conv => whnf); first | (refine ccA ([]) (c) ?_) | (refine stpQ ?_))
  (refine z00 (by rfl) ?_ ?_ (by rfl)) <;> (repeat' (first | (exact eqA) | (refine shE ?_) | (refine And.intro ?_ ?_))) <;> rfl
theorem zbt (t : Bs) (p : Nat) (b : Bool) : CT Tryz.prog 72 [fldB t p b] [.ptr 1 0 0] (.bool (z1d b p t.length)) [fldB t p b] := by
 refine z01 z1e 2 rfl Tryz.func72 rfl rfl rfl ?_
 cases b
 ·repeat ((try conv => whnf); first | (refine stpQ ?_))
  (refine z00 (by rfl) ?_ ?_ (by rfl)) <;> (repeat' (first | (exact eqA) | (refine shE ?_) | (refine And.intro ?_ ?_)))
  show decide ((p : Int) = (t.length : Int)) = (p == t.length)
  by_cases hd : p = t.length
  ·rw [hd]; simp
  ·have h2 : ¬ ((p : Int) = (t.length : Int)) := by omega
   rw [decide_eq_false h2]; exact (beq_false_of_ne hd).symm
 ·repeat ((try conv => whnf); first | (refine stpQ ?_))
  (refine z00 (by rfl) ?_ ?_ (by rfl)) <;> (repeat' (first | (exact eqA) | (refine shE ?_) | (refine And.intro ?_ ?_)))
  rfl
end Go.Proofs.YtbcgmjdfnjmhoaaGreatDoor
namespace Go.Proofs.YtbcgmjdfnjmhoaaGreatDoor
set_option maxRecDepth 100000
set_option maxHeartbeats 1000000
set_option linter.unusedVariables false
set_option linter.unusedSimpArgs false
set_option linter.unusedSectionVars false
open Go.RowKit Pl
attribute [local irreducible] z0F z0I z0T AnsP LeP
end Go.Proofs.YtbcgmjdfnjmhoaaGreatDoor
namespace Go.Proofs.YtbcgmjdfnjmhoaaGreatDoor
set_option linter.unusedVariables false
set_option linter.unusedSimpArgs false
set_option linter.unusedSectionVars false
open Go.RowKit Pl
attribute [local irreducible] z0F z0I z0T AnsP LeP
theorem c_sVar (n : Nat) (hn : (n : Int) ≤ 2000000000) : CT Tryz.prog 144 [] [.int .i64 (n : Int)] (.str (z0h n)) [] :=
 z3t ⟨_, Tryz.func144, rfl, rfl⟩ rfl (fun X => z2i X _) fun w => z4g n w hn
theorem z5K (t : Bs) (p : Nat) (ht : (t.length : Int) ≤ 1000000000) (hp : p ≤ t.length) : CT Tryz.prog 139 [] [.str t, .int .i64 (p : Int)] (rvT (z0o t p)) [] :=
 z3t ⟨_, Tryz.func139, rfl, rfl⟩ rfl (rv_rs _) fun w => by
  have h := z30 (bs t) p w (by rw [z0E]; exact ht) (by rw [z0E]; exact hp)
  rwa [z0B] at h
set_option maxRecDepth 100000 in
set_option maxHeartbeats 1000000 in
theorem zbL (t : Bs) (p : Nat) (b : Bool) (ht : (t.length : Int) ≤ 1000000000) (hp : p ≤ t.length) : CT Tryz.prog 61 [fldB t p b] [.ptr 1 0 0] (.int .i64 ((numS t p b).1 : Int)) [fldB t (numS t p b).2.1 (numS t p b).2.2] := by
 have c := z5K t p ht hp
 refine z01 z1e 2 rfl Tryz.func61 rfl rfl rfl ?_
 unfold numS z0R
 cases b <;> rcases hv : z0o t p with _ | ⟨n, q⟩
 all_goals
  rw [hv] at c
  repeat ((try conv => whnf); first | (refine ccA ([]) (c) ?_) | (refine stpQ ?_))
  (refine z00 (by rfl) ?_ ?_ (by rfl)) <;> (repeat' (first | (exact eqA) | (refine shE ?_) | (refine And.intro ?_ ?_))) <;> rfl
end Go.Proofs.YtbcgmjdfnjmhoaaGreatDoor
namespace Go.Proofs.YtbcgmjdfnjmhoaaGreatDoor
set_option linter.unusedVariables false
set_option linter.unusedSimpArgs false
set_option linter.unusedSectionVars false
open Go.RowKit Pl
attribute [local irreducible] z0F z0I z0T AnsP LeP
end Go.Proofs.YtbcgmjdfnjmhoaaGreatDoor
namespace Go.Proofs.YtbcgmjdfnjmhoaaGreatDoor
set_option linter.unusedVariables false
set_option linter.unusedSimpArgs false
set_option linter.unusedSectionVars false
open Go.RowKit Pl
attribute [local irreducible] z0F z0I z0T AnsP LeP
def strE (l : List Bs) : List (List T) := l.map fun s => [.str s]
theorem z2G (l : List Bs) : (strE l).length = l.length := by simp [strE]
end Go.Proofs.YtbcgmjdfnjmhoaaGreatDoor
