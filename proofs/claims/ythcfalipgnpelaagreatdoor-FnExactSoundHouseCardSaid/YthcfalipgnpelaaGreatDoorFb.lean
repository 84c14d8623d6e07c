/- A walk of old, that makes memory and writes none of what was there, as a contract by content. Functions by content: numbers, strings and entries are read. Functions by content: fields of a message. Functions by content: entries are read. Functions by content: what the reference reads: numbers, strings, entries. Functions by content: what the drawing cursor gives. Functions by content: drawn names and values. -/
import Derived.Test.YthcfalipgnpelaaGreatDoorVd
import Derived.Test.YthcfalipgnpelaaGreatDoorFa
import Derived.Test.YthcfalipgnpelaaGreatDoorWa
import Derived.Test.YthcfalipgnpelaaGreatDoorPlainM
import Derived.Laws.Bits128
namespace Go.Proofs.YthcfalipgnpelaaGreatDoor
set_option maxRecDepth 100000
set_option maxHeartbeats 1000000
set_option linter.unusedVariables false
set_option linter.unusedSimpArgs false
set_option linter.unusedSectionVars false
open Go.RowKit Pl
def zh7 : T → Bool
 | .int _ _ => true
 | .bool _ => true
 | .str _ => true
 | _ => false
def zkW : T → Bool
 | .agg cs => cs.all zh7
 | x => zh7 x
def zv1 : T → Value
 | .agg cs => .agg (cs.map zv).toArray
 | x => zv x
theorem zh8 {X : Cx} : ∀ {cs : List T} {us : List Value}, cs.all zh7 = true → RSl X cs us → us = cs.map zv
 | [], us, _, h => h
 | c :: cs, us, hp, ⟨u, us', hu, _, h1, h2⟩ => by
   simp only [List.all_cons, Bool.and_eq_true] at hp
   subst hu
   rw [List.map_cons, zh8 hp.2 h2]
   congr 1
   cases c <;> first | (cases hp.1; done) | (simpa only [RS0, RV, zv] using h1)
theorem z8W {X : Cx} : ∀ {ts : List T} {vs : List Value}, ts.all zkW = true → Args X ts vs → vs = ts.map zv1
 | [], vs, _, h => h
 | t :: ts, vs, hp, ⟨u, us, hu, h1, h2⟩ => by
   simp only [List.all_cons, Bool.and_eq_true] at hp
   subst hu
   rw [List.map_cons, z8W hp.2 h2]
   congr 1
   cases t
   case agg cs =>
    obtain ⟨vs, rfl, hl⟩ := h1
    have := zh8 hp.1 hl
    rw [zv1, ← this]
   all_goals first | (cases hp.1; done) | (simpa only [RS, RS1, RS0, RV, zv1, zv] using h1)
theorem zjy (r : Nat) : idxE [] r = none := by simp [idxE]
theorem z4g {P : Program} {f : FuncId} {ts : List T} {v : Value} {r : T} (hfn : ∃ fn, P.funcs[f]? = some fn ∧ (fn.name == "runtime.NumGoroutine") = false ∧ fn.body.isNone = false)
 (hp : ts.all zkW = true) (hr : ∀ X, RS X r v) (h : ∀ w, Calls P f (ts.map zv1).toArray w fun e w' => e = .returned v ∧ Below w.heap.size w w') : CT P f [] ts r [] := by
 refine ⟨hfn, fun X hh hH hu vs ha => ?_⟩
 rw [z8W hp ha]
 refine (h X.w).mono ?_
 rintro e w' ⟨rfl, hb⟩
 have hgl : Gl { X with w := w' } := Gl.mono (X := X) (X' := { X with w := w' }) (fun g (hg : g < X.w.heap.size) hn => ⟨hn, hb.block g hg⟩) hh.gl
 have hno : ∀ r, X.H r = none := fun r => by rw [hH]; exact zjy r
 refine ⟨v, { X with w := w' }, rfl, rfl, hH, hu, ⟨fun g g' r hr => absurd (hno r) hr, fun g r hg => ?_, fun r e he => ?_, hh.zero, hh.pos, hgl⟩, hr _, ?_⟩
 ·obtain ⟨a, b⟩ := hh.lt g r hg
  exact ⟨Nat.lt_of_lt_of_le a hb.size, b⟩
 ·have := hno r
  rw [show X.H r = some e from he] at this; cases this
 ·refine ⟨fun _ h => h, hb.os, hb.tape, hb.output, hb.size, fun g hg hn => ⟨hn, hb.block g hg⟩, fun r _ e' he => ?_, fun g hg => ⟨hg, hb.block g (hh.lt g 0 hg).1⟩, fun r _ hn => absurd (hno r) hn⟩
  have := hno r
  rw [show X.H r = some e' from he] at this; cases this
end Go.Proofs.YthcfalipgnpelaaGreatDoor
namespace Go.Proofs.YthcfalipgnpelaaGreatDoor
set_option maxRecDepth 100000
set_option maxHeartbeats 1000000
set_option linter.unusedVariables false
set_option linter.unusedSimpArgs false
set_option linter.unusedSectionVars false
open Go.RowKit Pl
attribute [local irreducible] z0o z0p z0z AnsP LeP
def rvT : Option (Nat × Nat) → T
 | none => .tup [.int .i64 0, .int .i64 0, .bool false]
 | some (n, q) => .tup [.int .i64 (n : Int), .int .i64 (q : Int), .bool true]
def rsT : Option (Bs × Nat) → T
 | none => .tup [.str [], .int .i64 0, .bool false]
 | some (l, q) => .tup [.str l, .int .i64 (q : Int), .bool true]
theorem rv_rs (o : Option (Nat × Nat)) (X : Cx) : RS X (rvT o) (zlB o) := by
 cases o with
 | none => exact ⟨_, rfl, _, _, rfl, z1R X _ _, _, _, rfl, z1R X _ _, _, _, rfl, z2c X _, rfl⟩
 | some x => exact ⟨_, rfl, _, _, rfl, z1R X _ _, _, _, rfl, z1R X _ _, _, _, rfl, z2c X _, rfl⟩
theorem rs_rs (o : Option (Bs × Nat)) (X : Cx) : RS X (rsT o) (zlC o) := by
 cases o with
 | none => exact ⟨_, rfl, _, _, rfl, z3d X _, _, _, rfl, z1R X _ _, _, _, rfl, z2c X _, rfl⟩
 | some x => exact ⟨_, rfl, _, _, rfl, z3d X _, _, _, rfl, z1R X _ _, _, _, rfl, z2c X _, rfl⟩
theorem zaY (t : Bs) (p : Nat) (ht : (t.length : Int) ≤ 1000000000) (hp : p ≤ t.length) : CT Tryz.prog 279 [] [.str t, .int .i64 (p : Int)] (rvT (z0w t p)) [] :=
 z4g ⟨_, Tryz.func279, rfl, rfl⟩ rfl (rv_rs _) fun w => by
  have h := z62 (bs t) p w (by rw [z0O]; exact ht) (by rw [z0O]; exact hp)
  rw [z0Q] at h
  refine h.mono ?_
  rintro e w1 ⟨rfl, rfl⟩
  exact ⟨rfl, Below.refl _ _⟩
theorem zcC (t : Bs) (p : Nat) (ht : (t.length : Int) ≤ 1000000000) (hp : p ≤ t.length) : CT Tryz.prog 326 [] [.str t, .int .i64 (p : Int)] (rsT (z0g t p)) [] :=
 z4g ⟨_, Tryz.func326, rfl, rfl⟩ rfl (rs_rs _) fun w => by
  have h := z4b (bs t) p w (by rw [z0O]; exact ht) (by rw [z0O]; exact hp)
  rw [z0Q] at h
  refine h.mono ?_
  rintro e w1 ⟨rfl, rfl⟩
  exact ⟨rfl, Below.refl _ _⟩
end Go.Proofs.YthcfalipgnpelaaGreatDoor
namespace Go.Proofs.YthcfalipgnpelaaGreatDoor
set_option maxRecDepth 100000
set_option maxHeartbeats 1000000
set_option linter.unusedVariables false
set_option linter.unusedSimpArgs false
set_option linter.unusedSectionVars false
open Go.RowKit Pl
attribute [local irreducible] z0o z0p z0z AnsP LeP
def fldB (t : Bs) (p : Nat) (b : Bool) : Ent := .box [.str t, .int .i64 (p : Int), .bool b]
theorem zjz (t : Bs) (p : Nat) (b : Bool) (ht : (t.length : Int) ≤ 1000000000) (hp : p ≤ t.length) : CT Tryz.prog 230 [fldB t p b] [.ptr 1 0 0] (.int .i64 ((z18 t p b).1 : Int)) [fldB t (z18 t p b).2.1 (z18 t p b).2.2] := by
 have c := zaY t p ht hp
 refine z01 z0q 2 rfl Tryz.func230 rfl rfl rfl ?_
 unfold z18
 rcases hv : z0w t p with _ | ⟨n, q⟩
 all_goals
  rw [hv] at c
  repeat ((try conv => whnf); first | (refine ccA ([]) (c) ?_) | (refine stpQ ?_))
  (refine z00 (by rfl) ?_ ?_ (by rfl)) <;> (repeat' (first | (exact eqA) | (refine shE ?_) | (refine And.intro ?_ ?_))) <;> rfl
theorem zh9 (t : Bs) (p : Nat) (b : Bool) (ht : (t.length : Int) ≤ 1000000000) (hp : p ≤ t.length) : CT Tryz.prog 283 [fldB t p b] [.ptr 1 0 0] (.str (z0G t p b).1) [fldB t (z0G t p b).2.1 (z0G t p b).2.2] := by
 have c := zcC t p ht hp
 refine z01 z0q 2 rfl Tryz.func283 rfl rfl rfl ?_
 unfold z0G
 rcases hv : z0g t p with _ | ⟨n, q⟩
 all_goals
  rw [hv] at c
  repeat ((try conv => whnf); first | (refine ccA ([]) (c) ?_) | (refine stpQ ?_))
  (refine z00 (by rfl) ?_ ?_ (by rfl)) <;> (repeat' (first | (exact eqA) | (refine shE ?_) | (refine And.intro ?_ ?_))) <;> rfl
theorem z8X (t : Bs) (p : Nat) (b : Bool) : CT Tryz.prog 231 [fldB t p b] [.ptr 1 0 0] (.bool (z1n b p t.length)) [fldB t p b] := by
 refine z01 z0q 2 rfl Tryz.func231 rfl rfl rfl ?_
 cases b
 ·repeat ((try conv => whnf); first | (refine stpQ ?_))
  (refine z00 (by rfl) ?_ ?_ (by rfl)) <;> (repeat' (first | (exact eqA) | (refine shE ?_) | (refine And.intro ?_ ?_)))
  show decide ((p : Int) = (t.length : Int)) = (p == t.length)
  by_cases hd : p = t.length
  ·rw [hd]; simp
  ·have h2 : ¬ ((p : Int) = (t.length : Int)) := by omega
   rw [decide_eq_false h2]; exact (beq_false_of_ne hd).symm
 ·repeat ((try conv => whnf); first | (refine stpQ ?_))
  (refine z00 (by rfl) ?_ ?_ (by rfl)) <;> (repeat' (first | (exact eqA) | (refine shE ?_) | (refine And.intro ?_ ?_)))
  rfl
end Go.Proofs.YthcfalipgnpelaaGreatDoor
namespace Go.Proofs.YthcfalipgnpelaaGreatDoor
set_option maxRecDepth 100000
set_option maxHeartbeats 1000000
set_option linter.unusedVariables false
set_option linter.unusedSimpArgs false
set_option linter.unusedSectionVars false
open Go.RowKit Pl
attribute [local irreducible] z0o z0p z0z AnsP LeP
theorem Sml.fit {l : List Lf} (h : Sml l) : Fit l := fun i => by have := h.2 i; omega
end Go.Proofs.YthcfalipgnpelaaGreatDoor
namespace Go.Proofs.YthcfalipgnpelaaGreatDoor
set_option maxRecDepth 100000
set_option maxHeartbeats 1000000
set_option linter.unusedVariables false
set_option linter.unusedSimpArgs false
set_option linter.unusedSectionVars false
open Go.RowKit Pl
attribute [local irreducible] z0o z0p z0z AnsP LeP
theorem zef (n : Nat) (hn : (n : Int) ≤ 2000000000) : CT Tryz.prog 166 [] [.int .i64 (n : Int)] (.str (z0d n)) [] :=
 z4g ⟨_, Tryz.func166, rfl, rfl⟩ rfl (fun X => z3d X _) fun w => z6M n w hn
theorem z90 (t : Bs) (p : Nat) (ht : (t.length : Int) ≤ 1000000000) (hp : p ≤ t.length) : CT Tryz.prog 272 [] [.str t, .int .i64 (p : Int)] (rvT (z0w t p)) [] :=
 z4g ⟨_, Tryz.func272, rfl, rfl⟩ rfl (rv_rs _) fun w => by
  have h := z4S (bs t) p w (by rw [z0O]; exact ht) (by rw [z0O]; exact hp)
  rwa [z0Q] at h
theorem zbc (t : Bs) (p : Nat) (ht : (t.length : Int) ≤ 1000000000) (hp : p ≤ t.length) : CT Tryz.prog 286 [] [.str t, .int .i64 (p : Int)] (rsT (z0g t p)) [] :=
 z4g ⟨_, Tryz.func286, rfl, rfl⟩ rfl (rs_rs _) fun w => by
  have h := z3N (bs t) p w (by rw [z0O]; exact ht) (by rw [z0O]; exact hp)
  rwa [z0Q] at h
theorem zeg (t : Bs) (p : Nat) (b : Bool) (ht : (t.length : Int) ≤ 1000000000) (hp : p ≤ t.length) : CT Tryz.prog 222 [fldB t p b] [.ptr 1 0 0] (.int .i64 ((numS t p b).1 : Int)) [fldB t (numS t p b).2.1 (numS t p b).2.2] := by
 have c := z90 t p ht hp
 refine z01 z0q 2 rfl Tryz.func222 rfl rfl rfl ?_
 unfold numS z18
 cases b <;> rcases hv : z0w t p with _ | ⟨n, q⟩
 all_goals
  rw [hv] at c
  repeat ((try conv => whnf); first | (refine ccA ([]) (c) ?_) | (refine stpQ ?_))
  (refine z00 (by rfl) ?_ ?_ (by rfl)) <;> (repeat' (first | (exact eqA) | (refine shE ?_) | (refine And.intro ?_ ?_))) <;> rfl
theorem zjH (t : Bs) (p : Nat) (b : Bool) (ht : (t.length : Int) ≤ 1000000000) (hp : p ≤ t.length) : CT Tryz.prog 275 [fldB t p b] [.ptr 1 0 0] (.str (z1q t p b).1) [fldB t (z1q t p b).2.1 (z1q t p b).2.2] := by
 have c := zbc t p ht hp
 refine z01 z0q 2 rfl Tryz.func275 rfl rfl rfl ?_
 unfold z1q z0G
 cases b <;> rcases hv : z0g t p with _ | ⟨n, q⟩
 all_goals
  rw [hv] at c
  repeat ((try conv => whnf); first | (refine ccA ([]) (c) ?_) | (refine stpQ ?_))
  (refine z00 (by rfl) ?_ ?_ (by rfl)) <;> (repeat' (first | (exact eqA) | (refine shE ?_) | (refine And.intro ?_ ?_))) <;> rfl
theorem zjI (t : Bs) (p w : Nat) : (t.take (p + w)).drop (p + w - w) = (t.drop p).take w := by rw [Nat.add_sub_cancel, List.drop_take, Nat.add_sub_cancel_left]
theorem z7K (t : Bs) (p : Nat) (b : Bool) (n : Nat) (ht : (t.length : Int) ≤ 1000000000) (hp : p ≤ t.length) : CT Tryz.prog 325 [fldB t p b] [.ptr 1 0 0, .int .i64 (n : Int)] (.str (z0E t p b n).1) [fldB t (z0E t p b n).2.1 (z0E t p b n).2.2] := by
 refine z01 z0q 2 rfl Tryz.func325 rfl rfl rfl ?_
 cases b
 ·by_cases hl : t.length - p < n
  ·have e : z0E t p false n = ([], p, true) := by rw [z0E, if_pos (.inr hl)]
   rw [e]
   repeat ((try conv => whnf); first | (refine stpQ ?_))
   (refine z00 (by rfl) ?_ ?_ (by rfl)) <;> (repeat' (first | (exact eqA) | (refine shE ?_) | (refine And.intro ?_ ?_))) <;> rfl
  ·have e : z0E t p false n = ((t.drop p).take n, p + n, false) := by rw [z0E, if_neg (by simp; omega)]
   rw [e]
   repeat ((try conv => whnf); first | (refine stpQ ?_))
   (refine z00 (by rfl) ?_ ?_ (by rfl)) <;> (repeat' (first | (exact eqA) | (refine shE ?_) | (refine And.intro ?_ ?_)))
   exact zjI t p n
 ·rw [z7r]
  repeat ((try conv => whnf); first | (refine stpQ ?_))
  (refine z00 (by rfl) ?_ ?_ (by rfl)) <;> (repeat' (first | (exact eqA) | (refine shE ?_) | (refine And.intro ?_ ?_))) <;> rfl
theorem z67 {t : Bs} {p n : Nat} {b : Bool} (hp : p ≤ t.length) : (z0E t p b n).2.1 ≤ t.length := by
 unfold z0E
 split
 ·exact hp
 ·rename_i h; simp at h ⊢; omega
end Go.Proofs.YthcfalipgnpelaaGreatDoor
namespace Go.Proofs.YthcfalipgnpelaaGreatDoor
set_option linter.unusedVariables false
set_option linter.unusedSimpArgs false
set_option linter.unusedSectionVars false
open Go.RowKit Pl
attribute [local irreducible] z0o z0p z0z AnsP LeP
end Go.Proofs.YthcfalipgnpelaaGreatDoor
namespace Go.Proofs.YthcfalipgnpelaaGreatDoor
set_option linter.unusedVariables false
set_option linter.unusedSimpArgs false
set_option linter.unusedSectionVars false
open Go.RowKit Pl
attribute [local irreducible] z0o z0p z0z AnsP LeP
def strE (l : List Bs) : List (List T) := l.map fun s => [.str s]
theorem z05 (l : List Bs) : (strE l).length = l.length := by simp [strE]
theorem zlK {l : List Bs} {i : Nat} (h : i < l.length) : (strE l)[i]? = some [.str (l.getD i [])] := by simp [strE, List.getD, List.getElem?_eq_getElem h]
end Go.Proofs.YthcfalipgnpelaaGreatDoor
