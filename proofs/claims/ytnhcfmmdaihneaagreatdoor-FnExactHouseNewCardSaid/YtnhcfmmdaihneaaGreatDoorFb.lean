/- A walk of old, that makes memory and writes none of what was there, as a contract by content. Functions by content: numbers, strings and entries are read. Functions by content: fields of a message. Functions by content: entries are read. Functions by content: what the reference reads: numbers, strings, entries. Functions by content: what the drawing cursor gives. Functions by content: drawn names and values. -/
import Derived.Test.YtnhcfmmdaihneaaGreatDoorVd
import Derived.Test.YtnhcfmmdaihneaaGreatDoorFa
import Derived.Test.YtnhcfmmdaihneaaGreatDoorWa
import Derived.Test.YtnhcfmmdaihneaaGreatDoorPlainM
import Derived.Laws.Bits128
namespace Go.Proofs.YtnhcfmmdaihneaaGreatDoor
set_option maxRecDepth 100000
set_option maxHeartbeats 1000000
set_option linter.unusedVariables false
set_option linter.unusedSimpArgs false
set_option linter.unusedSectionVars false
open Go.RowKit Pl
def zgj : T → Bool
 | .int _ _ => true
 | .bool _ => true
 | .str _ => true
 | _ => false
def zjP : T → Bool
 | .agg cs => cs.all zgj
 | x => zgj x
def zv1 : T → Value
 | .agg cs => .agg (cs.map zv).toArray
 | x => zv x
theorem zgk {X : Cx} : ∀ {cs : List T} {us : List Value}, cs.all zgj = true → RSl X cs us → us = cs.map zv
 | [], us, _, h => h
 | c :: cs, us, hp, ⟨u, us', hu, _, h1, h2⟩ => by
   simp only [List.all_cons, Bool.and_eq_true] at hp
   subst hu
   rw [List.map_cons, zgk hp.2 h2]
   congr 1
   cases c <;> first | (cases hp.1; done) | (simpa only [RS0, RV, zv] using h1)
theorem z8m {X : Cx} : ∀ {ts : List T} {vs : List Value}, ts.all zjP = true → Args X ts vs → vs = ts.map zv1
 | [], vs, _, h => h
 | t :: ts, vs, hp, ⟨u, us, hu, h1, h2⟩ => by
   simp only [List.all_cons, Bool.and_eq_true] at hp
   subst hu
   rw [List.map_cons, z8m hp.2 h2]
   congr 1
   cases t
   case agg cs =>
    obtain ⟨vs, rfl, hl⟩ := h1
    have := zgk hp.1 hl
    rw [zv1, ← this]
   all_goals first | (cases hp.1; done) | (simpa only [RS, RS1, RS0, RV, zv1, zv] using h1)
theorem ziB (r : Nat) : idxE [] r = none := by simp [idxE]
theorem z3U {P : Program} {f : FuncId} {ts : List T} {v : Value} {r : T} (hfn : ∃ fn, P.funcs[f]? = some fn ∧ (fn.name == "runtime.NumGoroutine") = false ∧ fn.body.isNone = false)
 (hp : ts.all zjP = true) (hr : ∀ X, RS X r v) (h : ∀ w, Calls P f (ts.map zv1).toArray w fun e w' => e = .returned v ∧ Below w.heap.size w w') : CT P f [] ts r [] := by
 refine ⟨hfn, fun X hh hH hu vs ha => ?_⟩
 rw [z8m hp ha]
 refine (h X.w).mono ?_
 rintro e w' ⟨rfl, hb⟩
 have hgl : Gl { X with w := w' } := Gl.mono (X := X) (X' := { X with w := w' }) (fun g (hg : g < X.w.heap.size) hn => ⟨hn, hb.block g hg⟩) hh.gl
 have hno : ∀ r, X.H r = none := fun r => by rw [hH]; exact ziB r
 refine ⟨v, { X with w := w' }, rfl, rfl, hH, hu, ⟨fun g g' r hr => absurd (hno r) hr, fun g r hg => ?_, fun r e he => ?_, hh.zero, hh.pos, hgl, fun g hg => ⟨(hh.inn g hg).1, Nat.lt_of_lt_of_le (hh.inn g hg).2.1 hb.size, (hh.inn g hg).2.2⟩⟩, hr _, ?_⟩
 ·obtain ⟨a, b⟩ := hh.lt g r hg
  exact ⟨Nat.lt_of_lt_of_le a hb.size, b⟩
 ·have := hno r
  rw [show X.H r = some e from he] at this; cases this
 ·refine ⟨fun _ h => h, hb.os, hb.tape, hb.output, hb.size, fun g hg hn => ⟨hn, hb.block g hg⟩, fun r _ e' he => ?_, fun g hg hg0 => ⟨⟨hg, hg0⟩, hb.block g (hh.lt g 0 hg).1⟩, fun r _ hn => absurd (hno r) hn⟩
  have := hno r
  rw [show X.H r = some e' from he] at this; cases this
end Go.Proofs.YtnhcfmmdaihneaaGreatDoor
namespace Go.Proofs.YtnhcfmmdaihneaaGreatDoor
set_option maxRecDepth 100000
set_option maxHeartbeats 1000000
set_option linter.unusedVariables false
set_option linter.unusedSimpArgs false
set_option linter.unusedSectionVars false
open Go.RowKit Pl
attribute [local irreducible] z0w z0x z0A AnsP LeP
def rvT : Option (Nat × Nat) → T
 | none => .tup [.int .i64 0, .int .i64 0, .bool false]
 | some (n, q) => .tup [.int .i64 (n : Int), .int .i64 (q : Int), .bool true]
def rsT : Option (Bs × Nat) → T
 | none => .tup [.str [], .int .i64 0, .bool false]
 | some (l, q) => .tup [.str l, .int .i64 (q : Int), .bool true]
theorem rv_rs (o : Option (Nat × Nat)) (X : Cx) : RS X (rvT o) (zkx o) := by
 cases o with
 | none => exact ⟨_, rfl, _, _, rfl, z1v X _ _, _, _, rfl, z1v X _ _, _, _, rfl, z1S X _, rfl⟩
 | some x => exact ⟨_, rfl, _, _, rfl, z1v X _ _, _, _, rfl, z1v X _ _, _, _, rfl, z1S X _, rfl⟩
theorem rs_rs (o : Option (Bs × Nat)) (X : Cx) : RS X (rsT o) (zky o) := by
 cases o with
 | none => exact ⟨_, rfl, _, _, rfl, z2W X _, _, _, rfl, z1v X _ _, _, _, rfl, z1S X _, rfl⟩
 | some x => exact ⟨_, rfl, _, _, rfl, z2W X _, _, _, rfl, z1v X _ _, _, _, rfl, z1S X _, rfl⟩
theorem zan (t : Bs) (p : Nat) (ht : (t.length : Int) ≤ 1000000000) (hp : p ≤ t.length) : CT Tryz.prog 115 [] [.str t, .int .i64 (p : Int)] (rvT (z0B t p)) [] :=
 z3U ⟨_, Tryz.func115, rfl, rfl⟩ rfl (rv_rs _) fun w => by
  have h := z5D (bs t) p w (by rw [z0R]; exact ht) (by rw [z0R]; exact hp)
  rw [z0V] at h
  refine h.mono ?_
  rintro e w1 ⟨rfl, rfl⟩
  exact ⟨rfl, Below.refl _ _⟩
theorem zbQ (t : Bs) (p : Nat) (ht : (t.length : Int) ≤ 1000000000) (hp : p ≤ t.length) : CT Tryz.prog 116 [] [.str t, .int .i64 (p : Int)] (rsT (z0s t p)) [] :=
 z3U ⟨_, Tryz.func116, rfl, rfl⟩ rfl (rs_rs _) fun w => by
  have h := z3O (bs t) p w (by rw [z0R]; exact ht) (by rw [z0R]; exact hp)
  rw [z0V] at h
  refine h.mono ?_
  rintro e w1 ⟨rfl, rfl⟩
  exact ⟨rfl, Below.refl _ _⟩
end Go.Proofs.YtnhcfmmdaihneaaGreatDoor
namespace Go.Proofs.YtnhcfmmdaihneaaGreatDoor
set_option maxRecDepth 100000
set_option maxHeartbeats 1000000
set_option linter.unusedVariables false
set_option linter.unusedSimpArgs false
set_option linter.unusedSectionVars false
open Go.RowKit Pl
attribute [local irreducible] z0w z0x z0A AnsP LeP
def fldB (t : Bs) (p : Nat) (b : Bool) : Ent := .box [.str t, .int .i64 (p : Int), .bool b]
theorem zgl (t : Bs) (p : Nat) (b : Bool) (ht : (t.length : Int) ≤ 1000000000) (hp : p ≤ t.length) : CT Tryz.prog 42 [fldB t p b] [.ptr 1 0 0] (.int .i64 ((z0W t p b).1 : Int)) [fldB t (z0W t p b).2.1 (z0W t p b).2.2] := by
 have c := zan t p ht hp
 refine z01 z0L 2 rfl Tryz.func42 rfl rfl rfl ?_
 unfold z0W
 rcases hv : z0B t p with _ | ⟨n, q⟩
 all_goals
  rw [hv] at c
  repeat ((try conv => whnf); first | (refine ccA ([]) (c) ?_) | (refine stpQ ?_))
  (refine z00 (by rfl) ?_ ?_ (by rfl)) <;> (repeat' (first | (exact eqA) | (refine shE ?_) | (refine And.intro ?_ ?_))) <;> rfl
theorem zgm (t : Bs) (p : Nat) (b : Bool) (ht : (t.length : Int) ≤ 1000000000) (hp : p ≤ t.length) : CT Tryz.prog 43 [fldB t p b] [.ptr 1 0 0] (.str (z0F t p b).1) [fldB t (z0F t p b).2.1 (z0F t p b).2.2] := by
 have c := zbQ t p ht hp
 refine z01 z0L 2 rfl Tryz.func43 rfl rfl rfl ?_
 unfold z0F
 rcases hv : z0s t p with _ | ⟨n, q⟩
 all_goals
  rw [hv] at c
  repeat ((try conv => whnf); first | (refine ccA ([]) (c) ?_) | (refine stpQ ?_))
  (refine z00 (by rfl) ?_ ?_ (by rfl)) <;> (repeat' (first | (exact eqA) | (refine shE ?_) | (refine And.intro ?_ ?_))) <;> rfl
theorem z58 (t : Bs) (p : Nat) (b : Bool) : CT Tryz.prog 47 [fldB t p b] [.ptr 1 0 0] (.bool (z19 b p t.length)) [fldB t p b] := by
 refine z01 z0L 2 rfl Tryz.func47 rfl rfl rfl ?_
 cases b
 ·repeat ((try conv => whnf); first | (refine stpQ ?_))
  (refine z00 (by rfl) ?_ ?_ (by rfl)) <;> (repeat' (first | (exact eqA) | (refine shE ?_) | (refine And.intro ?_ ?_)))
  show decide ((p : Int) = (t.length : Int)) = (p == t.length)
  by_cases hd : p = t.length
  ·rw [hd]; simp
  ·have h2 : ¬ ((p : Int) = (t.length : Int)) := by omega
   rw [decide_eq_false h2]; exact (beq_false_of_ne hd).symm
 ·repeat ((try conv => whnf); first | (refine stpQ ?_))
  (refine z00 (by rfl) ?_ ?_ (by rfl)) <;> (repeat' (first | (exact eqA) | (refine shE ?_) | (refine And.intro ?_ ?_)))
  rfl
end Go.Proofs.YtnhcfmmdaihneaaGreatDoor
namespace Go.Proofs.YtnhcfmmdaihneaaGreatDoor
set_option maxRecDepth 100000
set_option maxHeartbeats 1000000
set_option linter.unusedVariables false
set_option linter.unusedSimpArgs false
set_option linter.unusedSectionVars false
open Go.RowKit Pl
attribute [local irreducible] z0w z0x z0A AnsP LeP
theorem Sml.fit {l : List Lf} (h : Sml l) : Fit l := fun i => by have := h.2 i; omega
end Go.Proofs.YtnhcfmmdaihneaaGreatDoor
namespace Go.Proofs.YtnhcfmmdaihneaaGreatDoor
set_option maxRecDepth 100000
set_option maxHeartbeats 1000000
set_option linter.unusedVariables false
set_option linter.unusedSimpArgs false
set_option linter.unusedSectionVars false
open Go.RowKit Pl
attribute [local irreducible] z0w z0x z0A AnsP LeP
theorem zgF (n : Nat) (hn : (n : Int) ≤ 2000000000) : CT Tryz.prog 113 [] [.int .i64 (n : Int)] (.str (z0r n)) [] :=
 z3U ⟨_, Tryz.func113, rfl, rfl⟩ rfl (fun X => z2W X _) fun w => z6p n w hn
theorem z8p (t : Bs) (p : Nat) (ht : (t.length : Int) ≤ 1000000000) (hp : p ≤ t.length) : CT Tryz.prog 108 [] [.str t, .int .i64 (p : Int)] (rvT (z0B t p)) [] :=
 z3U ⟨_, Tryz.func108, rfl, rfl⟩ rfl (rv_rs _) fun w => by
  have h := z4t (bs t) p w (by rw [z0R]; exact ht) (by rw [z0R]; exact hp)
  rwa [z0V] at h
theorem zaz (t : Bs) (p : Nat) (ht : (t.length : Int) ≤ 1000000000) (hp : p ≤ t.length) : CT Tryz.prog 109 [] [.str t, .int .i64 (p : Int)] (rsT (z0s t p)) [] :=
 z3U ⟨_, Tryz.func109, rfl, rfl⟩ rfl (rs_rs _) fun w => by
  have h := z3m (bs t) p w (by rw [z0R]; exact ht) (by rw [z0R]; exact hp)
  rwa [z0V] at h
theorem zaA (t : Bs) (p : Nat) (b : Bool) (ht : (t.length : Int) ≤ 1000000000) (hp : p ≤ t.length) : CT Tryz.prog 36 [fldB t p b] [.ptr 1 0 0] (.int .i64 ((numS t p b).1 : Int)) [fldB t (numS t p b).2.1 (numS t p b).2.2] := by
 have c := z8p t p ht hp
 refine z01 z0L 2 rfl Tryz.func36 rfl rfl rfl ?_
 unfold numS z0W
 cases b <;> rcases hv : z0B t p with _ | ⟨n, q⟩
 all_goals
  rw [hv] at c
  repeat ((try conv => whnf); first | (refine ccA ([]) (c) ?_) | (refine stpQ ?_))
  (refine z00 (by rfl) ?_ ?_ (by rfl)) <;> (repeat' (first | (exact eqA) | (refine shE ?_) | (refine And.intro ?_ ?_))) <;> rfl
theorem ziK (t : Bs) (p : Nat) (b : Bool) (ht : (t.length : Int) ≤ 1000000000) (hp : p ≤ t.length) : CT Tryz.prog 37 [fldB t p b] [.ptr 1 0 0] (.str (z1m t p b).1) [fldB t (z1m t p b).2.1 (z1m t p b).2.2] := by
 have c := zaz t p ht hp
 refine z01 z0L 2 rfl Tryz.func37 rfl rfl rfl ?_
 unfold z1m z0F
 cases b <;> rcases hv : z0s t p with _ | ⟨n, q⟩
 all_goals
  rw [hv] at c
  repeat ((try conv => whnf); first | (refine ccA ([]) (c) ?_) | (refine stpQ ?_))
  (refine z00 (by rfl) ?_ ?_ (by rfl)) <;> (repeat' (first | (exact eqA) | (refine shE ?_) | (refine And.intro ?_ ?_))) <;> rfl
theorem ziL (t : Bs) (p w : Nat) : (t.take (p + w)).drop (p + w - w) = (t.drop p).take w := by rw [Nat.add_sub_cancel, List.drop_take, Nat.add_sub_cancel_left]
theorem z7l (t : Bs) (p : Nat) (b : Bool) (n : Nat) (ht : (t.length : Int) ≤ 1000000000) (hp : p ≤ t.length) : CT Tryz.prog 45 [fldB t p b] [.ptr 1 0 0, .int .i64 (n : Int)] (.str (z0E t p b n).1) [fldB t (z0E t p b n).2.1 (z0E t p b n).2.2] := by
 refine z01 z0L 2 rfl Tryz.func45 rfl rfl rfl ?_
 cases b
 ·by_cases hl : t.length - p < n
  ·have e : z0E t p false n = ([], p, true) := by rw [z0E, if_pos (.inr hl)]
   rw [e]
   repeat ((try conv => whnf); first | (refine stpQ ?_))
   (refine z00 (by rfl) ?_ ?_ (by rfl)) <;> (repeat' (first | (exact eqA) | (refine shE ?_) | (refine And.intro ?_ ?_))) <;> rfl
  ·have e : z0E t p false n = ((t.drop p).take n, p + n, false) := by rw [z0E, if_neg (by simp; omega)]
   rw [e]
   repeat ((try conv => whnf); first | (refine stpQ ?_))
   (refine z00 (by rfl) ?_ ?_ (by rfl)) <;> (repeat' (first | (exact eqA) | (refine shE ?_) | (refine And.intro ?_ ?_)))
   exact ziL t p n
 ·rw [z77]
  repeat ((try conv => whnf); first | (refine stpQ ?_))
  (refine z00 (by rfl) ?_ ?_ (by rfl)) <;> (repeat' (first | (exact eqA) | (refine shE ?_) | (refine And.intro ?_ ?_))) <;> rfl
theorem z5I {t : Bs} {p n : Nat} {b : Bool} (hp : p ≤ t.length) : (z0E t p b n).2.1 ≤ t.length := by
 unfold z0E
 split
 ·exact hp
 ·rename_i h; simp at h ⊢; omega
end Go.Proofs.YtnhcfmmdaihneaaGreatDoor
namespace Go.Proofs.YtnhcfmmdaihneaaGreatDoor
set_option linter.unusedVariables false
set_option linter.unusedSimpArgs false
set_option linter.unusedSectionVars false
open Go.RowKit Pl
attribute [local irreducible] z0w z0x z0A AnsP LeP
end Go.Proofs.YtnhcfmmdaihneaaGreatDoor
namespace Go.Proofs.YtnhcfmmdaihneaaGreatDoor
set_option linter.unusedVariables false
set_option linter.unusedSimpArgs false
set_option linter.unusedSectionVars false
open Go.RowKit Pl
attribute [local irreducible] z0w z0x z0A AnsP LeP
def strE (l : List Bs) : List (List T) := l.map fun s => [.str s]
theorem z0m (l : List Bs) : (strE l).length = l.length := by simp [strE]
end Go.Proofs.YtnhcfmmdaihneaaGreatDoor
