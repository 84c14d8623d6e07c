/- A walk of old, that makes memory and writes none of what was there, as a contract by content. Functions by content: numbers, strings and entries are read. Functions by content: fields of a message. Functions by content: entries are read. Functions by content: what the reference reads: numbers, strings, entries. Functions by content: what the drawing cursor gives. Functions by content: drawn names and values. -/
import Derived.Test.YtkjjacndfieeoaaGreatDoorVd
import Derived.Test.YtkjjacndfieeoaaGreatDoorFa
import Derived.Test.YtkjjacndfieeoaaGreatDoorWax
import Derived.Test.YtkjjacndfieeoaaGreatDoorPlainM
import Derived.Laws.Bits128
namespace Go.Proofs.YtkjjacndfieeoaaGreatDoor
set_option maxRecDepth 100000
set_option maxHeartbeats 1000000
set_option linter.unusedVariables false
set_option linter.unusedSimpArgs false
set_option linter.unusedSectionVars false
open Go.RowKit Pl
def zeX : T → Bool
 | .int _ _ => true
 | .bool _ => true
 | .str _ => true
 | _ => false
def zhM : T → Bool
 | .agg cs => cs.all zeX
 | x => zeX x
def zv1 : T → Value
 | .agg cs => .agg (cs.map zv).toArray
 | x => zv x
theorem zeY {X : Cx} : ∀ {cs : List T} {us : List Value}, cs.all zeX = true → RSl X cs us → us = cs.map zv
 | [], us, _, h => h
 | c :: cs, us, hp, ⟨u, us', hu, _, h1, h2⟩ => by
   simp only [List.all_cons, Bool.and_eq_true] at hp
   subst hu
   rw [List.map_cons, zeY hp.2 h2]
   congr 1
   cases c <;> first | (cases hp.1; done) | (simpa only [RS0, RV, zv] using h1)
theorem z7u {X : Cx} : ∀ {ts : List T} {vs : List Value}, ts.all zhM = true → Args X ts vs → vs = ts.map zv1
 | [], vs, _, h => h
 | t :: ts, vs, hp, ⟨u, us, hu, h1, h2⟩ => by
   simp only [List.all_cons, Bool.and_eq_true] at hp
   subst hu
   rw [List.map_cons, z7u hp.2 h2]
   congr 1
   cases t
   case agg cs =>
    obtain ⟨vs, rfl, hl⟩ := h1
    have := zeY hp.1 hl
    rw [zv1, ← this]
   all_goals first | (cases hp.1; done) | (simpa only [RS, RS1, RS0, RV, zv1, zv] using h1)
theorem zgN (r : Nat) : idxE [] r = none := by simp [idxE]
theorem z3D {P : Program} {f : FuncId} {ts : List T} {v : Value} {r : T} (hfn : ∃ fn, P.funcs[f]? = some fn ∧ (fn.name == "runtime.NumGoroutine") = false ∧ fn.body.isNone = false)
 (hp : ts.all zhM = true) (hr : ∀ X, RS X r v) (h : ∀ w, Calls P f (ts.map zv1).toArray w fun e w' => e = .returned v ∧ Below w.heap.size w w') : CT P f [] ts r [] := by
 refine ⟨hfn, fun X hh hH hu vs ha => ?_⟩
 rw [z7u hp ha]
 refine (h X.w).mono ?_
 rintro e w' ⟨rfl, hb⟩
 have hgl : Gl { X with w := w' } := Gl.mono (X := X) (X' := { X with w := w' }) (fun g (hg : g < X.w.heap.size) hn => ⟨hn, hb.block g hg⟩) hh.gl
 have hno : ∀ r, X.H r = none := fun r => by rw [hH]; exact zgN r
 refine ⟨v, { X with w := w' }, rfl, rfl, hH, hu, ⟨fun g g' r hr => absurd (hno r) hr, fun g r hg => ?_, fun r e he => ?_, hh.zero, hh.pos, hgl, fun g hg => ⟨(hh.inn g hg).1, Nat.lt_of_lt_of_le (hh.inn g hg).2.1 hb.size, (hh.inn g hg).2.2⟩⟩, hr _, ?_⟩
 ·obtain ⟨a, b⟩ := hh.lt g r hg
  exact ⟨Nat.lt_of_lt_of_le a hb.size, b⟩
 ·have := hno r
  rw [show X.H r = some e from he] at this; cases this
 ·refine ⟨fun _ h => h, hb.os, hb.tape, hb.output, hb.size, fun g hg hn => ⟨hn, hb.block g hg⟩, fun r _ e' he => ?_, fun g hg hg0 => ⟨⟨hg, hg0⟩, hb.block g (hh.lt g 0 hg).1⟩, fun r _ hn => absurd (hno r) hn⟩
  have := hno r
  rw [show X.H r = some e' from he] at this; cases this
end Go.Proofs.YtkjjacndfieeoaaGreatDoor
namespace Go.Proofs.YtkjjacndfieeoaaGreatDoor
set_option maxRecDepth 100000
set_option maxHeartbeats 1000000
set_option linter.unusedVariables false
set_option linter.unusedSimpArgs false
set_option linter.unusedSectionVars false
open Go.RowKit Pl
attribute [local irreducible] z0m z0n z0q AnsP LeP
def rvT : Option (Nat × Nat) → T
 | none => .tup [.int .i64 0, .int .i64 0, .bool false]
 | some (n, q) => .tup [.int .i64 (n : Int), .int .i64 (q : Int), .bool true]
def rsT : Option (Bs × Nat) → T
 | none => .tup [.str [], .int .i64 0, .bool false]
 | some (l, q) => .tup [.str l, .int .i64 (q : Int), .bool true]
theorem rv_rs (o : Option (Nat × Nat)) (X : Cx) : RS X (rvT o) (zis o) := by
 cases o with
 | none => exact ⟨_, rfl, _, _, rfl, z1g X _ _, _, _, rfl, z1g X _ _, _, _, rfl, z1r X _, rfl⟩
 | some x => exact ⟨_, rfl, _, _, rfl, z1g X _ _, _, _, rfl, z1g X _ _, _, _, rfl, z1r X _, rfl⟩
theorem rs_rs (o : Option (Bs × Nat)) (X : Cx) : RS X (rsT o) (rsVal o) := by
 cases o with
 | none => exact ⟨_, rfl, _, _, rfl, z2X X _, _, _, rfl, z1g X _ _, _, _, rfl, z1r X _, rfl⟩
 | some x => exact ⟨_, rfl, _, _, rfl, z2X X _, _, _, rfl, z1g X _ _, _, _, rfl, z1r X _, rfl⟩
theorem z9v (t : Bs) (p : Nat) (ht : (t.length : Int) ≤ 1000000000) (hp : p ≤ t.length) : CT Tryz.prog 169 [] [.str t, .int .i64 (p : Int)] (rvT (z0z t p)) [] :=
 z3D ⟨_, Tryz.func169, rfl, rfl⟩ rfl (rv_rs _) fun w => by
  have h := z4N (bs t) p w (by rw [z0Y]; exact ht) (by rw [z0Y]; exact hp)
  rw [z1e] at h
  refine h.mono ?_
  rintro e w1 ⟨rfl, rfl⟩
  exact ⟨rfl, Below.refl _ _⟩
theorem zaL (t : Bs) (p : Nat) (ht : (t.length : Int) ≤ 1000000000) (hp : p ≤ t.length) : CT Tryz.prog 195 [] [.str t, .int .i64 (p : Int)] (rsT (z0G t p)) [] :=
 z3D ⟨_, Tryz.func195, rfl, rfl⟩ rfl (rs_rs _) fun w => by
  have h := z9q (bs t) p w (by rw [z0Y]; exact ht) (by rw [z0Y]; exact hp)
  rw [z1e] at h
  refine h.mono ?_
  rintro e w1 ⟨rfl, rfl⟩
  exact ⟨rfl, Below.refl _ _⟩
end Go.Proofs.YtkjjacndfieeoaaGreatDoor
namespace Go.Proofs.YtkjjacndfieeoaaGreatDoor
set_option maxRecDepth 100000
set_option maxHeartbeats 1000000
set_option linter.unusedVariables false
set_option linter.unusedSimpArgs false
set_option linter.unusedSectionVars false
open Go.RowKit Pl
attribute [local irreducible] z0m z0n z0q AnsP LeP
def fldB (t : Bs) (p : Nat) (b : Bool) : Ent := .box [.str t, .int .i64 (p : Int), .bool b]
theorem c_num (t : Bs) (p : Nat) (b : Bool) (ht : (t.length : Int) ≤ 1000000000) (hp : p ≤ t.length) : CT Tryz.prog 135 [fldB t p b] [.ptr 1 0 0] (.int .i64 ((z36 t p b).1 : Int)) [fldB t (z36 t p b).2.1 (z36 t p b).2.2] := by
 have c := z9v t p ht hp
 refine z01 z0A 2 rfl Tryz.func135 rfl rfl rfl ?_
 unfold z36
 rcases hv : z0z t p with _ | ⟨n, q⟩
 all_goals
  rw [hv] at c
  repeat ((try conv => whnf); first | (refine ccA ([]) (c) ?_) | (refine stpQ ?_))
  (refine z00 (by rfl) ?_ ?_ (by rfl)) <;> (repeat' (first | (exact eqA) | (refine shE ?_) | (refine And.intro ?_ ?_))) <;> rfl
theorem zeZ (t : Bs) (p : Nat) (b : Bool) (ht : (t.length : Int) ≤ 1000000000) (hp : p ≤ t.length) : CT Tryz.prog 173 [fldB t p b] [.ptr 1 0 0] (.str (z1f t p b).1) [fldB t (z1f t p b).2.1 (z1f t p b).2.2] := by
 have c := zaL t p ht hp
 refine z01 z0A 2 rfl Tryz.func173 rfl rfl rfl ?_
 unfold z1f
 rcases hv : z0G t p with _ | ⟨n, q⟩
 all_goals
  rw [hv] at c
  repeat ((try conv => whnf); first | (refine ccA ([]) (c) ?_) | (refine stpQ ?_))
  (refine z00 (by rfl) ?_ ?_ (by rfl)) <;> (repeat' (first | (exact eqA) | (refine shE ?_) | (refine And.intro ?_ ?_))) <;> rfl
theorem zf0 (t : Bs) (p : Nat) (b : Bool) : CT Tryz.prog 136 [fldB t p b] [.ptr 1 0 0] (.bool (z40 b p t.length)) [fldB t p b] := by
 refine z01 z0A 2 rfl Tryz.func136 rfl rfl rfl ?_
 cases b
 ·repeat ((try conv => whnf); first | (refine stpQ ?_))
  (refine z00 (by rfl) ?_ ?_ (by rfl)) <;> (repeat' (first | (exact eqA) | (refine shE ?_) | (refine And.intro ?_ ?_)))
  show decide ((p : Int) = (t.length : Int)) = (p == t.length)
  by_cases hd : p = t.length
  ·rw [hd]; simp
  ·have h2 : ¬ ((p : Int) = (t.length : Int)) := by omega
   rw [decide_eq_false h2]; exact (beq_false_of_ne hd).symm
 ·repeat ((try conv => whnf); first | (refine stpQ ?_))
  (refine z00 (by rfl) ?_ ?_ (by rfl)) <;> (repeat' (first | (exact eqA) | (refine shE ?_) | (refine And.intro ?_ ?_)))
  rfl
end Go.Proofs.YtkjjacndfieeoaaGreatDoor
namespace Go.Proofs.YtkjjacndfieeoaaGreatDoor
set_option maxRecDepth 100000
set_option maxHeartbeats 1000000
set_option linter.unusedVariables false
set_option linter.unusedSimpArgs false
set_option linter.unusedSectionVars false
open Go.RowKit Pl
attribute [local irreducible] z0m z0n z0q AnsP LeP
theorem Sml.fit {l : List Lf} (h : Sml l) : Fit l := fun i => by have := h.2 i; omega
end Go.Proofs.YtkjjacndfieeoaaGreatDoor
namespace Go.Proofs.YtkjjacndfieeoaaGreatDoor
set_option linter.unusedVariables false
set_option linter.unusedSimpArgs false
set_option linter.unusedSectionVars false
open Go.RowKit Pl
attribute [local irreducible] z0m z0n z0q AnsP LeP
theorem z7w (n : Nat) (hn : (n : Int) ≤ 2000000000) : CT Tryz.prog 93 [] [.int .i64 (n : Int)] (.str (z0e n)) [] :=
 z3D ⟨_, Tryz.func93, rfl, rfl⟩ rfl (fun X => z2X X _) fun w => z8o n w hn
theorem zdi (t : Bs) (p : Nat) (ht : (t.length : Int) ≤ 1000000000) (hp : p ≤ t.length) : CT Tryz.prog 184 [] [.str t, .int .i64 (p : Int)] (rvT (z0z t p)) [] :=
 z3D ⟨_, Tryz.func184, rfl, rfl⟩ rfl (rv_rs _) fun w => by
  have h := zaI (bs t) p w (by rw [z0Y]; exact ht) (by rw [z0Y]; exact hp)
  rwa [z1e] at h
theorem zgT (t : Bs) (p w : Nat) : (t.take (p + w)).drop (p + w - w) = (t.drop p).take w := by rw [Nat.add_sub_cancel, List.drop_take, Nat.add_sub_cancel_left]
set_option maxRecDepth 100000 in
set_option maxHeartbeats 1000000 in
theorem z6m (t : Bs) (p : Nat) (b : Bool) (n : Nat) (ht : (t.length : Int) ≤ 1000000000) (hp : p ≤ t.length) : CT Tryz.prog 194 [fldB t p b] [.ptr 1 0 0, .int .i64 (n : Int)] (.str (z0w t p b n).1) [fldB t (z0w t p b n).2.1 (z0w t p b n).2.2] := by
 refine z01 z0A 2 rfl Tryz.func194 rfl rfl rfl ?_
 cases b
 ·by_cases hl : t.length - p < n
  ·have e : z0w t p false n = ([], p, true) := by rw [z0w, if_pos (.inr hl)]
   rw [e]
   repeat ((try conv => whnf); first | (refine stpQ ?_))
   (refine z00 (by rfl) ?_ ?_ (by rfl)) <;> (repeat' (first | (exact eqA) | (refine shE ?_) | (refine And.intro ?_ ?_))) <;> rfl
  ·have e : z0w t p false n = ((t.drop p).take n, p + n, false) := by rw [z0w, if_neg (by simp; omega)]
   rw [e]
   repeat ((try conv => whnf); first | (refine stpQ ?_))
   (refine z00 (by rfl) ?_ ?_ (by rfl)) <;> (repeat' (first | (exact eqA) | (refine shE ?_) | (refine And.intro ?_ ?_)))
   exact zgT t p n
 ·rw [z6d]
  repeat ((try conv => whnf); first | (refine stpQ ?_))
  (refine z00 (by rfl) ?_ ?_ (by rfl)) <;> (repeat' (first | (exact eqA) | (refine shE ?_) | (refine And.intro ?_ ?_))) <;> rfl
theorem z4O {t : Bs} {p n : Nat} {b : Bool} (hp : p ≤ t.length) : (z0w t p b n).2.1 ≤ t.length := by
 unfold z0w
 split
 ·exact hp
 ·rename_i h; simp at h ⊢; omega
end Go.Proofs.YtkjjacndfieeoaaGreatDoor
namespace Go.Proofs.YtkjjacndfieeoaaGreatDoor
set_option maxRecDepth 100000
set_option maxHeartbeats 1000000
set_option linter.unusedVariables false
set_option linter.unusedSimpArgs false
set_option linter.unusedSectionVars false
open Go.RowKit Pl
attribute [local irreducible] z0m z0n z0q AnsP LeP
theorem le64b {b : Int} (h : b ≤ 64) : b ≤ ((IntKind.i64.bits : Nat) : Int) := h
theorem and255 (n : Int) : bits .and .i64 n 255 = n % 256 := by
 have h127 : (BitVec.ofInt 64 255).toNat = 2 ^ 8 - 1 := by decide
 have key : (BitVec.ofInt 64 n &&& BitVec.ofInt 64 255).toNat = (n % ((2 ^ 64 : Nat) : Int)).toNat % 2 ^ 8 := by
  rw [BitVec.toNat_and, BitVec.toNat_ofInt, h127, Nat.and_two_pow_sub_one_eq_mod]
 show IntKind.i64.wrap ((BitVec.ofInt 64 n &&& BitVec.ofInt 64 255).toNat : Nat) = n % 256
 rw [key, IntKind.wrap_i64]
 omega
theorem zaM (n : Int) : ∃ x : Nat, bits .and .i64 n 255 = (x : Int) ∧ x ≤ 255 := ⟨(n % 256).toNat, by rw [and255]; omega, by omega⟩
def curE (c : Bs) (i : Nat) (h : Int) : Ent := .box [.sl 1 (z0h c), .int .i64 (i : Int), .int .i64 h]
theorem r_rem {a n : Nat} {K : Int → Prop} (hk : K ((a % n : Nat) : Int)) : ∃ r, r = (a : Int).tmod (n : Int) ∧ K r := ⟨_, (Int.ofNat_tmod a n).symm, hk⟩
theorem zf2 {c : Bs} {i : Nat} (h : i < c.length) : (z0h c)[i]? = some [.int .u8 ((c.getD i 0).toNat : Int)] := by
 simp [z0h, z3K, List.getD, List.getElem?_eq_getElem h]
def zdd (h : Int) : Int := IntKind.i64.wrap (IntKind.i64.wrap (h * 6364136223846793005) + 1442695040888963407)
theorem z2h (c : Bs) (i : Nat) (h : Int) (hc : (c.length : Int) ≤ 1048576) (hi : i ≤ c.length) : ∃ (x i' : Nat) (h' : Int), x ≤ 255 ∧ i' ≤ c.length ∧ CT Tryz.prog 23 [curE c i h] [.ptr 1 0 0] (.int .i64 (x : Int)) [curE c i' h'] := by
 have hlen := z0y c
 by_cases hlt : i < c.length
 ·have h8 := (c.getD i 0).toNat_lt
  obtain ⟨x0, hx0, hb0⟩ := zaM (bits .xor .i64 (zdd h / 2 ^ (33 : Int).toNat) (zdd h / 2 ^ (45 : Int).toNat))
  obtain ⟨x, hx, hb⟩ := zaM ((x0 + (c.getD i 0).toNat : Nat) : Int)
  refine ⟨x, i + 1, zdd h, hb, hlt, z01 z0A 2 rfl Tryz.func23 rfl rfl rfl ?_⟩
  repeat ((try conv => whnf); first | (refine Exists.intro c.length (And.intro hlen ?_)) | (refine And.intro (le64b (by omega)) ?_) | (refine i_at (zf2 hlt) ?_) | (refine Exists.intro _ (And.intro hx0.symm ?_)) | (refine Exists.intro _ (And.intro hx.symm ?_)) | (refine stpQ ?_))
  (refine z00 (by rfl) ?_ ?_ (by rfl)) <;> repeat' (first | (exact eqA) | (refine shE ?_) | (refine And.intro ?_ ?_))
  rfl
 ·obtain ⟨x0, hx0, hb0⟩ := zaM (bits .xor .i64 (zdd h / 2 ^ (33 : Int).toNat) (zdd h / 2 ^ (45 : Int).toNat))
  refine ⟨x0, i, zdd h, hb0, hi, z01 z0A 2 rfl Tryz.func23 rfl rfl rfl ?_⟩
  repeat ((try conv => whnf); first | (refine Exists.intro c.length (And.intro hlen ?_)) | (refine And.intro (le64b (by omega)) ?_) | (refine Exists.intro _ (And.intro hx0.symm ?_)) | (refine stpQ ?_))
  (refine z00 (by rfl) ?_ ?_ (by rfl)) <;> repeat' (first | (exact eqA) | (refine shE ?_) | (refine And.intro ?_ ?_))
  rfl
theorem zde (c : Bs) (i : Nat) (h : Int) (n : Nat) (hc : (c.length : Int) ≤ 1048576) (hi : i ≤ c.length) (hn : 0 < n ∧ n ≤ 256) : ∃ (x i' : Nat) (h' : Int), x < n ∧ i' ≤ c.length ∧ CT Tryz.prog 24 [curE c i h] [.ptr 1 0 0, .int .i64 (n : Int)] (.int .i64 (x : Int)) [curE c i' h'] := by
 obtain ⟨x, i', h', hx, hi', k⟩ := z2h c i h hc hi
 refine ⟨x % n, i', h', Nat.mod_lt _ (by omega), hi', z01 z0A 2 rfl Tryz.func24 rfl rfl rfl ?_⟩
 repeat ((try conv => whnf); first | (refine ccB ([1]) (k) ?_) | (refine r_rem ?_) | (refine stpQ ?_))
 (refine z00 (by rfl) ?_ ?_ (by rfl)) <;> repeat' (first | (exact eqA) | (refine shE ?_) | (refine And.intro ?_ ?_))
end Go.Proofs.YtkjjacndfieeoaaGreatDoor
namespace Go.Proofs.YtkjjacndfieeoaaGreatDoor
set_option maxRecDepth 100000
set_option maxHeartbeats 1000000
set_option linter.unusedVariables false
set_option linter.unusedSimpArgs false
set_option linter.unusedSectionVars false
open Go.RowKit Pl
attribute [local irreducible] z0m z0n z0q AnsP LeP
def strE (l : List Bs) : List (List T) := l.map fun s => [.str s]
theorem z0d (l : List Bs) : (strE l).length = l.length := by simp [strE]
theorem ziw {l : List Bs} {i : Nat} (h : i < l.length) : (strE l)[i]? = some [.str (l.getD i [])] := by simp [strE, List.getD, List.getElem?_eq_getElem h]
def zf3 (c : Bs) : Nat → Int
 | 0 => ((35901 + c.length : Nat) : Int)
 | k + 1 => bits .and .i64 (IntKind.i64.wrap (IntKind.i64.wrap (IntKind.i64.wrap (zf3 c k * 131) + ((c.getD k 0).toNat : Int)) + 7)) 1073741823
theorem zcd (c : Bs) (hc : (c.length : Int) ≤ 1048576) : ∃ (h : Int), CT Tryz.prog 22 [] [.sl 1 (z0h c)] (.ptr 1 0 0) [curE c 0 h] := by
 have hlen := z0y c
 refine ⟨zf3 c (min c.length 4000), z01 z0A 1 rfl Tryz.func22 rfl rfl rfl ?_⟩
 repeat ((try conv => whnf); first | (refine Exists.intro c.length (And.intro hlen ?_)) | (refine stpQ ?_))
 refine z1L Nat (fun k => ⟨[(0, .sl 1 (z0h c)), (3, .int .i64 (zf3 c k)), (4, .int .i64 (k : Int))], [], 2⟩) (fun k => k ≤ c.length ∧ k ≤ 4000) (fun k => 4000 - k) 0 ⟨by omega, by omega⟩ ?_ ?_
 ·(refine z02 (by rfl) ?_ ?_) <;> (repeat' (first | (exact eqA) | (refine shE ?_) | (refine And.intro ?_ ?_)))
  show _ = ((35901 + c.length : Nat) : Int)
  omega
 ·rintro k ⟨hk, hk2⟩
  by_cases hlt : k < c.length ∧ k < 4000
  ·have h8 := (c.getD k 0).toNat_lt
   repeat ((try conv => whnf); first | (refine Exists.intro c.length (And.intro hlen ?_)) | (refine i_at (zf2 hlt.1) ?_) | (refine stpQ ?_))
   refine ⟨k + 1, ⟨by omega, by omega⟩, by omega, ?_⟩
   (refine z02 (by rfl) ?_ ?_) <;> (repeat' (first | (exact eqA) | (refine shE ?_) | (refine And.intro ?_ ?_)))
   rfl
  ·have e : k = min c.length 4000 := by omega
   subst e
   repeat' (first | ((try conv => whnf); first | (refine Exists.intro c.length (And.intro hlen ?_)) | (refine stpQ ?_)) | ((try conv => whnf); first | (refine cb_d (fun h => ?_) (fun h => ?_)) | (refine cb_n (fun h => ?_) (fun h => ?_)) | (refine cb (fun h => ?_) (fun h => ?_))))
   all_goals first
    | omega
    | ((refine z00 (by rfl) ?_ ?_ (by rfl)) <;> (repeat' (first | (exact eqA) | (refine shE ?_) | (refine And.intro ?_ ?_))))
end Go.Proofs.YtkjjacndfieeoaaGreatDoor
