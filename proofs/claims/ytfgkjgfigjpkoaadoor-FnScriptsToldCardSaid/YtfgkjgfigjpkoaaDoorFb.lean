/- A walk of old, that makes memory and writes none of what was there, as a contract by content. Functions by content: numbers, strings and entries are read. Functions by content: fields of a message. Functions by content: entries are read. Functions by content: what the drawing cursor gives. Functions by content: drawn names and values. -/
import Derived.Test.YtfgkjgfigjpkoaaDoorVd
import Derived.Test.YtfgkjgfigjpkoaaDoorFa
import Derived.Test.YtfgkjgfigjpkoaaDoorWa
import Derived.Laws.Bits128
namespace Go.Proofs.YtfgkjgfigjpkoaaDoor
set_option linter.unusedVariables false
set_option linter.unusedSimpArgs false
set_option linter.unusedSectionVars false
open Go.RowKit Pl
def z8v : T → Bool
 | .int _ _ => true
 | .bool _ => true
 | .str _ => true
 | _ => false
def z8w : T → Bool
 | .agg cs => cs.all z8v
 | x => z8v x
def zv1 : T → Value
 | .agg cs => .agg (cs.map zv).toArray
 | x => zv x
theorem z8x {X : Cx} : ∀ {cs : List T} {us : List Value}, cs.all z8v = true → RSl X cs us → us = cs.map zv
 | [], us, _, h => h
 | c :: cs, us, hp, ⟨u, us', hu, _, h1, h2⟩ => by
   simp only [List.all_cons, Bool.and_eq_true] at hp
   subst hu
   rw [List.map_cons, z8x hp.2 h2]
   congr 1
   cases c <;> first | (cases hp.1; done) | (simpa only [RS0, RV, zv] using h1)
theorem z1U {X : Cx} : ∀ {ts : List T} {vs : List Value}, ts.all z8w = true → Args X ts vs → vs = ts.map zv1
 | [], vs, _, h => h
 | t :: ts, vs, hp, ⟨u, us, hu, h1, h2⟩ => by
   simp only [List.all_cons, Bool.and_eq_true] at hp
   subst hu
   rw [List.map_cons, z1U hp.2 h2]
   congr 1
   cases t
   case agg cs =>
    obtain ⟨vs, rfl, hl⟩ := h1
    have := z8x hp.1 hl
    rw [zv1, ← this]
   all_goals first | (cases hp.1; done) | (simpa only [RS, RS1, RS0, RV, zv1, zv] using h1)
theorem z4A (r : Nat) : idxE [] r = none := by simp [idxE]
theorem zaB {P : Program} {f : FuncId} {ts : List T} {v : Value} {r : T} (hfn : ∃ fn, P.funcs[f]? = some fn ∧ (fn.name == "runtime.NumGoroutine") = false ∧ fn.body.isNone = false)
 (hp : ts.all z8w = true) (hr : ∀ X, RS X r v) (h : ∀ w, Calls P f (ts.map zv1).toArray w fun e w' => e = .returned v ∧ Below w.heap.size w w') : CT P f [] ts r [] := by
 refine ⟨hfn, fun X hh hH hu vs ha => ?_⟩
 rw [z1U hp ha]
 refine (h X.w).mono ?_
 rintro e w' ⟨rfl, hb⟩
 have hgl : Gl { X with w := w' } := Gl.mono (X := X) (X' := { X with w := w' }) (fun g (hg : g < X.w.heap.size) hn => ⟨hn, hb.block g hg⟩) hh.gl
 have hno : ∀ r, X.H r = none := fun r => by rw [hH]; exact z4A r
 refine ⟨v, { X with w := w' }, rfl, rfl, hH, hu, ⟨fun g g' r hr => absurd (hno r) hr, fun g r hg => ?_, fun r e he => ?_, hh.zero, hh.pos, hgl⟩, hr _, ?_⟩
 ·obtain ⟨a, b⟩ := hh.lt g r hg
  exact ⟨Nat.lt_of_lt_of_le a hb.size, b⟩
 ·have := hno r
  rw [show X.H r = some e from he] at this; cases this
 ·refine ⟨fun _ h => h, hb.os, hb.tape, hb.output, hb.size, fun g hg hn => ⟨hn, hb.block g hg⟩, fun r _ e' he => ?_, fun g hg => ⟨hg, hb.block g (hh.lt g 0 hg).1⟩, fun r _ hn => absurd (hno r) hn⟩
  have := hno r
  rw [show X.H r = some e' from he] at this; cases this
end Go.Proofs.YtfgkjgfigjpkoaaDoor
namespace Go.Proofs.YtfgkjgfigjpkoaaDoor
set_option linter.unusedVariables false
set_option linter.unusedSimpArgs false
set_option linter.unusedSectionVars false
open Go.RowKit Pl
attribute [local irreducible] z0t z0u z0C AnsP LeP
end Go.Proofs.YtfgkjgfigjpkoaaDoor
namespace Go.Proofs.YtfgkjgfigjpkoaaDoor
set_option linter.unusedVariables false
set_option linter.unusedSimpArgs false
set_option linter.unusedSectionVars false
open Go.RowKit Pl
attribute [local irreducible] z0t z0u z0C AnsP LeP
end Go.Proofs.YtfgkjgfigjpkoaaDoor
namespace Go.Proofs.YtfgkjgfigjpkoaaDoor
set_option linter.unusedVariables false
set_option linter.unusedSimpArgs false
set_option linter.unusedSectionVars false
open Go.RowKit Pl
attribute [local irreducible] z0t z0u z0C AnsP LeP
end Go.Proofs.YtfgkjgfigjpkoaaDoor
namespace Go.Proofs.YtfgkjgfigjpkoaaDoor
set_option maxRecDepth 100000
set_option maxHeartbeats 1000000
set_option linter.unusedVariables false
set_option linter.unusedSimpArgs false
set_option linter.unusedSectionVars false
open Go.RowKit Pl
attribute [local irreducible] z0t z0u z0C AnsP LeP
theorem le64b {b : Int} (h : b ≤ 64) : b ≤ ((IntKind.i64.bits : Nat) : Int) := h
theorem and255 (n : Int) : bits .and .i64 n 255 = n % 256 := by
 have h127 : (BitVec.ofInt 64 255).toNat = 2 ^ 8 - 1 := by decide
 have key : (BitVec.ofInt 64 n &&& BitVec.ofInt 64 255).toNat = (n % ((2 ^ 64 : Nat) : Int)).toNat % 2 ^ 8 := by
  rw [BitVec.toNat_and, BitVec.toNat_ofInt, h127, Nat.and_two_pow_sub_one_eq_mod]
 show IntKind.i64.wrap ((BitVec.ofInt 64 n &&& BitVec.ofInt 64 255).toNat : Nat) = n % 256
 rw [key, IntKind.wrap_i64]
 omega
theorem z62 (n : Int) : ∃ x : Nat, bits .and .i64 n 255 = (x : Int) ∧ x ≤ 255 := ⟨(n % 256).toNat, by rw [and255]; omega, by omega⟩
def curE (c : Bs) (i : Nat) (h : Int) : Ent := .box [.sl 1 (z0n c), .int .i64 (i : Int), .int .i64 h]
theorem z0L {a n : Nat} {K : Int → Prop} (hk : K ((a % n : Nat) : Int)) : ∃ r, r = (a : Int).tmod (n : Int) ∧ K r := ⟨_, (Int.ofNat_tmod a n).symm, hk⟩
theorem z8F {c : Bs} {i : Nat} (h : i < c.length) : (z0n c)[i]? = some [.int .u8 ((c.getD i 0).toNat : Int)] := by
 simp [z0n, z4e, List.getD, List.getElem?_eq_getElem h]
def z7m (h : Int) : Int := IntKind.i64.wrap (IntKind.i64.wrap (h * 6364136223846793005) + 1442695040888963407)
theorem z1y (c : Bs) (i : Nat) (h : Int) (hc : (c.length : Int) ≤ 1048576) (hi : i ≤ c.length) : ∃ (x i' : Nat) (h' : Int), x ≤ 255 ∧ i' ≤ c.length ∧ CT Tryd.prog 34 [curE c i h] [.ptr 1 0 0] (.int .i64 (x : Int)) [curE c i' h'] := by
 have hlen := z0J c
 by_cases hlt : i < c.length
 ·have h8 := (c.getD i 0).toNat_lt
  obtain ⟨x0, hx0, hb0⟩ := z62 (bits .xor .i64 (z7m h / 2 ^ (33 : Int).toNat) (z7m h / 2 ^ (45 : Int).toNat))
  obtain ⟨x, hx, hb⟩ := z62 ((x0 + (c.getD i 0).toNat : Nat) : Int)
  refine ⟨x, i + 1, z7m h, hb, hlt, z0d z13 2 rfl Tryd.func34 rfl rfl rfl ?_⟩
  repeat ((try conv => whnf); first | (refine Exists.intro c.length (And.intro hlen ?_)) | (refine And.intro (le64b (by omega)) ?_) | (refine i_at (z8F hlt) ?_) | (refine Exists.intro _ (And.intro hx0.symm ?_)) | (refine Exists.intro _ (And.intro hx.symm ?_)) | (refine stpQ ?_))
  (refine z09 (by rfl) ?_ ?_ (by rfl)) <;> repeat' (first | (exact eqA) | (refine And.intro ?_ ?_) | ((fail_if_success (with_reducible (show _ = _))); (show _ = _)))
  rfl
 ·obtain ⟨x0, hx0, hb0⟩ := z62 (bits .xor .i64 (z7m h / 2 ^ (33 : Int).toNat) (z7m h / 2 ^ (45 : Int).toNat))
  refine ⟨x0, i, z7m h, hb0, hi, z0d z13 2 rfl Tryd.func34 rfl rfl rfl ?_⟩
  repeat ((try conv => whnf); first | (refine Exists.intro c.length (And.intro hlen ?_)) | (refine And.intro (le64b (by omega)) ?_) | (refine Exists.intro _ (And.intro hx0.symm ?_)) | (refine stpQ ?_))
  (refine z09 (by rfl) ?_ ?_ (by rfl)) <;> repeat' (first | (exact eqA) | (refine And.intro ?_ ?_) | ((fail_if_success (with_reducible (show _ = _))); (show _ = _)))
  rfl
theorem z0X (c : Bs) (i : Nat) (h : Int) (n : Nat) (hc : (c.length : Int) ≤ 1048576) (hi : i ≤ c.length) (hn : 0 < n ∧ n ≤ 256) : ∃ (x i' : Nat) (h' : Int), x < n ∧ i' ≤ c.length ∧ CT Tryd.prog 19 [curE c i h] [.ptr 1 0 0, .int .i64 (n : Int)] (.int .i64 (x : Int)) [curE c i' h'] := by
 obtain ⟨x, i', h', hx, hi', k⟩ := z1y c i h hc hi
 refine ⟨x % n, i', h', Nat.mod_lt _ (by omega), hi', z0d z13 2 rfl Tryd.func19 rfl rfl rfl ?_⟩
 repeat ((try conv => whnf); first | (refine ccB ([1]) (k) ?_) | (refine z0L ?_) | (refine stpQ ?_))
 (refine z09 (by rfl) ?_ ?_ (by rfl)) <;> repeat' (first | (exact eqA) | (refine And.intro ?_ ?_) | ((fail_if_success (with_reducible (show _ = _))); (show _ = _)))
end Go.Proofs.YtfgkjgfigjpkoaaDoor
namespace Go.Proofs.YtfgkjgfigjpkoaaDoor
set_option maxRecDepth 100000
set_option maxHeartbeats 1000000
set_option linter.unusedVariables false
set_option linter.unusedSimpArgs false
set_option linter.unusedSectionVars false
open Go.RowKit Pl
attribute [local irreducible] z0t z0u z0C AnsP LeP
def strE (l : List Bs) : List (List T) := l.map fun s => [.str s]
theorem z0h (l : List Bs) : (strE l).length = l.length := by simp [strE]
theorem z3q {l : List Bs} {i : Nat} (h : i < l.length) : (strE l)[i]? = some [.str (l.getD i [])] := by simp [strE, List.getD, List.getElem?_eq_getElem h]
theorem z5p (c : Bs) (i : Nat) (h : Int) (l : List Bs) (hc : (c.length : Int) ≤ 1048576) (hi : i ≤ c.length) (hl : 0 < l.length ∧ l.length ≤ 256) : ∃ (s : Bs) (i' : Nat) (h' : Int), s ∈ l ∧ i' ≤ c.length ∧ CT Tryd.prog 37 [curE c i h] [.ptr 1 0 0, .sl 1 (strE l)] (.str s) [curE c i' h'] := by
 obtain ⟨x, i', h', hx, hi', k⟩ := z0X c i h l.length hc hi hl
 have hlen := z0h l
 refine ⟨l.getD x [], i', h', ?_, hi', z0d z13 2 rfl Tryd.func37 rfl rfl rfl ?_⟩
 ·simp [List.getD, List.getElem?_eq_getElem hx]
 ·repeat ((try conv => whnf); first | (refine Exists.intro l.length (And.intro hlen ?_)) | (refine ccB ([1]) (k) ?_) | (refine i_at (z3q hx) ?_) | (refine stpQ ?_))
  (refine z09 (by rfl) ?_ ?_ (by rfl)) <;> repeat' (first | (exact eqA) | (refine And.intro ?_ ?_) | ((fail_if_success (with_reducible (show _ = _))); (show _ = _)))
def names12 : List Bs := [[97, 110, 110], [98, 111, 98], [99, 97, 116], [100, 97, 110], [101, 118, 101], [102, 97, 121], [103, 117, 115], [104, 97, 108], [105, 118, 121], [106, 111, 101, 64, 120, 46, 111, 114, 103], [107, 105, 109], [108, 101, 111]]
def values5 : List Bs := [[107, 49], [107, 50], [107, 51], [107, 101, 121, 45, 102, 111, 117, 114], [122]]
theorem z7n : names12.all (fun s => z1v s && decide (s.length ≤ 9)) = true := by decide +kernel
theorem z7o : values5.all (fun s => z0Y s && decide (s.length ≤ 9)) = true := by decide +kernel
theorem z5q (c : Bs) (i : Nat) (h : Int) (hc : (c.length : Int) ≤ 1048576) (hi : i ≤ c.length) : ∃ (s : Bs) (i' : Nat) (h' : Int), (z1v s = true ∧ s.length ≤ 9) ∧ i' ≤ c.length ∧ CT Tryd.prog 24 [curE c i h] [.ptr 1 0 0] (.str s) [curE c i' h'] := by
 obtain ⟨s, i', h', hs, hi', k⟩ := z5p c i h names12 hc hi (by decide)
 refine ⟨s, i', h', ?_, hi', z0d z13 2 rfl Tryd.func24 rfl rfl rfl ?_⟩
 ·have := List.all_eq_true.1 z7n s hs
  simpa using this
 ·repeat ((try conv => whnf); first | (refine z4z ([34]) ([1]) (k) (by ((repeat' (first | (exact trivial) | (exact rfl) | (decide) | (refine And.intro ?_ ?_))); first | done | fail)) (by ((repeat' (first | (exact trivial) | (exact rfl) | (decide) | (refine And.intro ?_ ?_))); first | done | fail)) (by decide) (by rfl) (by first | exact .inl rfl | (refine .inr ⟨?_, ?_⟩ <;> simp [own2, own1, own0, ownE])) ?_) | (refine stpQ ?_))
  (refine z09 (by rfl) ?_ ?_ (by rfl)) <;> repeat' (first | (exact eqA) | (refine And.intro ?_ ?_) | ((fail_if_success (with_reducible (show _ = _))); (show _ = _)))
theorem z7p (c : Bs) (i : Nat) (h : Int) (hc : (c.length : Int) ≤ 1048576) (hi : i ≤ c.length) : ∃ (s : Bs) (i' : Nat) (h' : Int), (z0Y s = true ∧ s.length ≤ 9) ∧ i' ≤ c.length ∧ CT Tryd.prog 62 [curE c i h] [.ptr 1 0 0] (.str s) [curE c i' h'] := by
 obtain ⟨s, i', h', hs, hi', k⟩ := z5p c i h values5 hc hi (by decide)
 refine ⟨s, i', h', ?_, hi', z0d z13 2 rfl Tryd.func62 rfl rfl rfl ?_⟩
 ·have := List.all_eq_true.1 z7o s hs
  simpa using this
 ·repeat ((try conv => whnf); first | (refine z4z ([34]) ([1]) (k) (by ((repeat' (first | (exact trivial) | (exact rfl) | (decide) | (refine And.intro ?_ ?_))); first | done | fail)) (by ((repeat' (first | (exact trivial) | (exact rfl) | (decide) | (refine And.intro ?_ ?_))); first | done | fail)) (by decide) (by rfl) (by first | exact .inl rfl | (refine .inr ⟨?_, ?_⟩ <;> simp [own2, own1, own0, ownE])) ?_) | (refine stpQ ?_))
  (refine z09 (by rfl) ?_ ?_ (by rfl)) <;> repeat' (first | (exact eqA) | (refine And.intro ?_ ?_) | ((fail_if_success (with_reducible (show _ = _))); (show _ = _)))
def z8G (c : Bs) : Nat → Int
 | 0 => ((35901 + c.length : Nat) : Int)
 | k + 1 => bits .and .i64 (IntKind.i64.wrap (IntKind.i64.wrap (IntKind.i64.wrap (z8G c k * 131) + ((c.getD k 0).toNat : Int)) + 7)) 1073741823
theorem z6L (c : Bs) (hc : (c.length : Int) ≤ 1048576) : ∃ (h : Int), CT Tryd.prog 18 [] [.sl 1 (z0n c)] (.ptr 1 0 0) [curE c 0 h] := by
 have hlen := z0J c
 refine ⟨z8G c (min c.length 4000), z0d z13 1 rfl Tryd.func18 rfl rfl rfl ?_⟩
 repeat ((try conv => whnf); first | (refine Exists.intro c.length (And.intro hlen ?_)) | (refine stpQ ?_))
 refine z5Z Nat (fun k => ⟨[(0, .sl 1 (z0n c)), (3, .int .i64 (z8G c k)), (4, .int .i64 (k : Int))], [], 2⟩) (fun k => k ≤ c.length ∧ k ≤ 4000) (fun k => 4000 - k) 0 ⟨by omega, by omega⟩ ?_ ?_
 ·(refine z0a (by rfl) ?_ ?_) <;> (repeat' (first | (exact eqA) | (refine And.intro ?_ ?_) | ((fail_if_success (with_reducible (show _ = _))); (show _ = _))))
  show _ = ((35901 + c.length : Nat) : Int)
  omega
 ·rintro k ⟨hk, hk2⟩
  by_cases hlt : k < c.length ∧ k < 4000
  ·have h8 := (c.getD k 0).toNat_lt
   repeat ((try conv => whnf); first | (refine Exists.intro c.length (And.intro hlen ?_)) | (refine i_at (z8F hlt.1) ?_) | (refine stpQ ?_))
   refine ⟨k + 1, ⟨by omega, by omega⟩, by omega, ?_⟩
   (refine z0a (by rfl) ?_ ?_) <;> (repeat' (first | (exact eqA) | (refine And.intro ?_ ?_) | ((fail_if_success (with_reducible (show _ = _))); (show _ = _))))
   rfl
  ·have e : k = min c.length 4000 := by omega
   subst e
   repeat' (first | ((try conv => whnf); first | (refine Exists.intro c.length (And.intro hlen ?_)) | (refine stpQ ?_)) | ((try conv => whnf); first | (refine cb_d (fun h => ?_) (fun h => ?_)) | (refine cb_n (fun h => ?_) (fun h => ?_)) | (refine cb (fun h => ?_) (fun h => ?_))))
   all_goals first
    | omega
    | ((refine z09 (by rfl) ?_ ?_ (by rfl)) <;> (repeat' (first | (exact eqA) | (refine And.intro ?_ ?_) | ((fail_if_success (with_reducible (show _ = _))); (show _ = _)))))
end Go.Proofs.YtfgkjgfigjpkoaaDoor
