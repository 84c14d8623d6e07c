/- A walk of old, that makes memory and writes none of what was there, as a contract by content. Functions by content: numbers, strings and entries are read. Functions by content: fields of a message. Functions by content: entries are read. Functions by content: what the reference reads: numbers, strings, entries. Functions by content: what the drawing cursor gives. Functions by content: drawn names and values. -/
import Derived.Test.YtfjbinbpgdiafaaGreatDoorVd
import Derived.Test.YtfjbinbpgdiafaaGreatDoorFa
import Derived.Test.YtfjbinbpgdiafaaGreatDoorWa
import Derived.Test.YtfjbinbpgdiafaaGreatDoorPlainM
import Derived.Laws.Bits128
namespace Go.Proofs.YtfjbinbpgdiafaaGreatDoor
set_option maxRecDepth 100000
set_option maxHeartbeats 1000000
set_option linter.unusedVariables false
set_option linter.unusedSimpArgs false
set_option linter.unusedSectionVars false
open Go.RowKit Pl
def zdx : T → Bool
 | .int _ _ => true
 | .bool _ => true
 | .str _ => true
 | _ => false
def zfZ : T → Bool
 | .agg cs => cs.all zdx
 | x => zdx x
def zv1 : T → Value
 | .agg cs => .agg (cs.map zv).toArray
 | x => zv x
theorem zdy {X : Cx} : ∀ {cs : List T} {us : List Value}, cs.all zdx = true → RSl X cs us → us = cs.map zv
 | [], us, _, h => h
 | c :: cs, us, hp, ⟨u, us', hu, _, h1, h2⟩ => by
   simp only [List.all_cons, Bool.and_eq_true] at hp
   subst hu
   rw [List.map_cons, zdy hp.2 h2]
   congr 1
   cases c <;> first | (cases hp.1; done) | (simpa only [RS0, RV, zv] using h1)
theorem z71 {X : Cx} : ∀ {ts : List T} {vs : List Value}, ts.all zfZ = true → Args X ts vs → vs = ts.map zv1
 | [], vs, _, h => h
 | t :: ts, vs, hp, ⟨u, us, hu, h1, h2⟩ => by
   simp only [List.all_cons, Bool.and_eq_true] at hp
   subst hu
   rw [List.map_cons, z71 hp.2 h2]
   congr 1
   cases t
   case agg cs =>
    obtain ⟨vs, rfl, hl⟩ := h1
    have := zdy hp.1 hl
    rw [zv1, ← this]
   all_goals first | (cases hp.1; done) | (simpa only [RS, RS1, RS0, RV, zv1, zv] using h1)
theorem zf6 (r : Nat) : idxE [] r = none := by simp [idxE]
theorem z2V {P : Program} {f : FuncId} {ts : List T} {v : Value} {r : T} (hfn : ∃ fn, P.funcs[f]? = some fn ∧ (fn.name == "runtime.NumGoroutine") = false ∧ fn.body.isNone = false)
 (hp : ts.all zfZ = true) (hr : ∀ X, RS X r v) (h : ∀ w, Calls P f (ts.map zv1).toArray w fun e w' => e = .returned v ∧ Below w.heap.size w w') : CT P f [] ts r [] := by
 refine ⟨hfn, fun X hh hH hu vs ha => ?_⟩
 rw [z71 hp ha]
 refine (h X.w).mono ?_
 rintro e w' ⟨rfl, hb⟩
 have hgl : Gl { X with w := w' } := Gl.mono (X := X) (X' := { X with w := w' }) (fun g (hg : g < X.w.heap.size) hn => ⟨hn, hb.block g hg⟩) hh.gl
 have hno : ∀ r, X.H r = none := fun r => by rw [hH]; exact zf6 r
 refine ⟨v, { X with w := w' }, rfl, rfl, hH, hu, ⟨fun g g' r hr => absurd (hno r) hr, fun g r hg => ?_, fun r e he => ?_, hh.zero, hh.pos, hgl, fun g hg => ⟨(hh.inn g hg).1, Nat.lt_of_lt_of_le (hh.inn g hg).2.1 hb.size, (hh.inn g hg).2.2⟩⟩, hr _, ?_⟩
 ·obtain ⟨a, b⟩ := hh.lt g r hg
  exact ⟨Nat.lt_of_lt_of_le a hb.size, b⟩
 ·have := hno r
  rw [show X.H r = some e from he] at this; cases this
 ·refine ⟨fun _ h => h, hb.os, hb.tape, hb.output, hb.size, fun g hg hn => ⟨hn, hb.block g hg⟩, fun r _ e' he => ?_, fun g hg hg0 => ⟨⟨hg, hg0⟩, hb.block g (hh.lt g 0 hg).1⟩, fun r _ hn => absurd (hno r) hn⟩
  have := hno r
  rw [show X.H r = some e' from he] at this; cases this
end Go.Proofs.YtfjbinbpgdiafaaGreatDoor
namespace Go.Proofs.YtfjbinbpgdiafaaGreatDoor
set_option maxRecDepth 100000
set_option maxHeartbeats 1000000
set_option linter.unusedVariables false
set_option linter.unusedSimpArgs false
set_option linter.unusedSectionVars false
open Go.RowKit Pl
attribute [local irreducible] z0r z0s z0z AnsP LeP
def rvT : Option (Nat × Nat) → T
 | none => .tup [.int .i64 0, .int .i64 0, .bool false]
 | some (n, q) => .tup [.int .i64 (n : Int), .int .i64 (q : Int), .bool true]
theorem rv_rs (o : Option (Nat × Nat)) (X : Cx) : RS X (rvT o) (zgJ o) := by
 cases o with
 | none => exact ⟨_, rfl, _, _, rfl, z1w X _ _, _, _, rfl, z1w X _ _, _, _, rfl, z1B X _, rfl⟩
 | some x => exact ⟨_, rfl, _, _, rfl, z1w X _ _, _, _, rfl, z1w X _ _, _, _, rfl, z1B X _, rfl⟩
theorem z8C (t : Bs) (p : Nat) (ht : (t.length : Int) ≤ 1000000000) (hp : p ≤ t.length) : CT Tryz.prog 135 [] [.str t, .int .i64 (p : Int)] (rvT (z0u t p)) [] :=
 z2V ⟨_, Tryz.func135, rfl, rfl⟩ rfl (rv_rs _) fun w => by
  have h := z4D (bs t) p w (by rw [z0M]; exact ht) (by rw [z0M]; exact hp)
  rw [z0S] at h
  refine h.mono ?_
  rintro e w1 ⟨rfl, rfl⟩
  exact ⟨rfl, Below.refl _ _⟩
end Go.Proofs.YtfjbinbpgdiafaaGreatDoor
namespace Go.Proofs.YtfjbinbpgdiafaaGreatDoor
set_option maxRecDepth 100000
set_option maxHeartbeats 1000000
set_option linter.unusedVariables false
set_option linter.unusedSimpArgs false
set_option linter.unusedSectionVars false
open Go.RowKit Pl
attribute [local irreducible] z0r z0s z0z AnsP LeP
def fldB (t : Bs) (p : Nat) (b : Bool) : Ent := .box [.str t, .int .i64 (p : Int), .bool b]
theorem zgP (t : Bs) (p : Nat) (b : Bool) (ht : (t.length : Int) ≤ 1000000000) (hp : p ≤ t.length) : CT Tryz.prog 85 [fldB t p b] [.ptr 1 0 0] (.int .i64 ((z1J t p b).1 : Int)) [fldB t (z1J t p b).2.1 (z1J t p b).2.2] := by
 have c := z8C t p ht hp
 refine z01 z0v 2 rfl Tryz.func85 rfl rfl rfl ?_
 unfold z1J
 rcases hv : z0u t p with _ | ⟨n, q⟩
 all_goals
  rw [hv] at c
  repeat ((try conv => whnf); first | (refine ccA ([]) (c) ?_) | (refine stpQ ?_))
  (refine z00 (by rfl) ?_ ?_ (by rfl)) <;> (repeat' (first | (exact eqA) | (refine shE ?_) | (refine And.intro ?_ ?_))) <;> rfl
theorem zdz (t : Bs) (p : Nat) (b : Bool) : CT Tryz.prog 90 [fldB t p b] [.ptr 1 0 0] (.bool (z2d b p t.length)) [fldB t p b] := by
 refine z01 z0v 2 rfl Tryz.func90 rfl rfl rfl ?_
 cases b
 ·repeat ((try conv => whnf); first | (refine stpQ ?_))
  (refine z00 (by rfl) ?_ ?_ (by rfl)) <;> (repeat' (first | (exact eqA) | (refine shE ?_) | (refine And.intro ?_ ?_)))
  show decide ((p : Int) = (t.length : Int)) = (p == t.length)
  by_cases hd : p = t.length
  ·rw [hd]; simp
  ·have h2 : ¬ ((p : Int) = (t.length : Int)) := by omega
   rw [decide_eq_false h2]; exact (beq_false_of_ne hd).symm
 ·repeat ((try conv => whnf); first | (refine stpQ ?_))
  (refine z00 (by rfl) ?_ ?_ (by rfl)) <;> (repeat' (first | (exact eqA) | (refine shE ?_) | (refine And.intro ?_ ?_)))
  rfl
end Go.Proofs.YtfjbinbpgdiafaaGreatDoor
namespace Go.Proofs.YtfjbinbpgdiafaaGreatDoor
set_option maxRecDepth 100000
set_option maxHeartbeats 1000000
set_option linter.unusedVariables false
set_option linter.unusedSimpArgs false
set_option linter.unusedSectionVars false
open Go.RowKit Pl
attribute [local irreducible] z0r z0s z0z AnsP LeP
theorem Sml.fit {l : List Lf} (h : Sml l) : Fit l := fun i => by have := h.2 i; omega
end Go.Proofs.YtfjbinbpgdiafaaGreatDoor
namespace Go.Proofs.YtfjbinbpgdiafaaGreatDoor
set_option linter.unusedVariables false
set_option linter.unusedSimpArgs false
set_option linter.unusedSectionVars false
open Go.RowKit Pl
attribute [local irreducible] z0r z0s z0z AnsP LeP
theorem z4n (n : Nat) (hn : (n : Int) ≤ 2000000000) : CT Tryz.prog 132 [] [.int .i64 (n : Int)] (.str (z03 n)) [] :=
 z2V ⟨_, Tryz.func132, rfl, rfl⟩ rfl (fun X => z2x X _) fun w => z5g n w hn
theorem zcg (t : Bs) (p : Nat) (ht : (t.length : Int) ≤ 1000000000) (hp : p ≤ t.length) : CT Tryz.prog 142 [] [.str t, .int .i64 (p : Int)] (rvT (z0u t p)) [] :=
 z2V ⟨_, Tryz.func142, rfl, rfl⟩ rfl (rv_rs _) fun w => by
  have h := z9I (bs t) p w (by rw [z0M]; exact ht) (by rw [z0M]; exact hp)
  rwa [z0S] at h
end Go.Proofs.YtfjbinbpgdiafaaGreatDoor
namespace Go.Proofs.YtfjbinbpgdiafaaGreatDoor
set_option maxRecDepth 100000
set_option maxHeartbeats 1000000
set_option linter.unusedVariables false
set_option linter.unusedSimpArgs false
set_option linter.unusedSectionVars false
open Go.RowKit Pl
attribute [local irreducible] z0r z0s z0z AnsP LeP
theorem le64b {b : Int} (h : b ≤ 64) : b ≤ ((IntKind.i64.bits : Nat) : Int) := h
theorem and255 (n : Int) : bits .and .i64 n 255 = n % 256 := by
 have h127 : (BitVec.ofInt 64 255).toNat = 2 ^ 8 - 1 := by decide
 have key : (BitVec.ofInt 64 n &&& BitVec.ofInt 64 255).toNat = (n % ((2 ^ 64 : Nat) : Int)).toNat % 2 ^ 8 := by
  rw [BitVec.toNat_and, BitVec.toNat_ofInt, h127, Nat.and_two_pow_sub_one_eq_mod]
 show IntKind.i64.wrap ((BitVec.ofInt 64 n &&& BitVec.ofInt 64 255).toNat : Nat) = n % 256
 rw [key, IntKind.wrap_i64]
 omega
theorem z9P (n : Int) : ∃ x : Nat, bits .and .i64 n 255 = (x : Int) ∧ x ≤ 255 := ⟨(n % 256).toNat, by rw [and255]; omega, by omega⟩
def curE (c : Bs) (i : Nat) (h : Int) : Ent := .box [.sl 1 (z0k c), .int .i64 (i : Int), .int .i64 h]
theorem r_rem {a n : Nat} {K : Int → Prop} (hk : K ((a % n : Nat) : Int)) : ∃ r, r = (a : Int).tmod (n : Int) ∧ K r := ⟨_, (Int.ofNat_tmod a n).symm, hk⟩
theorem zdG {c : Bs} {i : Nat} (h : i < c.length) : (z0k c)[i]? = some [.int .u8 ((c.getD i 0).toNat : Int)] := by
 simp [z0k, z3H, List.getD, List.getElem?_eq_getElem h]
def zc7 (h : Int) : Int := IntKind.i64.wrap (IntKind.i64.wrap (h * 6364136223846793005) + 1442695040888963407)
theorem z2F (c : Bs) (i : Nat) (h : Int) (hc : (c.length : Int) ≤ 1048576) (hi : i ≤ c.length) : ∃ (x i' : Nat) (h' : Int), x ≤ 255 ∧ i' ≤ c.length ∧ CT Tryz.prog 128 [curE c i h] [.ptr 1 0 0] (.int .i64 (x : Int)) [curE c i' h'] := by
 have hlen := z0G c
 by_cases hlt : i < c.length
 ·have h8 := (c.getD i 0).toNat_lt
  obtain ⟨x0, hx0, hb0⟩ := z9P (bits .xor .i64 (zc7 h / 2 ^ (33 : Int).toNat) (zc7 h / 2 ^ (45 : Int).toNat))
  obtain ⟨x, hx, hb⟩ := z9P ((x0 + (c.getD i 0).toNat : Nat) : Int)
  refine ⟨x, i + 1, zc7 h, hb, hlt, z01 z0v 2 rfl Tryz.func128 rfl rfl rfl ?_⟩
  repeat ((try conv => whnf); first | (refine Exists.intro c.length (And.intro hlen ?_)) | (refine And.intro (le64b (by omega)) ?_) | (refine i_at (zdG hlt) ?_) | (refine Exists.intro _ (And.intro hx0.symm ?_)) | (refine Exists.intro _ (And.intro hx.symm ?_)) | (refine stpQ ?_))
  (refine z00 (by rfl) ?_ ?_ (by rfl)) <;> repeat' (first | (exact eqA) | (refine shE ?_) | (refine And.intro ?_ ?_))
  rfl
 ·obtain ⟨x0, hx0, hb0⟩ := z9P (bits .xor .i64 (zc7 h / 2 ^ (33 : Int).toNat) (zc7 h / 2 ^ (45 : Int).toNat))
  refine ⟨x0, i, zc7 h, hb0, hi, z01 z0v 2 rfl Tryz.func128 rfl rfl rfl ?_⟩
  repeat ((try conv => whnf); first | (refine Exists.intro c.length (And.intro hlen ?_)) | (refine And.intro (le64b (by omega)) ?_) | (refine Exists.intro _ (And.intro hx0.symm ?_)) | (refine stpQ ?_))
  (refine z00 (by rfl) ?_ ?_ (by rfl)) <;> repeat' (first | (exact eqA) | (refine shE ?_) | (refine And.intro ?_ ?_))
  rfl
theorem z2a (c : Bs) (i : Nat) (h : Int) (n : Nat) (hc : (c.length : Int) ≤ 1048576) (hi : i ≤ c.length) (hn : 0 < n ∧ n ≤ 256) : ∃ (x i' : Nat) (h' : Int), x < n ∧ i' ≤ c.length ∧ CT Tryz.prog 71 [curE c i h] [.ptr 1 0 0, .int .i64 (n : Int)] (.int .i64 (x : Int)) [curE c i' h'] := by
 obtain ⟨x, i', h', hx, hi', k⟩ := z2F c i h hc hi
 refine ⟨x % n, i', h', Nat.mod_lt _ (by omega), hi', z01 z0v 2 rfl Tryz.func71 rfl rfl rfl ?_⟩
 repeat ((try conv => whnf); first | (refine ccB ([1]) (k) ?_) | (refine r_rem ?_) | (refine stpQ ?_))
 (refine z00 (by rfl) ?_ ?_ (by rfl)) <;> repeat' (first | (exact eqA) | (refine shE ?_) | (refine And.intro ?_ ?_))
end Go.Proofs.YtfjbinbpgdiafaaGreatDoor
namespace Go.Proofs.YtfjbinbpgdiafaaGreatDoor
set_option maxRecDepth 100000
set_option maxHeartbeats 1000000
set_option linter.unusedVariables false
set_option linter.unusedSimpArgs false
set_option linter.unusedSectionVars false
open Go.RowKit Pl
attribute [local irreducible] z0r z0s z0z AnsP LeP
def strE (l : List Bs) : List (List T) := l.map fun s => [.str s]
theorem z0H (l : List Bs) : (strE l).length = l.length := by simp [strE]
theorem zdH {l : List Bs} {i : Nat} (h : i < l.length) : (strE l)[i]? = some [.str (l.getD i [])] := by simp [strE, List.getD, List.getElem?_eq_getElem h]
theorem z4h (c : Bs) (i : Nat) (h : Int) (l : List Bs) (hc : (c.length : Int) ≤ 1048576) (hi : i ≤ c.length) (hl : 0 < l.length ∧ l.length ≤ 256) : ∃ (s : Bs) (i' : Nat) (h' : Int), s ∈ l ∧ i' ≤ c.length ∧ CT Tryz.prog 102 [curE c i h] [.ptr 1 0 0, .sl 1 (strE l)] (.str s) [curE c i' h'] := by
 obtain ⟨x, i', h', hx, hi', k⟩ := z2a c i h l.length hc hi hl
 have hlen := z0H l
 refine ⟨l.getD x [], i', h', ?_, hi', z01 z0v 2 rfl Tryz.func102 rfl rfl rfl ?_⟩
 ·simp [List.getD, List.getElem?_eq_getElem hx]
 ·repeat ((try conv => whnf); first | (refine Exists.intro l.length (And.intro hlen ?_)) | (refine ccB ([1]) (k) ?_) | (refine i_at (zdH hx) ?_) | (refine stpQ ?_))
  (refine z00 (by rfl) ?_ ?_ (by rfl)) <;> repeat' (first | (exact eqA) | (refine shE ?_) | (refine And.intro ?_ ?_))
def names12 : List Bs := [[97, 110, 110], [98, 111, 98], [99, 97, 116], [100, 97, 110], [101, 118, 101], [102, 97, 121], [103, 117, 115], [104, 97, 108], [105, 118, 121], [106, 111, 101, 64, 120, 46, 111, 114, 103], [107, 105, 109], [108, 101, 111]]
def values5 : List Bs := [[107, 49], [107, 50], [107, 51], [107, 101, 121, 45, 102, 111, 117, 114], [122]]
theorem zc8 : names12.all (fun s => z0C s && decide (s.length ≤ 9)) = true := by decide +kernel
theorem zc9 : values5.all (fun s => z0O s && decide (s.length ≤ 9)) = true := by decide +kernel
theorem z4i (c : Bs) (i : Nat) (h : Int) (hc : (c.length : Int) ≤ 1048576) (hi : i ≤ c.length) : ∃ (s : Bs) (i' : Nat) (h' : Int), (z0C s = true ∧ s.length ≤ 9) ∧ i' ≤ c.length ∧ CT Tryz.prog 33 [curE c i h] [.ptr 1 0 0] (.str s) [curE c i' h'] := by
 obtain ⟨s, i', h', hs, hi', k⟩ := z4h c i h names12 hc hi (by decide)
 refine ⟨s, i', h', ?_, hi', z01 z0v 2 rfl Tryz.func33 rfl rfl rfl ?_⟩
 ·have := List.all_eq_true.1 zc8 s hs
  simpa using this
 ·repeat ((try conv => whnf); first | (refine z3N ([34]) ([1]) (k) (by ((repeat' (first | (exact trivial) | (exact rfl) | (decide) | (refine And.intro ?_ ?_))); first | done | fail)) (by ((repeat' (first | (exact trivial) | (exact rfl) | (decide) | (refine And.intro ?_ ?_))); first | done | fail)) (by decide) (by rfl) (by first | exact .inl rfl | (refine .inr ⟨?_, ?_⟩ <;> simp [own2, own1, own0, ownE])) ?_) | (refine stpQ ?_))
  (refine z00 (by rfl) ?_ ?_ (by rfl)) <;> repeat' (first | (exact eqA) | (refine shE ?_) | (refine And.intro ?_ ?_))
theorem z72 (c : Bs) (i : Nat) (h : Int) (hc : (c.length : Int) ≤ 1048576) (hi : i ≤ c.length) : ∃ (s : Bs) (i' : Nat) (h' : Int), (z0O s = true ∧ s.length ≤ 9) ∧ i' ≤ c.length ∧ CT Tryz.prog 154 [curE c i h] [.ptr 1 0 0] (.str s) [curE c i' h'] := by
 obtain ⟨s, i', h', hs, hi', k⟩ := z4h c i h values5 hc hi (by decide)
 refine ⟨s, i', h', ?_, hi', z01 z0v 2 rfl Tryz.func154 rfl rfl rfl ?_⟩
 ·have := List.all_eq_true.1 zc9 s hs
  simpa using this
 ·repeat ((try conv => whnf); first | (refine z3N ([34]) ([1]) (k) (by ((repeat' (first | (exact trivial) | (exact rfl) | (decide) | (refine And.intro ?_ ?_))); first | done | fail)) (by ((repeat' (first | (exact trivial) | (exact rfl) | (decide) | (refine And.intro ?_ ?_))); first | done | fail)) (by decide) (by rfl) (by first | exact .inl rfl | (refine .inr ⟨?_, ?_⟩ <;> simp [own2, own1, own0, ownE])) ?_) | (refine stpQ ?_))
  (refine z00 (by rfl) ?_ ?_ (by rfl)) <;> repeat' (first | (exact eqA) | (refine shE ?_) | (refine And.intro ?_ ?_))
def zdI (c : Bs) : Nat → Int
 | 0 => ((35901 + c.length : Nat) : Int)
 | k + 1 => bits .and .i64 (IntKind.i64.wrap (IntKind.i64.wrap (IntKind.i64.wrap (zdI c k * 131) + ((c.getD k 0).toNat : Int)) + 7)) 1073741823
theorem z7F (c : Bs) (hc : (c.length : Int) ≤ 1048576) : ∃ (h : Int), CT Tryz.prog 32 [] [.sl 1 (z0k c)] (.ptr 1 0 0) [curE c 0 h] := by
 have hlen := z0G c
 refine ⟨zdI c (min c.length 4000), z01 z0v 1 rfl Tryz.func32 rfl rfl rfl ?_⟩
 repeat ((try conv => whnf); first | (refine Exists.intro c.length (And.intro hlen ?_)) | (refine stpQ ?_))
 refine z0K Nat (fun k => ⟨[(0, .sl 1 (z0k c)), (3, .int .i64 (zdI c k)), (4, .int .i64 (k : Int))], [], 2⟩) (fun k => k ≤ c.length ∧ k ≤ 4000) (fun k => 4000 - k) 0 ⟨by omega, by omega⟩ ?_ ?_
 ·(refine z02 (by rfl) ?_ ?_) <;> (repeat' (first | (exact eqA) | (refine shE ?_) | (refine And.intro ?_ ?_)))
  show _ = ((35901 + c.length : Nat) : Int)
  omega
 ·rintro k ⟨hk, hk2⟩
  by_cases hlt : k < c.length ∧ k < 4000
  ·have h8 := (c.getD k 0).toNat_lt
   repeat ((try conv => whnf); first | (refine Exists.intro c.length (And.intro hlen ?_)) | (refine i_at (zdG hlt.1) ?_) | (refine stpQ ?_))
   refine ⟨k + 1, ⟨by omega, by omega⟩, by omega, ?_⟩
   (refine z02 (by rfl) ?_ ?_) <;> (repeat' (first | (exact eqA) | (refine shE ?_) | (refine And.intro ?_ ?_)))
   rfl
  ·have e : k = min c.length 4000 := by omega
   subst e
   repeat' (first | ((try conv => whnf); first | (refine Exists.intro c.length (And.intro hlen ?_)) | (refine stpQ ?_)) | ((try conv => whnf); first | (refine cb_d (fun h => ?_) (fun h => ?_)) | (refine cb_n (fun h => ?_) (fun h => ?_)) | (refine cb (fun h => ?_) (fun h => ?_))))
   all_goals first
    | omega
    | ((refine z00 (by rfl) ?_ ?_ (by rfl)) <;> (repeat' (first | (exact eqA) | (refine shE ?_) | (refine And.intro ?_ ?_))))
end Go.Proofs.YtfjbinbpgdiafaaGreatDoor
