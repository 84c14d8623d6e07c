/- Functions by content: texts with a purpose, cut digests, hashes of what is empty, buckets. Functions by content: the program's tree: places and sides. Functions by content: the program's proofs. Functions by content: the program's proofs: written, judged, led up. Functions by content: the reference's tree. Functions by content: the reference's places and root. Functions by content: proofs of both sides, whatever they hold. Functions by content: the reference's texts of a proof. Functions by content: the reference's texts and hash of whatever proof. -/
import Derived.Test.YtkjjacndfieeoaaGreatDoorHb
import Derived.Test.YtkjjacndfieeoaaGreatDoorGg
import Derived.Test.YtkjjacndfieeoaaGreatDoorPlainM
namespace Go.Proofs.YtkjjacndfieeoaaGreatDoor
set_option maxRecDepth 100000
set_option maxHeartbeats 2000000
set_option linter.unusedVariables false
set_option linter.unusedSimpArgs false
set_option linter.unusedSectionVars false
open Go.RowKit Pl
attribute [local irreducible] z0m z0n z0q AnsP LeP
def z0Q (ps : List Bs) : Prop := ps.length ≤ 60 ∧ ∀ p ∈ ps, p.length ≤ 200
def pAt (ps : List Bs) (k : Nat) : Bs := ps.getD k []
theorem z9I {ps : List Bs} (h : z0Q ps) (k : Nat) : (pAt ps k).length ≤ 200 := by
 unfold pAt
 rcases Nat.lt_or_ge k ps.length with hk | hk
 ·simp only [List.getD, List.getElem?_eq_getElem hk, Option.getD_some]; exact h.2 _ (List.getElem_mem hk)
 ·simp [List.getD, List.getElem?_eq_none hk]
theorem z0v {ps : List Bs} {k : Nat} (h : k < ps.length) : (strE ps)[k]? = some [.str (pAt ps k)] := by
 simp [strE, pAt, List.getD, List.getElem?_eq_getElem h]
def z2p (k : Nat) (ps : List Bs) (i : Nat) : Bs := UInt8.ofNat k :: (ps.take i).flatMap z0p
theorem z2H {k : Nat} {ps : List Bs} {i : Nat} (h : i < ps.length) : z2p k ps (i + 1) = z2p k ps i ++ z0p (pAt ps i) := by
 have : ps.take (i + 1) = ps.take i ++ [pAt ps i] := by
  rw [List.take_add_one, List.getElem?_eq_getElem h]; simp [pAt, List.getD, List.getElem?_eq_getElem h]
 rw [z2p, this]; simp [z2p]
theorem z2l {k : Nat} {ps : List Bs} (h : z0Q ps) : ∀ i, (z2p k ps i).length ≤ 1 + 205 * i
 | 0 => by simp [z2p]
 | i + 1 => by
   rcases Nat.lt_or_ge i ps.length with hi | hi
   ·rw [z2H hi, List.length_append]
    have h1 := z2l (k := k) h i
    have h2 := z9I h i
    have h3 := z25 (l := pAt ps i) (by omega)
    omega
   ·have h1 := z2l (k := k) h i
    have : z2p k ps (i + 1) = z2p k ps i := by unfold z2p; rw [List.take_of_length_le (by omega), List.take_of_length_le hi]
    rw [this]; omega
theorem z6o (k : Nat) (ps : List Bs) : z2p k ps ps.length = tagB k ps := by rw [z2p, List.take_length]; rfl
theorem zcp {k : Nat} {ps : List Bs} (h : z0Q ps) : (tagB k ps).length ≤ 12301 := by
 have h1 := z2l (k := k) h ps.length
 rw [z6o] at h1
 have := h.1; omega
theorem zfi (k : Nat) (ps : List Bs) (hk : 1 ≤ k ∧ k ≤ 8) (hp : z0Q ps) : CT Tryz.prog 175 [] [.int .i64 (k : Int), .sl 1 (strE ps)] (.tup [.str (tagB k ps), .bool true]) [] := by
 have hlen := z0d ps
 have hl60 := hp.1
 have c1 : CT Tryz.prog 28 [] [.int .i64 (k : Int), .int .i64 1, .int .i64 8] (.bool true) [] := by
  have := c_in (k : Int) 1 8
  rwa [z0u.2 (by omega)] at this
 rw [← z6o]
 refine z01 z0A 1 rfl Tryz.func175 rfl rfl rfl ?_
 repeat ((try conv => whnf); first | (refine ccA ([]) (c1) ?_) | (refine Exists.intro ps.length (And.intro hlen ?_)) | (refine w_u8 ?_) | (refine stpQ ?_))
 refine z0i 0 ⟨[(6, .ref 1)], [(1, some (.row 1 (z0h (z2p k ps ps.length))))], 2⟩ Nat (fun i => ⟨[(6, .ref 1), (20, .sl 1 (strE ps)), (21, .int .i64 (ps.length : Int)), (22, .int .i64 (i : Int))], [(1, some (.row 1 (z0h (z2p k ps i))))], 2⟩) (fun i => i ≤ ps.length) (fun i => ps.length - i) 0 (by omega) ?_ ?_ ?_
 ·(refine z02 (by rfl) ?_ ?_) <;> (repeat' (first | (exact eqA) | (refine shE ?_) | (refine And.intro ?_ ?_))) <;> first | rfl | decide
 ·intro i hi
  by_cases hlt : i < ps.length
  ·have hnx := z2H (k := k) hlt
   have hw := z2l (k := k) hp i
   have hpl := z9I hp i
   have cs := z3S (pAt ps i) (by omega)
   have hsl := z25 (l := pAt ps i) (by omega)
   generalize z2p k ps i = o at hnx hw ⊢
   have hbl := z0y o
   have hb2 := z0y (z0p (pAt ps i))
   repeat ((try conv => whnf); first | (refine i_at (z0v hlt) ?_) | (refine ccA ([]) (cs) ?_) | (refine And.intro (by rw [List.length_append, hbl, hb2]; omega) ?_) | (refine stpQ ?_))
   refine ⟨i + 1, by omega, by omega, ?_⟩
   rw [hnx]
   (refine z02 (by rfl) ?_ ?_) <;> (repeat' (first | (exact eqA) | (refine shE ?_) | (refine And.intro ?_ ?_)))
   simp [z0h]
  ·have hie : i = ps.length := by omega
   rw [hie]
   repeat ((try conv => whnf); first | (refine stpQ ?_))
   (refine z02 (by rfl) ?_ ?_) <;> (repeat' (first | (exact eqA) | (refine shE ?_) | (refine And.intro ?_ ?_)))
 ·repeat ((try conv => whnf); first | (refine Exists.intro (z2p k ps ps.length) (And.intro rfl ?_)) | (refine stpQ ?_))
  (refine z00 (by rfl) ?_ ?_ (by rfl)) <;> (repeat' (first | (exact eqA) | (refine shE ?_) | (refine And.intro ?_ ?_)))
theorem c_CutD (t : Bs) (w : Nat) (ht : (t.length : Int) ≤ 100000000) (hw : 1 ≤ w ∧ w ≤ 32) : CT Tryz.prog 176 [] [.str t, .int .i64 (w : Int)] (.str (cutB t w)) [] := by
 have c1 := zco (w : Int)
 rw [z0u.2 (by omega)] at c1
 have c2 := zfg t ht
 have hl := z1s t
 unfold cutB
 generalize z1c t = d at c2 hl ⊢
 refine z01 z0A 1 rfl Tryz.func176 rfl rfl rfl ?_
 repeat ((try conv => whnf); first | (refine ccA ([]) (c1) ?_) | (refine ccA ([]) (c2) ?_) | (refine stpQ ?_))
 (refine z00 (by rfl) ?_ ?_ (by rfl)) <;> (repeat' (first | (exact eqA) | (refine shE ?_) | (refine And.intro ?_ ?_)))
theorem z6p (k : Nat) (ps : List Bs) (w : Nat) (hk : 1 ≤ k ∧ k ≤ 8) (hp : z0Q ps) (hw : 1 ≤ w ∧ w ≤ 32) : CT Tryz.prog 140 [] [.int .i64 (k : Int), .sl 1 (strE ps), .int .i64 (w : Int)] (.str (z1a k ps w)) [] := by
 have c1 := zfi k ps hk hp
 have hl := zcp (k := k) hp
 have c2 := c_CutD (tagB k ps) w (by omega) hw
 unfold z1a
 generalize tagB k ps = t at c1 c2 hl ⊢
 refine z01 z0A 1 rfl Tryz.func140 rfl rfl rfl ?_
 repeat ((try conv => whnf); first | (refine ccA ([]) (c1) ?_) | (refine ccA ([]) (c2) ?_) | (refine stpQ ?_))
 (refine z00 (by rfl) ?_ ?_ (by rfl)) <;> (repeat' (first | (exact eqA) | (refine shE ?_) | (refine And.intro ?_ ?_)))
theorem z5r (k : Nat) (ps : List Bs) (w : Nat) (hk : 1 ≤ k ∧ k ≤ 8) (hp : z0Q ps) (hw : 1 ≤ w ∧ w ≤ 32) : CT Tryz.prog 150 [] [.int .i64 (k : Int), .int .i64 (w : Int), .sl 1 (strE ps)] (.str (z1a k ps w)) [] := by
 have c1 := z6p k ps w hk hp hw
 refine z01 z0A 1 rfl Tryz.func150 rfl rfl rfl ?_
 repeat ((try conv => whnf); first | (refine ccA ([]) (c1) ?_) | (refine stpQ ?_))
 (refine z00 (by rfl) ?_ ?_ (by rfl)) <;> (repeat' (first | (exact eqA) | (refine shE ?_) | (refine And.intro ?_ ?_)))
theorem z3h {a b : Bs} (ha : a.length ≤ 200) (hb : b.length ≤ 200) : z0Q [a, b] := ⟨by simp, fun p h => by
 rcases List.mem_cons.1 h with rfl | h
 ·exact ha
 ·rw [List.mem_singleton.1 h]; exact hb⟩
theorem z1m (a b : List Bs) : strE (a ++ b) = strE a ++ strE b := by simp [strE]
end Go.Proofs.YtkjjacndfieeoaaGreatDoor
namespace Go.Proofs.YtkjjacndfieeoaaGreatDoor
set_option linter.unusedVariables false
set_option linter.unusedSimpArgs false
set_option linter.unusedSectionVars false
open Go.RowKit Pl
attribute [local irreducible] z0m z0n z0q AnsP LeP
theorem zfj (a d : Nat) : ((a : Nat) : Int) / 2 ^ ((d : Nat) : Int).toNat = ((a / 2 ^ d : Nat) : Int) := by rw [Int.toNat_natCast]; simp
end Go.Proofs.YtkjjacndfieeoaaGreatDoor
namespace Go.Proofs.YtkjjacndfieeoaaGreatDoor
set_option maxRecDepth 100000
set_option maxHeartbeats 1000000
set_option linter.unusedVariables false
set_option linter.unusedSimpArgs false
set_option linter.unusedSectionVars false
open Go.RowKit Pl
attribute [local irreducible] z0m z0n z0q AnsP LeP
theorem zcq : ∀ a < 256, bits .xor .i64 ((a : Nat) : Int) 1 = ((sib a : Nat) : Int) := by decide +kernel
theorem zhU {ix j : Nat} (h : ix < 256) (hj : j < 8) : ix / 2 ^ j < 2 ^ (8 - j) ∧ sib (ix / 2 ^ j) < 2 ^ (8 - j) ∧ ix / 2 ^ j < 256 := by
 have key : ∀ ix < 256, ∀ j < 8, ix / 2 ^ j < 2 ^ (8 - j) ∧ sib (ix / 2 ^ j) < 2 ^ (8 - j) ∧ ix / 2 ^ j < 256 := by decide +kernel
 exact key ix h j hj
theorem c_isW (w : Nat) (hw : 1 ≤ w ∧ w ≤ 32) : CT Tryz.prog 148 [] [.int .i64 (w : Int)] (.bool true) [] := by
 have := zco (w : Int)
 rwa [z0u.2 (by omega)] at this
def z9J (s : List Bs) (w : Int) (k : Nat) : Bool := (s.take k).all fun x => decide ((x.length : Int) = w)
theorem zaT {s : List Bs} {w : Int} {k : Nat} (h : k < s.length) : z9J s w (k + 1) = (z9J s w k && decide (((pAt s k).length : Int) = w)) := by
 have : s.take (k + 1) = s.take k ++ [pAt s k] := by
  rw [List.take_add_one, List.getElem?_eq_getElem h]; simp [pAt, List.getD, List.getElem?_eq_getElem h]
 simp [z9J, this]
theorem zdo {s : List Bs} {w : Int} {k : Nat} (h : k < s.length) (hne : ¬ ((pAt s k).length : Int) = w) : (s.all fun x => decide ((x.length : Int) = w)) = false := by
 rw [List.all_eq_false]
 refine ⟨pAt s k, ?_, by simpa using hne⟩
 simp [pAt, List.getD, List.getElem?_eq_getElem h]
theorem z1t (s : List Bs) (n w : Int) (hs : (s.length : Int) ≤ 100000000) : CT Tryz.prog 149 [] [.sl 1 (strE s), .int .i64 n, .int .i64 w] (.bool ((s.all fun x => decide ((x.length : Int) = w)) && decide ((s.length : Int) = n))) [] := by
 have hlen := z0d s
 refine z01 z0A 1 rfl Tryz.func149 rfl rfl rfl ?_
 repeat ((try conv => whnf); first | (refine Exists.intro s.length (And.intro hlen ?_)) | (refine stpQ ?_))
 refine z1L Nat (fun k => ⟨[(0, .sl 1 (strE s)), (1, .int .i64 n), (2, .int .i64 w), (9, .sl 1 (strE s)), (10, .int .i64 (s.length : Int)), (11, .int .i64 (k : Int))], [], 2⟩) (fun k => k ≤ s.length ∧ z9J s w k = true) (fun k => s.length - k) 0 ⟨by omega, rfl⟩ ?_ ?_
 ·(refine z02 (by rfl) ?_ ?_) <;> repeat' (first | (exact eqA) | (refine shE ?_) | (refine And.intro ?_ ?_))
 ·intro k hkk
  have hk := hkk.1
  have hp := hkk.2
  by_cases hlt : k < s.length
  ·by_cases hq : ((pAt s k).length : Int) = w
   ·have hnx := zaT (w := w) hlt
    rw [hp, decide_eq_true hq] at hnx
    repeat ((try conv => whnf); first | (refine i_at (z0v hlt) ?_) | (refine z0F hq ?_) | (refine stpQ ?_))
    refine ⟨k + 1, ⟨by omega, hnx⟩, by omega, ?_⟩
    (refine z02 (by rfl) ?_ ?_) <;> repeat' (first | (exact eqA) | (refine shE ?_) | (refine And.intro ?_ ?_))
   ·rw [zdo hlt hq]
    repeat ((try conv => whnf); first | (refine i_at (z0v hlt) ?_) | (refine z2y hq ?_) | (refine stpQ ?_))
    (refine z00 (by rfl) ?_ ?_ (by rfl)) <;> (repeat' (first | (exact eqA) | (refine shE ?_) | (refine And.intro ?_ ?_))) <;> rfl
  ·have hke : k = s.length := by omega
   have hall : (s.all fun x => decide ((x.length : Int) = w)) = true := by rw [hke, z9J, List.take_length] at hp; exact hp
   rw [hall]
   repeat ((try conv => whnf); first | (refine Exists.intro s.length (And.intro hlen ?_)) | (refine stpQ ?_))
   (refine z00 (by rfl) ?_ ?_ (by rfl)) <;> (repeat' (first | (exact eqA) | (refine shE ?_) | (refine And.intro ?_ ?_))) <;> (rw [Bool.true_and])
def z3i (s : List Bs) (k : Nat) : Bs := (s.take k).flatten
theorem z6q {s : List Bs} {k : Nat} (h : k < s.length) : z3i s (k + 1) = z3i s k ++ pAt s k := by
 have : s.take (k + 1) = s.take k ++ [pAt s k] := by
  rw [List.take_add_one, List.getElem?_eq_getElem h]; simp [pAt, List.getD, List.getElem?_eq_getElem h]
 simp [z3i, this]
theorem z7B {s : List Bs} (h : ∀ x ∈ s, x.length ≤ 200) : ∀ k, (z3i s k).length ≤ 200 * k
 | 0 => by simp [z3i]
 | k + 1 => by
   have ih := z7B h k
   rcases Nat.lt_or_ge k s.length with hk | hk
   ·rw [z6q hk, List.length_append]
    have : (pAt s k).length ≤ 200 := by simp only [pAt, List.getD, List.getElem?_eq_getElem hk, Option.getD_some]; exact h _ (List.getElem_mem hk)
    omega
   ·have : z3i s (k + 1) = z3i s k := by unfold z3i; rw [List.take_of_length_le (by omega), List.take_of_length_le hk]
    rw [this]; omega
theorem z8E (s : List Bs) (hs : (s.length : Int) ≤ 1000000) (h : ∀ x ∈ s, x.length ≤ 200) : CT Tryz.prog 154 [] [.sl 1 (strE s)] (.str s.flatten) [] := by
 have hlen := z0d s
 refine z01 z0A 1 rfl Tryz.func154 rfl rfl rfl ?_
 repeat ((try conv => whnf); first | (refine Exists.intro s.length (And.intro hlen ?_)) | (refine stpQ ?_))
 refine z0i 0 ⟨[(3, .str s.flatten)], [], 2⟩ Nat (fun k => ⟨[(3, .str (z3i s k)), (6, .sl 1 (strE s)), (7, .int .i64 (s.length : Int)), (8, .int .i64 (k : Int))], [], 2⟩) (fun k => k ≤ s.length) (fun k => s.length - k) 0 (by omega) ?_ ?_ ?_
 ·(refine z02 (by rfl) ?_ ?_) <;> (repeat' (first | (exact eqA) | (refine shE ?_) | (refine And.intro ?_ ?_))) <;> rfl
 ·intro k hk
  by_cases hlt : k < s.length
  ·have hnx := z6q hlt
   have hj := z7B h k
   have hp : (pAt s k).length ≤ 200 := by simp only [pAt, List.getD, List.getElem?_eq_getElem hlt, Option.getD_some]; exact h _ (List.getElem_mem hlt)
   generalize z3i s k = o at hnx hj ⊢
   repeat ((try conv => whnf); first | (refine i_at (z0v hlt) ?_) | (refine stpQ ?_))
   refine ⟨k + 1, by omega, by omega, ?_⟩
   rw [hnx]
   (refine z02 (by rfl) ?_ ?_) <;> (repeat' (first | (exact eqA) | (refine shE ?_) | (refine And.intro ?_ ?_)))
  ·have hke : k = s.length := by omega
   rw [hke, z3i, List.take_length]
   repeat ((try conv => whnf); first | (refine stpQ ?_))
   (refine z02 (by rfl) ?_ ?_) <;> (repeat' (first | (exact eqA) | (refine shE ?_) | (refine And.intro ?_ ?_)))
 ·repeat ((try conv => whnf); first | (refine stpQ ?_))
  (refine z00 (by rfl) ?_ ?_ (by rfl)) <;> (repeat' (first | (exact eqA) | (refine shE ?_) | (refine And.intro ?_ ?_)))
end Go.Proofs.YtkjjacndfieeoaaGreatDoor
namespace Go.Proofs.YtkjjacndfieeoaaGreatDoor
set_option linter.unusedVariables false
set_option linter.unusedSimpArgs false
set_option linter.unusedSectionVars false
open Go.RowKit Pl
attribute [local irreducible] z0m z0n z0q AnsP LeP
theorem zfm (s : List Bs) (w : Int) (hs : (s.length : Int) ≤ 1000000) : CT Tryz.prog 149 [] [.sl 1 (strE s), .int .i64 (s.length : Int), .int .i64 w] (.bool (s.all fun x => decide ((x.length : Int) = w))) [] := by
 have := z1t s (s.length : Int) w (by omega)
 rwa [decide_eq_true rfl, Bool.and_true] at this
def pfGood (nm : Bs) (l : List Lf) (s : List Bs) (w : Int) : Bool :=
 z4V nm && (z0C l && (decide (s.length ≤ 8) && (inB w 1 32 && ((s.all fun x => decide ((x.length : Int) = w)) && decide ((ziI l (ixB nm : Int)).length = l.length)))))
theorem zfn : ∀ a < 256, bits .and .i64 ((a : Nat) : Int) 1 = ((a % 2 : Nat) : Int) := by decide +kernel
set_option maxRecDepth 100000 in
set_option maxHeartbeats 1000000 in
theorem ziN (ix j : Nat) (hix : ix < 256) (hj : j < 8) : CT Tryz.prog 152 [] [.int .i64 (ix : Int), .int .i64 (7 - (j : Int))] (.int .i64 ((bitB ix j : Nat) : Int)) [] := by
 have c1 : CT Tryz.prog 28 [] [.int .i64 (7 - (j : Int)), .int .i64 0, .int .i64 7] (.bool true) [] := by
  have := c_in (7 - (j : Int)) 0 7
  rwa [z0u.2 (by omega)] at this
 have e1 : IntKind.i64.wrap (7 - (7 - (j : Int))) = ((j : Nat) : Int) := by rw [wrap_i64 (by omega) (by omega)]; omega
 have e2 := zfj ix j
 have e3 := zfn (ix / 2 ^ j) (zhU hix hj).2.2
 unfold bitB
 refine z01 z0A 1 rfl Tryz.func152 rfl rfl rfl ?_
 repeat ((try conv => whnf); first | (refine ccA ([]) (c1) ?_) | (refine Exists.intro _ (And.intro e1.symm ?_)) | (refine And.intro (show _ ≤ (64 : Int) from by omega) ?_) | (refine Exists.intro _ (And.intro e2.symm ?_)) | (refine Exists.intro _ (And.intro e3.symm ?_)) | (refine stpQ ?_))
 (refine z00 (by rfl) ?_ ?_ (by rfl)) <;> (repeat' (first | (exact eqA) | (refine shE ?_) | (refine And.intro ?_ ?_)))
def FdAt (R : List Bs × Bs) (ix w : Nat) (T : List Bs) (j : Nat) (h : Bs) (rest : List Bs) : Prop := R = (T ++ (z2G ix w j h rest).1, (z2G ix w j h rest).2)
theorem FdAt.step {R : List Bs × Bs} {ix w : Nat} {T : List Bs} {j : Nat} {h s : Bs} {rest : List Bs} (hR : FdAt R ix w T j h (s :: rest)) : FdAt R ix w (T ++ [tagB 3 (zaN ix j h s)]) (j + 1) (cutB (tagB 3 (zaN ix j h s)) w) rest := by
 unfold FdAt at hR ⊢; rw [hR]; simp [z2G]
theorem FdAt.done {R : List Bs × Bs} {ix w : Nat} {T : List Bs} {j : Nat} {h : Bs} (hR : FdAt R ix w T j h []) : R = (T, h) := by
 unfold FdAt at hR; rw [hR]; simp [z2G]
end Go.Proofs.YtkjjacndfieeoaaGreatDoor
namespace Go.Proofs.YtkjjacndfieeoaaGreatDoor
set_option maxRecDepth 100000
set_option maxHeartbeats 2000000
set_option linter.unusedVariables false
set_option linter.unusedSimpArgs false
set_option linter.unusedSectionVars false
open Go.RowKit Pl
attribute [local irreducible] z0m z0n z0q AnsP LeP
theorem zfk (t : Bs) (w : Nat) (ht : (t.length : Int) ≤ 100000000) (hw : 1 ≤ w ∧ w ≤ 32) : CT Tryz.prog 14 [] [.str t, .int .i64 (w : Int)] (.str (cutB t w)) [] := by
 have c1 := z0U (w : Int) 1 32
 rw [z0u.2 (by omega)] at c1
 have c2 := zcl t ht
 have hl := z1s t
 unfold cutB
 generalize z1c t = d at c2 hl ⊢
 refine z01 z0A 1 rfl Tryz.func14 rfl rfl rfl ?_
 repeat ((try conv => whnf); first | (refine ccA ([]) (c1) ?_) | (refine ccA ([]) (c2) ?_) | (refine stpQ ?_))
 (refine z00 (by rfl) ?_ ?_ (by rfl)) <;> (repeat' (first | (exact eqA) | (refine shE ?_) | (refine And.intro ?_ ?_)))
theorem zdp (k : Nat) (ps : List Bs) (hk : 1 ≤ k ∧ k ≤ 8) (hp : z0Q ps) : CT Tryz.prog 121 [] [.int .i64 (k : Int), .sl 1 (strE ps)] (.tup [.str (tagB k ps), .bool true]) [] := by
 have hlen := z0d ps
 have hl60 := hp.1
 have c1 : CT Tryz.prog 42 [] [.int .i64 (k : Int), .int .i64 1, .int .i64 8] (.bool true) [] := by
  have := z0U (k : Int) 1 8
  rwa [z0u.2 (by omega)] at this
 rw [← z6o]
 refine z01 z0A 1 rfl Tryz.func121 rfl rfl rfl ?_
 repeat ((try conv => whnf); first | (refine ccA ([]) (c1) ?_) | (refine Exists.intro ps.length (And.intro hlen ?_)) | (refine w_u8 ?_) | (refine Exists.intro [UInt8.ofNat k] (And.intro rfl ?_)) | (refine stpQ ?_))
 refine z0i 0 ⟨[(6, .str (z2p k ps ps.length))], [], 2⟩ Nat (fun i => ⟨[(1, .sl 1 (strE ps)), (6, .str (z2p k ps i)), (7, .int .i64 (i : Int))], [], 2⟩) (fun i => i ≤ ps.length) (fun i => ps.length - i) 0 (by omega) ?_ ?_ ?_
 ·(refine z02 (by rfl) ?_ ?_) <;> (repeat' (first | (exact eqA) | (refine shE ?_) | (refine And.intro ?_ ?_))) <;> first | rfl | decide
 ·intro i hi
  by_cases hlt : i < ps.length
  ·have hnx := z2H (k := k) hlt
   have hw := z2l (k := k) hp i
   have hpl := z9I hp i
   have cs := z7w (pAt ps i).length (by omega)
   have hvl := z5n (n := (pAt ps i).length) (by omega)
   generalize z2p k ps i = o at hnx hw ⊢
   have hsh : z0p (pAt ps i) = z0e (pAt ps i).length ++ pAt ps i := rfl
   rw [hsh] at hnx
   generalize z0e (pAt ps i).length = v at cs hvl hnx
   repeat ((try conv => whnf); first | (refine Exists.intro ps.length (And.intro hlen ?_)) | (refine i_at (z0v hlt) ?_) | (refine ccA ([]) (cs) ?_) | (refine And.intro (by rw [List.length_append]; omega) ?_) | (refine And.intro (by kernel_rfl) ?_) | (refine stpQ ?_))
   refine ⟨i + 1, by omega, by omega, ?_⟩
   rw [hnx]
   (refine z02 (by rfl) ?_ ?_) <;> (repeat' (first | (exact eqA) | (refine shE ?_) | (refine And.intro ?_ ?_)))
   rw [List.append_assoc]
  ·have hie : i = ps.length := by omega
   rw [hie]
   repeat ((try conv => whnf); first | (refine Exists.intro ps.length (And.intro hlen ?_)) | (refine stpQ ?_))
   (refine z02 (by rfl) ?_ ?_) <;> (repeat' (first | (exact eqA) | (refine shE ?_) | (refine And.intro ?_ ?_)))
 ·repeat ((try conv => whnf); first | (refine stpQ ?_))
  (refine z00 (by rfl) ?_ ?_ (by rfl)) <;> (repeat' (first | (exact eqA) | (refine shE ?_) | (refine And.intro ?_ ?_)))
theorem z1b (k : Nat) (ps : List Bs) (w : Nat) (hk : 1 ≤ k ∧ k ≤ 8) (hp : z0Q ps) (hw : 1 ≤ w ∧ w ≤ 32) : CT Tryz.prog 83 [] [.int .i64 (k : Int), .sl 1 (strE ps), .int .i64 (w : Int)] (.str (z1a k ps w)) [] := by
 have c1 := zdp k ps hk hp
 have hl := zcp (k := k) hp
 have c2 := zfk (tagB k ps) w (by omega) hw
 unfold z1a
 generalize tagB k ps = t at c1 c2 hl ⊢
 refine z01 z0A 1 rfl Tryz.func83 rfl rfl rfl ?_
 repeat ((try conv => whnf); first | (refine ccA ([]) (c1) ?_) | (refine ccA ([]) (c2) ?_) | (refine stpQ ?_))
 (refine z00 (by rfl) ?_ ?_ (by rfl)) <;> (repeat' (first | (exact eqA) | (refine shE ?_) | (refine And.intro ?_ ?_)))
end Go.Proofs.YtkjjacndfieeoaaGreatDoor
namespace Go.Proofs.YtkjjacndfieeoaaGreatDoor
set_option linter.unusedVariables false
set_option linter.unusedSimpArgs false
set_option linter.unusedSectionVars false
open Go.RowKit Pl
attribute [local irreducible] z0m z0n z0q AnsP LeP
theorem zfl {d : Nat} (h : d ≤ 8) : IntKind.u64.wrap ((d : Nat) : Int) = ((d : Nat) : Int) := by rw [IntKind.wrap_u64]; omega
set_option maxRecDepth 100000 in
set_option maxHeartbeats 1000000 in
theorem zaU (l m : List Bs) (hl : (l.length : Int) ≤ 100000000) (hm : (m.length : Int) ≤ 100000000) : CT Tryz.prog 45 [] [.sl 1 (strE l), .sl 1 (strE m)] (.bool (decide (l = m))) [] := by
 have hll := z0d l
 have hlm := z0d m
 refine z01 z0A 1 rfl Tryz.func45 rfl rfl rfl ?_
 by_cases hn : l.length = m.length
 ·repeat ((try conv => whnf); first | (refine Exists.intro l.length (And.intro hll ?_)) | (refine Exists.intro m.length (And.intro hlm ?_)) | (refine stpQ ?_))
  refine z1L Nat (fun k => ⟨[(0, .sl 1 (strE l)), (1, .sl 1 (strE m)), (5, .int .i64 (k : Int))], [], 2⟩) (fun k => k ≤ l.length ∧ l.take k = m.take k) (fun k => l.length - k) 0 ⟨by omega, rfl⟩ ?_ ?_
  ·(refine z02 (by rfl) ?_ ?_) <;> repeat' (first | (exact eqA) | (refine shE ?_) | (refine And.intro ?_ ?_))
  ·intro k hkk
   have hk := hkk.1
   have hp := hkk.2
   by_cases hlt : k < l.length
   ·have hlt2 : k < m.length := by omega
    by_cases hq : pAt l k = pAt m k
    ·have hnx : l.take (k + 1) = m.take (k + 1) := by
      rw [List.take_add_one, List.take_add_one, hp, List.getElem?_eq_getElem hlt, List.getElem?_eq_getElem hlt2]
      simp only [pAt, List.getD, List.getElem?_eq_getElem hlt, List.getElem?_eq_getElem hlt2, Option.getD_some] at hq
      rw [hq]
     repeat ((try conv => whnf); first | (refine Exists.intro l.length (And.intro hll ?_)) | (refine i_at (z0v hlt) ?_) | (refine i_at (z0v hlt2) ?_) | (refine z0F hq ?_) | (refine And.intro (by kernel_rfl) ?_) | (refine stpQ ?_))
     refine ⟨k + 1, ⟨by omega, hnx⟩, by omega, ?_⟩
     (refine z02 (by rfl) ?_ ?_) <;> repeat' (first | (exact eqA) | (refine shE ?_) | (refine And.intro ?_ ?_))
    ·have hne : ¬ l = m := fun h0 => hq (by rw [h0])
     rw [decide_eq_false hne]
     repeat ((try conv => whnf); first | (refine Exists.intro l.length (And.intro hll ?_)) | (refine i_at (z0v hlt) ?_) | (refine i_at (z0v hlt2) ?_) | (refine z2y hq ?_) | (refine And.intro (by kernel_rfl) ?_) | (refine stpQ ?_))
     (refine z00 (by rfl) ?_ ?_ (by rfl)) <;> repeat' (first | (exact eqA) | (refine shE ?_) | (refine And.intro ?_ ?_))
   ·have he : l = m := by
     rw [List.take_of_length_le (by omega), List.take_of_length_le (by omega)] at hp; exact hp
    rw [decide_eq_true he]
    repeat ((try conv => whnf); first | (refine Exists.intro l.length (And.intro hll ?_)) | (refine stpQ ?_))
    (refine z00 (by rfl) ?_ ?_ (by rfl)) <;> repeat' (first | (exact eqA) | (refine shE ?_) | (refine And.intro ?_ ?_))
 ·have hne : ¬ l = m := fun h0 => hn (by rw [h0])
  rw [decide_eq_false hne]
  repeat ((try conv => whnf); first | (refine Exists.intro l.length (And.intro hll ?_)) | (refine Exists.intro m.length (And.intro hlm ?_)) | (refine stpQ ?_))
  (refine z00 (by rfl) ?_ ?_ (by rfl)) <;> repeat' (first | (exact eqA) | (refine shE ?_) | (refine And.intro ?_ ?_))
end Go.Proofs.YtkjjacndfieeoaaGreatDoor
namespace Go.Proofs.YtkjjacndfieeoaaGreatDoor
set_option linter.unusedVariables false
set_option linter.unusedSimpArgs false
set_option linter.unusedSectionVars false
open Go.RowKit Pl
attribute [local irreducible] z0m z0n z0q AnsP LeP
structure PfSz (nm : Bs) (l : List Lf) (s : List Bs) : Prop where
 nm : nm.length ≤ 20
 len : l.length ≤ 30
 lv : ∀ x ∈ l, x.1.length ≤ 20 ∧ x.2.length ≤ 20
 sl : s.length ≤ 30
 sw : ∀ x ∈ s, x.length ≤ 40
theorem PfSz.at {nm : Bs} {l : List Lf} {s : List Bs} (h : PfSz nm l s) (k : Nat) : (lfAt l k).1.length ≤ 20 ∧ (lfAt l k).2.length ≤ 20 := by
 unfold lfAt
 rcases Nat.lt_or_ge k l.length with hk | hk
 ·simp only [List.getD, List.getElem?_eq_getElem hk, Option.getD_some]
  exact h.lv _ (List.getElem_mem hk)
 ·simp [List.getD, List.getElem?_eq_none hk]
theorem PfSz.fit {nm : Bs} {l : List Lf} {s : List Bs} (h : PfSz nm l s) : Fit l := fun i => by have := h.at i; omega
set_option maxRecDepth 100000 in
set_option maxHeartbeats 1000000 in
theorem zgX (ix j : Nat) (hix : ix < 256) (hj : j < 8) : CT Tryz.prog 87 [] [.int .i64 (ix : Int), .int .i64 (7 - (j : Int))] (.int .i64 ((bitB ix j : Nat) : Int)) [] := by
 have c1 : CT Tryz.prog 42 [] [.int .i64 (7 - (j : Int)), .int .i64 0, .int .i64 7] (.bool true) [] := by
  have := z0U (7 - (j : Int)) 0 7
  rwa [z0u.2 (by omega)] at this
 have e1 : IntKind.i64.wrap (7 - (7 - (j : Int))) = ((j : Nat) : Int) := by rw [wrap_i64 (by omega) (by omega)]; omega
 have e1u := zfl (show j ≤ 8 by omega)
 have e2 := zfj ix j
 have e3 := zfn (ix / 2 ^ j) (zhU hix hj).2.2
 unfold bitB
 refine z01 z0A 1 rfl Tryz.func87 rfl rfl rfl ?_
 repeat ((try conv => whnf); first | (refine ccA ([]) (c1) ?_) | (refine Exists.intro _ (And.intro e1.symm ?_)) | (refine Exists.intro _ (And.intro e1u.symm ?_)) | (refine And.intro (show _ ≤ (64 : Int) from by omega) ?_) | (refine Exists.intro _ (And.intro e2.symm ?_)) | (refine Exists.intro _ (And.intro e3.symm ?_)) | (refine stpQ ?_))
 (refine z00 (by rfl) ?_ ?_ (by rfl)) <;> (repeat' (first | (exact eqA) | (refine shE ?_) | (refine And.intro ?_ ?_)))
end Go.Proofs.YtkjjacndfieeoaaGreatDoor
namespace Go.Proofs.YtkjjacndfieeoaaGreatDoor
set_option linter.unusedVariables false
set_option linter.unusedSimpArgs false
set_option linter.unusedSectionVars false
open Go.RowKit Pl
attribute [local irreducible] z0m z0n z0q AnsP LeP
end Go.Proofs.YtkjjacndfieeoaaGreatDoor
namespace Go.Proofs.YtkjjacndfieeoaaGreatDoor
set_option linter.unusedVariables false
set_option linter.unusedSimpArgs false
set_option linter.unusedSectionVars false
open Go.RowKit Pl
attribute [local irreducible] z0m z0n z0q AnsP LeP
end Go.Proofs.YtkjjacndfieeoaaGreatDoor
