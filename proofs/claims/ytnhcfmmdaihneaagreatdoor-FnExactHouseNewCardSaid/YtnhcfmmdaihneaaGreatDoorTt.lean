/- Functions by content: texts with a purpose, cut digests, hashes of what is empty, buckets. Functions by content: the program's tree: places and sides. Functions by content: the program's proofs. Functions by content: the program's proofs: written, judged, led up. Functions by content: the reference's tree. Functions by content: the reference's places and root. Functions by content: proofs of both sides, whatever they hold. Functions by content: the reference's texts of a proof. Functions by content: the reference's texts and hash of whatever proof. -/
import Derived.Test.YtnhcfmmdaihneaaGreatDoorHb
import Derived.Test.YtnhcfmmdaihneaaGreatDoorGg
import Derived.Test.YtnhcfmmdaihneaaGreatDoorPlainM
namespace Go.Proofs.YtnhcfmmdaihneaaGreatDoor
set_option maxRecDepth 100000
set_option maxHeartbeats 2000000
set_option linter.unusedVariables false
set_option linter.unusedSimpArgs false
set_option linter.unusedSectionVars false
open Go.RowKit Pl
attribute [local irreducible] z0w z0x z0A AnsP LeP
def z29 (ps : List Bs) : Prop := ps.length ≤ 60 ∧ ∀ p ∈ ps, p.length ≤ 200
def pAt (ps : List Bs) (k : Nat) : Bs := ps.getD k []
theorem zgT {ps : List Bs} (h : z29 ps) (k : Nat) : (pAt ps k).length ≤ 200 := by
 unfold pAt
 rcases Nat.lt_or_ge k ps.length with hk | hk
 ·simp only [List.getD, List.getElem?_eq_getElem hk, Option.getD_some]; exact h.2 _ (List.getElem_mem hk)
 ·simp [List.getD, List.getElem?_eq_none hk]
theorem z46 {ps : List Bs} {k : Nat} (h : k < ps.length) : (strE ps)[k]? = some [.str (pAt ps k)] := by
 simp [strE, pAt, List.getD, List.getElem?_eq_getElem h]
def z3H (k : Nat) (ps : List Bs) (i : Nat) : Bs := UInt8.ofNat k :: (ps.take i).flatMap z0v
theorem z5J {k : Nat} {ps : List Bs} {i : Nat} (h : i < ps.length) : z3H k ps (i + 1) = z3H k ps i ++ z0v (pAt ps i) := by
 have : ps.take (i + 1) = ps.take i ++ [pAt ps i] := by
  rw [List.take_add_one, List.getElem?_eq_getElem h]; simp [pAt, List.getD, List.getElem?_eq_getElem h]
 rw [z3H, this]; simp [z3H]
theorem z3W {k : Nat} {ps : List Bs} (h : z29 ps) : ∀ i, (z3H k ps i).length ≤ 1 + 205 * i
 | 0 => by simp [z3H]
 | i + 1 => by
   rcases Nat.lt_or_ge i ps.length with hi | hi
   ·rw [z5J hi, List.length_append]
    have h1 := z3W (k := k) h i
    have h2 := zgT h i
    have h3 := z4L (l := pAt ps i) (by omega)
    omega
   ·have h1 := z3W (k := k) h i
    have : z3H k ps (i + 1) = z3H k ps i := by unfold z3H; rw [List.take_of_length_le (by omega), List.take_of_length_le hi]
    rw [this]; omega
theorem z7n (k : Nat) (ps : List Bs) : z3H k ps ps.length = tagB k ps := by rw [z3H, List.take_length]; rfl
theorem zdH {k : Nat} {ps : List Bs} (h : z29 ps) : (tagB k ps).length ≤ 12301 := by
 have h1 := z3W (k := k) h ps.length
 rw [z7n] at h1
 have := h.1; omega
theorem zgU (k : Nat) (ps : List Bs) (hk : 1 ≤ k ∧ k ≤ 8) (hp : z29 ps) : CT Tryz.prog 252 [] [.int .i64 (k : Int), .sl 1 (strE ps)] (.tup [.str (tagB k ps), .bool true]) [] := by
 have hlen := z0m ps
 have hl60 := hp.1
 have c1 : CT Tryz.prog 94 [] [.int .i64 (k : Int), .int .i64 1, .int .i64 8] (.bool true) [] := by
  have := c_in (k : Int) 1 8
  rwa [z0T.2 (by omega)] at this
 rw [← z7n]
 refine z01 z0L 1 rfl Tryz.func252 rfl rfl rfl ?_
 repeat ((try conv => whnf); first | (refine ccA ([]) (c1) ?_) | (refine Exists.intro ps.length (And.intro hlen ?_)) | (refine w_u8 ?_) | (refine stpQ ?_))
 refine z0n 0 ⟨[(6, .ref 1)], [(1, some (.row 1 (z0C (z3H k ps ps.length))))], 2⟩ Nat (fun i => ⟨[(6, .ref 1), (20, .sl 1 (strE ps)), (21, .int .i64 (ps.length : Int)), (22, .int .i64 (i : Int))], [(1, some (.row 1 (z0C (z3H k ps i))))], 2⟩) (fun i => i ≤ ps.length) (fun i => ps.length - i) 0 (by omega) ?_ ?_ ?_
 ·(refine z02 (by rfl) ?_ ?_) <;> (repeat' (first | (exact eqA) | (refine shE ?_) | (refine And.intro ?_ ?_))) <;> first | rfl | decide
 ·intro i hi
  by_cases hlt : i < ps.length
  ·have hnx := z5J (k := k) hlt
   have hw := z3W (k := k) hp i
   have hpl := zgT hp i
   have cs := zbO (pAt ps i) (by omega)
   have hsl := z4L (l := pAt ps i) (by omega)
   generalize z3H k ps i = o at hnx hw ⊢
   have hbl := z17 o
   have hb2 := z17 (z0v (pAt ps i))
   repeat ((try conv => whnf); first | (refine i_at (z46 hlt) ?_) | (refine ccA ([]) (cs) ?_) | (refine And.intro (by rw [List.length_append, hbl, hb2]; omega) ?_) | (refine stpQ ?_))
   refine ⟨i + 1, by omega, by omega, ?_⟩
   rw [hnx]
   (refine z02 (by rfl) ?_ ?_) <;> (repeat' (first | (exact eqA) | (refine shE ?_) | (refine And.intro ?_ ?_)))
   simp [z0C]
  ·have hie : i = ps.length := by omega
   rw [hie]
   repeat ((try conv => whnf); first | (refine stpQ ?_))
   (refine z02 (by rfl) ?_ ?_) <;> (repeat' (first | (exact eqA) | (refine shE ?_) | (refine And.intro ?_ ?_)))
 ·repeat ((try conv => whnf); first | (refine Exists.intro (z3H k ps ps.length) (And.intro rfl ?_)) | (refine stpQ ?_))
  (refine z00 (by rfl) ?_ ?_ (by rfl)) <;> (repeat' (first | (exact eqA) | (refine shE ?_) | (refine And.intro ?_ ?_)))
theorem c_CutD (t : Bs) (w : Nat) (ht : (t.length : Int) ≤ 100000000) (hw : 1 ≤ w ∧ w ≤ 32) : CT Tryz.prog 232 [] [.str t, .int .i64 (w : Int)] (.str (cutB t w)) [] := by
 have c1 := ziV (w : Int)
 rw [z0T.2 (by omega)] at c1
 have c2 := zaH t ht
 have hl := z2M t
 unfold cutB
 generalize z2L t = d at c2 hl ⊢
 refine z01 z0L 1 rfl Tryz.func232 rfl rfl rfl ?_
 repeat ((try conv => whnf); first | (refine ccA ([]) (c1) ?_) | (refine ccA ([]) (c2) ?_) | (refine stpQ ?_))
 (refine z00 (by rfl) ?_ ?_ (by rfl)) <;> (repeat' (first | (exact eqA) | (refine shE ?_) | (refine And.intro ?_ ?_)))
theorem zaK (k : Nat) (ps : List Bs) (w : Nat) (hk : 1 ≤ k ∧ k ≤ 8) (hp : z29 ps) (hw : 1 ≤ w ∧ w ≤ 32) : CT Tryz.prog 191 [] [.int .i64 (k : Int), .sl 1 (strE ps), .int .i64 (w : Int)] (.str (z2x k ps w)) [] := by
 have c1 := zgU k ps hk hp
 have hl := zdH (k := k) hp
 have c2 := c_CutD (tagB k ps) w (by omega) hw
 unfold z2x
 generalize tagB k ps = t at c1 c2 hl ⊢
 refine z01 z0L 1 rfl Tryz.func191 rfl rfl rfl ?_
 repeat ((try conv => whnf); first | (refine ccA ([]) (c1) ?_) | (refine ccA ([]) (c2) ?_) | (refine stpQ ?_))
 (refine z00 (by rfl) ?_ ?_ (by rfl)) <;> (repeat' (first | (exact eqA) | (refine shE ?_) | (refine And.intro ?_ ?_)))
theorem z9g (k : Nat) (ps : List Bs) (w : Nat) (hk : 1 ≤ k ∧ k ≤ 8) (hp : z29 ps) (hw : 1 ≤ w ∧ w ≤ 32) : CT Tryz.prog 171 [] [.int .i64 (k : Int), .int .i64 (w : Int), .sl 1 (strE ps)] (.str (z2x k ps w)) [] := by
 have c1 := zaK k ps w hk hp hw
 refine z01 z0L 1 rfl Tryz.func171 rfl rfl rfl ?_
 repeat ((try conv => whnf); first | (refine ccA ([]) (c1) ?_) | (refine stpQ ?_))
 (refine z00 (by rfl) ?_ ?_ (by rfl)) <;> (repeat' (first | (exact eqA) | (refine shE ?_) | (refine And.intro ?_ ?_)))
theorem zaL {a b : Bs} (ha : a.length ≤ 200) (hb : b.length ≤ 200) : z29 [a, b] := ⟨by simp, fun p h => by
 rcases List.mem_cons.1 h with rfl | h
 ·exact ha
 ·rw [List.mem_singleton.1 h]; exact hb⟩
theorem z6u (a b : List Bs) : strE (a ++ b) = strE a ++ strE b := by simp [strE]
end Go.Proofs.YtnhcfmmdaihneaaGreatDoor
namespace Go.Proofs.YtnhcfmmdaihneaaGreatDoor
set_option linter.unusedVariables false
set_option linter.unusedSimpArgs false
set_option linter.unusedSectionVars false
open Go.RowKit Pl
attribute [local irreducible] z0w z0x z0A AnsP LeP
end Go.Proofs.YtnhcfmmdaihneaaGreatDoor
namespace Go.Proofs.YtnhcfmmdaihneaaGreatDoor
set_option linter.unusedVariables false
set_option linter.unusedSimpArgs false
set_option linter.unusedSectionVars false
open Go.RowKit Pl
attribute [local irreducible] z0w z0x z0A AnsP LeP
def zaM (s : List Bs) (w : Int) (k : Nat) : Bool := (s.take k).all fun x => decide ((x.length : Int) = w)
theorem zc4 {s : List Bs} {w : Int} {k : Nat} (h : k < s.length) : zaM s w (k + 1) = (zaM s w k && decide (((pAt s k).length : Int) = w)) := by
 have : s.take (k + 1) = s.take k ++ [pAt s k] := by
  rw [List.take_add_one, List.getElem?_eq_getElem h]; simp [pAt, List.getD, List.getElem?_eq_getElem h]
 simp [zaM, this]
theorem zeO {s : List Bs} {w : Int} {k : Nat} (h : k < s.length) (hne : ¬ ((pAt s k).length : Int) = w) : (s.all fun x => decide ((x.length : Int) = w)) = false := by
 rw [List.all_eq_false]
 refine ⟨pAt s k, ?_, by simpa using hne⟩
 simp [pAt, List.getD, List.getElem?_eq_getElem h]
set_option maxRecDepth 100000 in
set_option maxHeartbeats 1000000 in
theorem z2a (s : List Bs) (n w : Int) (hs : (s.length : Int) ≤ 100000000) : CT Tryz.prog 168 [] [.sl 1 (strE s), .int .i64 n, .int .i64 w] (.bool ((s.all fun x => decide ((x.length : Int) = w)) && decide ((s.length : Int) = n))) [] := by
 have hlen := z0m s
 refine z01 z0L 1 rfl Tryz.func168 rfl rfl rfl ?_
 repeat ((try conv => whnf); first | (refine Exists.intro s.length (And.intro hlen ?_)) | (refine stpQ ?_))
 refine z0H Nat (fun k => ⟨[(0, .sl 1 (strE s)), (1, .int .i64 n), (2, .int .i64 w), (9, .sl 1 (strE s)), (10, .int .i64 (s.length : Int)), (11, .int .i64 (k : Int))], [], 2⟩) (fun k => k ≤ s.length ∧ zaM s w k = true) (fun k => s.length - k) 0 ⟨by omega, rfl⟩ ?_ ?_
 ·(refine z02 (by rfl) ?_ ?_) <;> repeat' (first | (exact eqA) | (refine shE ?_) | (refine And.intro ?_ ?_))
 ·intro k hkk
  have hk := hkk.1
  have hp := hkk.2
  by_cases hlt : k < s.length
  ·by_cases hq : ((pAt s k).length : Int) = w
   ·have hnx := zc4 (w := w) hlt
    rw [hp, decide_eq_true hq] at hnx
    repeat ((try conv => whnf); first | (refine i_at (z46 hlt) ?_) | (refine z0S hq ?_) | (refine stpQ ?_))
    refine ⟨k + 1, ⟨by omega, hnx⟩, by omega, ?_⟩
    (refine z02 (by rfl) ?_ ?_) <;> repeat' (first | (exact eqA) | (refine shE ?_) | (refine And.intro ?_ ?_))
   ·rw [zeO hlt hq]
    repeat ((try conv => whnf); first | (refine i_at (z46 hlt) ?_) | (refine z4Z hq ?_) | (refine stpQ ?_))
    (refine z00 (by rfl) ?_ ?_ (by rfl)) <;> (repeat' (first | (exact eqA) | (refine shE ?_) | (refine And.intro ?_ ?_))) <;> rfl
  ·have hke : k = s.length := by omega
   have hall : (s.all fun x => decide ((x.length : Int) = w)) = true := by rw [hke, zaM, List.take_length] at hp; exact hp
   rw [hall]
   repeat ((try conv => whnf); first | (refine Exists.intro s.length (And.intro hlen ?_)) | (refine stpQ ?_))
   (refine z00 (by rfl) ?_ ?_ (by rfl)) <;> (repeat' (first | (exact eqA) | (refine shE ?_) | (refine And.intro ?_ ?_))) <;> (rw [Bool.true_and])
end Go.Proofs.YtnhcfmmdaihneaaGreatDoor
namespace Go.Proofs.YtnhcfmmdaihneaaGreatDoor
set_option linter.unusedVariables false
set_option linter.unusedSimpArgs false
set_option linter.unusedSectionVars false
open Go.RowKit Pl
attribute [local irreducible] z0w z0x z0A AnsP LeP
def pfGood (nm : Bs) (l : List Lf) (s : List Bs) (w : Int) : Bool :=
 z1j nm && (z0k l && (decide (s.length ≤ 8) && (inB w 1 32 && ((s.all fun x => decide ((x.length : Int) = w)) && decide ((zkX l (ixB nm : Int)).length = l.length)))))
def FdAt (R : List Bs × Bs) (ix w : Nat) (T : List Bs) (j : Nat) (h : Bs) (rest : List Bs) : Prop := R = (T ++ (zbW ix w j h rest).1, (zbW ix w j h rest).2)
theorem FdAt.step {R : List Bs × Bs} {ix w : Nat} {T : List Bs} {j : Nat} {h s : Bs} {rest : List Bs} (hR : FdAt R ix w T j h (s :: rest)) : FdAt R ix w (T ++ [tagB 3 (zkN ix j h s)]) (j + 1) (cutB (tagB 3 (zkN ix j h s)) w) rest := by
 unfold FdAt at hR ⊢; rw [hR]; simp [zbW]
theorem FdAt.done {R : List Bs × Bs} {ix w : Nat} {T : List Bs} {j : Nat} {h : Bs} (hR : FdAt R ix w T j h []) : R = (T, h) := by
 unfold FdAt at hR; rw [hR]; simp [zbW]
end Go.Proofs.YtnhcfmmdaihneaaGreatDoor
namespace Go.Proofs.YtnhcfmmdaihneaaGreatDoor
set_option maxRecDepth 100000
set_option maxHeartbeats 2000000
set_option linter.unusedVariables false
set_option linter.unusedSimpArgs false
set_option linter.unusedSectionVars false
open Go.RowKit Pl
attribute [local irreducible] z0w z0x z0A AnsP LeP
theorem zkY (t : Bs) (w : Nat) (ht : (t.length : Int) ≤ 100000000) (hw : 1 ≤ w ∧ w ≤ 32) : CT Tryz.prog 224 [] [.str t, .int .i64 (w : Int)] (.str (cutB t w)) [] := by
 have c1 := z1B (w : Int) 1 32
 rw [z0T.2 (by omega)] at c1
 have c2 := zdE t ht
 have hl := z2M t
 unfold cutB
 generalize z2L t = d at c2 hl ⊢
 refine z01 z0L 1 rfl Tryz.func224 rfl rfl rfl ?_
 repeat ((try conv => whnf); first | (refine ccA ([]) (c1) ?_) | (refine ccA ([]) (c2) ?_) | (refine stpQ ?_))
 (refine z00 (by rfl) ?_ ?_ (by rfl)) <;> (repeat' (first | (exact eqA) | (refine shE ?_) | (refine And.intro ?_ ?_)))
theorem zeP (k : Nat) (ps : List Bs) (hk : 1 ≤ k ∧ k ≤ 8) (hp : z29 ps) : CT Tryz.prog 225 [] [.int .i64 (k : Int), .sl 1 (strE ps)] (.tup [.str (tagB k ps), .bool true]) [] := by
 have hlen := z0m ps
 have hl60 := hp.1
 have c1 : CT Tryz.prog 84 [] [.int .i64 (k : Int), .int .i64 1, .int .i64 8] (.bool true) [] := by
  have := z1B (k : Int) 1 8
  rwa [z0T.2 (by omega)] at this
 rw [← z7n]
 refine z01 z0L 1 rfl Tryz.func225 rfl rfl rfl ?_
 repeat ((try conv => whnf); first | (refine ccA ([]) (c1) ?_) | (refine Exists.intro ps.length (And.intro hlen ?_)) | (refine w_u8 ?_) | (refine Exists.intro [UInt8.ofNat k] (And.intro rfl ?_)) | (refine stpQ ?_))
 refine z0n 0 ⟨[(6, .str (z3H k ps ps.length))], [], 2⟩ Nat (fun i => ⟨[(1, .sl 1 (strE ps)), (6, .str (z3H k ps i)), (7, .int .i64 (i : Int))], [], 2⟩) (fun i => i ≤ ps.length) (fun i => ps.length - i) 0 (by omega) ?_ ?_ ?_
 ·(refine z02 (by rfl) ?_ ?_) <;> (repeat' (first | (exact eqA) | (refine shE ?_) | (refine And.intro ?_ ?_))) <;> first | rfl | decide
 ·intro i hi
  by_cases hlt : i < ps.length
  ·have hnx := z5J (k := k) hlt
   have hw := z3W (k := k) hp i
   have hpl := zgT hp i
   have cs := zgF (pAt ps i).length (by omega)
   have hvl := z95 (n := (pAt ps i).length) (by omega)
   generalize z3H k ps i = o at hnx hw ⊢
   have hsh : z0v (pAt ps i) = z0r (pAt ps i).length ++ pAt ps i := rfl
   rw [hsh] at hnx
   generalize z0r (pAt ps i).length = v at cs hvl hnx
   repeat ((try conv => whnf); first | (refine Exists.intro ps.length (And.intro hlen ?_)) | (refine i_at (z46 hlt) ?_) | (refine ccA ([]) (cs) ?_) | (refine And.intro (by rw [List.length_append]; omega) ?_) | (refine And.intro (by kernel_rfl) ?_) | (refine stpQ ?_))
   refine ⟨i + 1, by omega, by omega, ?_⟩
   rw [hnx]
   (refine z02 (by rfl) ?_ ?_) <;> (repeat' (first | (exact eqA) | (refine shE ?_) | (refine And.intro ?_ ?_)))
   rw [List.append_assoc]
  ·have hie : i = ps.length := by omega
   rw [hie]
   repeat ((try conv => whnf); first | (refine Exists.intro ps.length (And.intro hlen ?_)) | (refine stpQ ?_))
   (refine z02 (by rfl) ?_ ?_) <;> (repeat' (first | (exact eqA) | (refine shE ?_) | (refine And.intro ?_ ?_)))
 ·repeat ((try conv => whnf); first | (refine stpQ ?_))
  (refine z00 (by rfl) ?_ ?_ (by rfl)) <;> (repeat' (first | (exact eqA) | (refine shE ?_) | (refine And.intro ?_ ?_)))
theorem z47 (k : Nat) (ps : List Bs) (w : Nat) (hk : 1 ≤ k ∧ k ≤ 8) (hp : z29 ps) (hw : 1 ≤ w ∧ w ≤ 32) : CT Tryz.prog 163 [] [.int .i64 (k : Int), .sl 1 (strE ps), .int .i64 (w : Int)] (.str (z2x k ps w)) [] := by
 have c1 := zeP k ps hk hp
 have hl := zdH (k := k) hp
 have c2 := zkY (tagB k ps) w (by omega) hw
 unfold z2x
 generalize tagB k ps = t at c1 c2 hl ⊢
 refine z01 z0L 1 rfl Tryz.func163 rfl rfl rfl ?_
 repeat ((try conv => whnf); first | (refine ccA ([]) (c1) ?_) | (refine ccA ([]) (c2) ?_) | (refine stpQ ?_))
 (refine z00 (by rfl) ?_ ?_ (by rfl)) <;> (repeat' (first | (exact eqA) | (refine shE ?_) | (refine And.intro ?_ ?_)))
end Go.Proofs.YtnhcfmmdaihneaaGreatDoor
namespace Go.Proofs.YtnhcfmmdaihneaaGreatDoor
set_option linter.unusedVariables false
set_option linter.unusedSimpArgs false
set_option linter.unusedSectionVars false
open Go.RowKit Pl
attribute [local irreducible] z0w z0x z0A AnsP LeP
end Go.Proofs.YtnhcfmmdaihneaaGreatDoor
namespace Go.Proofs.YtnhcfmmdaihneaaGreatDoor
set_option linter.unusedVariables false
set_option linter.unusedSimpArgs false
set_option linter.unusedSectionVars false
open Go.RowKit Pl
attribute [local irreducible] z0w z0x z0A AnsP LeP
structure PfSz (nm : Bs) (l : List Lf) (s : List Bs) : Prop where
 nm : nm.length ≤ 20
 len : l.length ≤ 30
 lv : ∀ x ∈ l, x.1.length ≤ 20 ∧ x.2.length ≤ 20
 sl : s.length ≤ 30
 sw : ∀ x ∈ s, x.length ≤ 40
theorem PfSz.at {nm : Bs} {l : List Lf} {s : List Bs} (h : PfSz nm l s) (k : Nat) : (lfAt l k).1.length ≤ 20 ∧ (lfAt l k).2.length ≤ 20 := by
 unfold lfAt
 rcases Nat.lt_or_ge k l.length with hk | hk
 ·simp only [List.getD, List.getElem?_eq_getElem hk, Option.getD_some]
  exact h.lv _ (List.getElem_mem hk)
 ·simp [List.getD, List.getElem?_eq_none hk]
theorem PfSz.fit {nm : Bs} {l : List Lf} {s : List Bs} (h : PfSz nm l s) : Fit l := fun i => by have := h.at i; omega
end Go.Proofs.YtnhcfmmdaihneaaGreatDoor
namespace Go.Proofs.YtnhcfmmdaihneaaGreatDoor
set_option linter.unusedVariables false
set_option linter.unusedSimpArgs false
set_option linter.unusedSectionVars false
open Go.RowKit Pl
attribute [local irreducible] z0w z0x z0A AnsP LeP
end Go.Proofs.YtnhcfmmdaihneaaGreatDoor
namespace Go.Proofs.YtnhcfmmdaihneaaGreatDoor
set_option linter.unusedVariables false
set_option linter.unusedSimpArgs false
set_option linter.unusedSectionVars false
open Go.RowKit Pl
attribute [local irreducible] z0w z0x z0A AnsP LeP
end Go.Proofs.YtnhcfmmdaihneaaGreatDoor
