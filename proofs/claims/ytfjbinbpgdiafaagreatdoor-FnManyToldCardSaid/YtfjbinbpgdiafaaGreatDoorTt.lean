/- Functions by content: texts with a purpose, cut digests, hashes of what is empty, buckets. Functions by content: the program's tree: places and sides. Functions by content: the program's proofs. Functions by content: the program's proofs: written, judged, led up. Functions by content: the reference's tree. Functions by content: the reference's places and root. Functions by content: proofs of both sides, whatever they hold. Functions by content: the reference's texts of a proof. Functions by content: the reference's texts and hash of whatever proof. -/
import Derived.Test.YtfjbinbpgdiafaaGreatDoorHb
import Derived.Test.YtfjbinbpgdiafaaGreatDoorGg
import Derived.Test.YtfjbinbpgdiafaaGreatDoorPlainM
namespace Go.Proofs.YtfjbinbpgdiafaaGreatDoor
set_option maxRecDepth 100000
set_option maxHeartbeats 2000000
set_option linter.unusedVariables false
set_option linter.unusedSimpArgs false
set_option linter.unusedSectionVars false
open Go.RowKit Pl
attribute [local irreducible] z0t z0u z0A AnsP LeP
def z1S (ps : List Bs) : Prop := ps.length ≤ 60 ∧ ∀ p ∈ ps, p.length ≤ 200
def pAt (ps : List Bs) (k : Nat) : Bs := ps.getD k []
theorem zcJ {ps : List Bs} (h : z1S ps) (k : Nat) : (pAt ps k).length ≤ 200 := by
 unfold pAt
 rcases Nat.lt_or_ge k ps.length with hk | hk
 ·simp only [List.getD, List.getElem?_eq_getElem hk, Option.getD_some]; exact h.2 _ (List.getElem_mem hk)
 ·simp [List.getD, List.getElem?_eq_none hk]
theorem z1l {ps : List Bs} {k : Nat} (h : k < ps.length) : (strE ps)[k]? = some [.str (pAt ps k)] := by
 simp [strE, pAt, List.getD, List.getElem?_eq_getElem h]
def z2D (k : Nat) (ps : List Bs) (i : Nat) : Bs := UInt8.ofNat k :: (ps.take i).flatMap z0e
theorem z44 {k : Nat} {ps : List Bs} {i : Nat} (h : i < ps.length) : z2D k ps (i + 1) = z2D k ps i ++ z0e (pAt ps i) := by
 have : ps.take (i + 1) = ps.take i ++ [pAt ps i] := by
  rw [List.take_add_one, List.getElem?_eq_getElem h]; simp [pAt, List.getD, List.getElem?_eq_getElem h]
 rw [z2D, this]; simp [z2D]
theorem z2Q {k : Nat} {ps : List Bs} (h : z1S ps) : ∀ i, (z2D k ps i).length ≤ 1 + 205 * i
 | 0 => by simp [z2D]
 | i + 1 => by
   rcases Nat.lt_or_ge i ps.length with hi | hi
   ·rw [z44 hi, List.length_append]
    have h1 := z2Q (k := k) h i
    have h2 := zcJ h i
    have h3 := z1V (l := pAt ps i) (by omega)
    omega
   ·have h1 := z2Q (k := k) h i
    have : z2D k ps (i + 1) = z2D k ps i := by unfold z2D; rw [List.take_of_length_le (by omega), List.take_of_length_le hi]
    rw [this]; omega
theorem z5x (k : Nat) (ps : List Bs) : z2D k ps ps.length = tagB k ps := by rw [z2D, List.take_length]; rfl
theorem z4E {k : Nat} {ps : List Bs} (h : z1S ps) : (tagB k ps).length ≤ 12301 := by
 have h1 := z2Q (k := k) h ps.length
 rw [z5x] at h1
 have := h.1; omega
theorem z8o (k : Nat) (ps : List Bs) (hk : 1 ≤ k ∧ k ≤ 8) (hp : z1S ps) : CT Tryz.prog 170 [] [.int .i64 (k : Int), .sl 1 (strE ps)] (.tup [.str (tagB k ps), .bool true]) [] := by
 have hlen := z0h ps
 have hl60 := hp.1
 have c1 : CT Tryz.prog 34 [] [.int .i64 (k : Int), .int .i64 1, .int .i64 8] (.bool true) [] := by
  have := c_in (k : Int) 1 8
  rwa [z1b.2 (by omega)] at this
 rw [← z5x]
 refine z0b z0q 1 rfl Tryz.func170 rfl rfl rfl ?_
 repeat ((try conv => whnf); first | (refine ccA ([]) (c1) ?_) | (refine Exists.intro ps.length (And.intro hlen ?_)) | (refine w_u8 ?_) | (refine stpQ ?_))
 refine z0g 0 ⟨[(6, .ref 1)], [(1, some (.row 1 (z0i (z2D k ps ps.length))))], 2⟩ Nat (fun i => ⟨[(6, .ref 1), (20, .sl 1 (strE ps)), (21, .int .i64 (ps.length : Int)), (22, .int .i64 (i : Int))], [(1, some (.row 1 (z0i (z2D k ps i))))], 2⟩) (fun i => i ≤ ps.length) (fun i => ps.length - i) 0 (by omega) ?_ ?_ ?_
 ·(refine z01 (by rfl) ?_ ?_) <;> (repeat' (first | (exact eqA) | (refine shE ?_) | (refine And.intro ?_ ?_))) <;> first | rfl | decide
 ·intro i hi
  by_cases hlt : i < ps.length
  ·have hnx := z44 (k := k) hlt
   have hw := z2Q (k := k) hp i
   have hpl := zcJ hp i
   have cs := z29 (pAt ps i) (by omega)
   have hsl := z1V (l := pAt ps i) (by omega)
   generalize z2D k ps i = o at hnx hw ⊢
   have hbl := z0s o
   have hb2 := z0s (z0e (pAt ps i))
   repeat ((try conv => whnf); first | (refine i_at (z1l hlt) ?_) | (refine ccA ([]) (cs) ?_) | (refine And.intro (by rw [List.length_append, hbl, hb2]; omega) ?_) | (refine stpQ ?_))
   refine ⟨i + 1, by omega, by omega, ?_⟩
   rw [hnx]
   (refine z01 (by rfl) ?_ ?_) <;> (repeat' (first | (exact eqA) | (refine shE ?_) | (refine And.intro ?_ ?_)))
   simp [z0i]
  ·have hie : i = ps.length := by omega
   rw [hie]
   repeat ((try conv => whnf); first | (refine stpQ ?_))
   (refine z01 (by rfl) ?_ ?_) <;> (repeat' (first | (exact eqA) | (refine shE ?_) | (refine And.intro ?_ ?_)))
 ·repeat ((try conv => whnf); first | (refine Exists.intro (z2D k ps ps.length) (And.intro rfl ?_)) | (refine stpQ ?_))
  (refine z02 (by rfl) ?_ ?_ (by rfl)) <;> (repeat' (first | (exact eqA) | (refine shE ?_) | (refine And.intro ?_ ?_)))
theorem zcK (t : Bs) (w : Nat) (ht : (t.length : Int) ≤ 100000000) (hw : 1 ≤ w ∧ w ≤ 32) : CT Tryz.prog 125 [] [.str t, .int .i64 (w : Int)] (.str (cutB t w)) [] := by
 have c1 := z3L (w : Int)
 rw [z1b.2 (by omega)] at c1
 have c2 := z8i t ht
 have hl := z1E t
 unfold cutB
 generalize z2a t = d at c2 hl ⊢
 refine z0b z0q 1 rfl Tryz.func125 rfl rfl rfl ?_
 repeat ((try conv => whnf); first | (refine ccA ([]) (c1) ?_) | (refine ccA ([]) (c2) ?_) | (refine stpQ ?_))
 (refine z02 (by rfl) ?_ ?_ (by rfl)) <;> (repeat' (first | (exact eqA) | (refine shE ?_) | (refine And.intro ?_ ?_)))
theorem zcL (k : Nat) (ps : List Bs) (w : Nat) (hk : 1 ≤ k ∧ k ≤ 8) (hp : z1S ps) (hw : 1 ≤ w ∧ w ≤ 32) : CT Tryz.prog 126 [] [.int .i64 (k : Int), .sl 1 (strE ps), .int .i64 (w : Int)] (.str (z1t k ps w)) [] := by
 have c1 := z8o k ps hk hp
 have hl := z4E (k := k) hp
 have c2 := zcK (tagB k ps) w (by omega) hw
 unfold z1t
 generalize tagB k ps = t at c1 c2 hl ⊢
 refine z0b z0q 1 rfl Tryz.func126 rfl rfl rfl ?_
 repeat ((try conv => whnf); first | (refine ccA ([]) (c1) ?_) | (refine ccA ([]) (c2) ?_) | (refine stpQ ?_))
 (refine z02 (by rfl) ?_ ?_ (by rfl)) <;> (repeat' (first | (exact eqA) | (refine shE ?_) | (refine And.intro ?_ ?_)))
theorem z4F (k : Nat) (ps : List Bs) (w : Nat) (hk : 1 ≤ k ∧ k ≤ 8) (hp : z1S ps) (hw : 1 ≤ w ∧ w ≤ 32) : CT Tryz.prog 64 [] [.int .i64 (k : Int), .int .i64 (w : Int), .sl 1 (strE ps)] (.str (z1t k ps w)) [] := by
 have c1 := zcL k ps w hk hp hw
 refine z0b z0q 1 rfl Tryz.func64 rfl rfl rfl ?_
 repeat ((try conv => whnf); first | (refine ccA ([]) (c1) ?_) | (refine stpQ ?_))
 (refine z02 (by rfl) ?_ ?_ (by rfl)) <;> (repeat' (first | (exact eqA) | (refine shE ?_) | (refine And.intro ?_ ?_)))
theorem z3M : z1S [] := ⟨by simp, fun p h => by cases h⟩
theorem z3N {a b : Bs} (ha : a.length ≤ 200) (hb : b.length ≤ 200) : z1S [a, b] := ⟨by simp, fun p h => by
 rcases List.mem_cons.1 h with rfl | h
 ·exact ha
 ·rw [List.mem_singleton.1 h]; exact hb⟩
theorem z9d (d w : Nat) (hd : d ≤ 8) (hw : 1 ≤ w ∧ w ≤ 32) : CT Tryz.prog 130 [] [.int .i64 (8 - (d : Int)), .int .i64 (w : Int)] (.str (emB w d)) [] := by
 have c1 := z4F 1 [] w (by omega) z3M hw
 refine z0b z0q 1 rfl Tryz.func130 rfl rfl rfl ?_
 repeat ((try conv => whnf); first | (refine ccA ([]) (c1) ?_) | (refine stpQ ?_))
 refine z0g 0 ⟨[(5, .str (emB w d))], [], 2⟩ Nat (fun j => ⟨[(0, .int .i64 (8 - (d : Int))), (1, .int .i64 (w : Int)), (5, .str (emB w j)), (6, .int .i64 (8 - (j : Int)))], [], 2⟩) (fun j => j ≤ d) (fun j => d - j) 0 (by omega) ?_ ?_ ?_
 ·(refine z01 (by rfl) ?_ ?_) <;> (repeat' (first | (exact eqA) | (refine shE ?_) | (refine And.intro ?_ ?_))) <;> first | rfl | decide
 ·intro j hj
  by_cases hlt : j < d
  ·have he := z9a hw.2 j
   have c2 := z4F 3 [emB w j, emB w j] w (by omega) (z3N (by omega) (by omega)) hw
   have hnx : emB w (j + 1) = z1t 3 [emB w j, emB w j] w := rfl
   have e1 : IntKind.i64.wrap (8 - (j : Int) - 1) = 8 - ((j + 1 : Nat) : Int) := by rw [wrap_i64 (by omega) (by omega)]; omega
   generalize emB w j = o at he c2 hnx ⊢
   repeat ((try conv => whnf); first | (refine ccA ([]) (c2) ?_) | (refine Exists.intro _ (And.intro e1.symm ?_)) | (refine stpQ ?_))
   refine ⟨j + 1, by omega, by omega, ?_⟩
   rw [hnx]
   (refine z01 (by rfl) ?_ ?_) <;> (repeat' (first | (exact eqA) | (refine shE ?_) | (refine And.intro ?_ ?_)))
  ·have hje : j = d := by omega
   rw [hje]
   repeat ((try conv => whnf); first | (refine stpQ ?_))
   (refine z01 (by rfl) ?_ ?_) <;> (repeat' (first | (exact eqA) | (refine shE ?_) | (refine And.intro ?_ ?_)))
 ·repeat ((try conv => whnf); first | (refine stpQ ?_))
  (refine z02 (by rfl) ?_ ?_ (by rfl)) <;> (repeat' (first | (exact eqA) | (refine shE ?_) | (refine And.intro ?_ ?_)))
theorem z5y {l : List Lf} {k : Nat} (h : k < l.length) : z1O (l.take (k + 1)) = z1O (l.take k) ++ [(lfAt l k).1, (lfAt l k).2] := by
 rw [z1j l k h]; simp [z1O]
theorem z45 (l : List Lf) : (z1O l).length = 2 * l.length := by
 induction l with
 | nil => rfl
 | cons x l ih => simp only [z1O, List.flatMap_cons, List.length_append, List.length_cons] at ih ⊢; simp at ih ⊢; omega
theorem z2R {l : List Lf} (h : leavesOk l = true) : z1S (z1O l) := by
 obtain ⟨h1, h2, _⟩ := z0G h
 refine ⟨by rw [z45]; omega, fun p hp => ?_⟩
 simp only [z1O, List.mem_flatMap] at hp
 obtain ⟨x, hx, hp⟩ := hp
 have := h2 x hx
 have a := z1D this.1
 have b := z27 this.2
 rcases List.mem_cons.1 hp with rfl | hp
 ·omega
 ·rw [List.mem_singleton.1 hp]; omega
theorem zaq (a b : List Bs) : strE (a ++ b) = strE a ++ strE b := by simp [strE]
theorem z4m (l : List Lf) (h : leavesOk l = true) : CT Tryz.prog 129 [] [.sl 2 (lvE l)] (.str (z0B l)) [] := by
 have hlen := z0v l
 have h24 := (z0G h).1
 have c1 := z8o (if l = [] then 1 else 2) (z1O l) (by split <;> omega) (z2R h)
 have e : z0B l = tagB (if l = [] then 1 else 2) (z1O l) := by
  unfold z0B
  split
  ·rename_i h0; subst h0; rfl
  ·rfl
 rw [e]
 refine z0b z0q 1 rfl Tryz.func129 rfl rfl rfl ?_
 repeat ((try conv => whnf); first | (refine Exists.intro l.length (And.intro hlen ?_)) | (refine stpQ ?_))
 refine z0g 0 ⟨[(3, .int .i64 ((if l = [] then 1 else 2 : Nat) : Int)), (4, .ref 1)], [(1, some (.row 1 (strE (z1O l))))], 2⟩ Nat (fun k => ⟨[(3, .int .i64 ((if l.take k = [] then 1 else 2 : Nat) : Int)), (4, .ref 1), (9, .sl 2 (lvE l)), (10, .int .i64 (l.length : Int)), (11, .int .i64 (k : Int))], [(1, some (.row 1 (strE (z1O (l.take k)))))], 2⟩) (fun k => k ≤ l.length) (fun k => l.length - k) 0 (by omega) ?_ ?_ ?_
 ·(refine z01 (by rfl) ?_ ?_) <;> (repeat' (first | (exact eqA) | (refine shE ?_) | (refine And.intro ?_ ?_))) <;> first | rfl | decide
 ·intro k hk
  by_cases hlt : k < l.length
  ·have hnx := z5y hlt
   have hw := z45 (l.take k)
   have hne : ¬ (l.take (k + 1) = []) := fun h0 => by
    have := congrArg List.length h0
    rw [List.length_take, List.length_nil] at this; omega
   have hkl : (l.take k).length = k := by rw [List.length_take]; omega
   generalize z1O (l.take k) = o at hnx hw ⊢
   have hol := z0h o
   repeat ((try conv => whnf); first | (refine i_at (z13 hlt) ?_) | (refine And.intro (by simp [z0h]; omega) ?_) | (refine stpQ ?_))
   refine ⟨k + 1, by omega, by omega, ?_⟩
   rw [hnx, if_neg hne]
   (refine z01 (by rfl) ?_ ?_) <;> (repeat' (first | (exact eqA) | (refine shE ?_) | (refine And.intro ?_ ?_)))
   rw [zaq]; rfl
  ·have hke : k = l.length := by omega
   rw [hke, List.take_length]
   repeat ((try conv => whnf); first | (refine stpQ ?_))
   (refine z01 (by rfl) ?_ ?_) <;> (repeat' (first | (exact eqA) | (refine shE ?_) | (refine And.intro ?_ ?_)))
 ·generalize (if l = [] then 1 else 2 : Nat) = kk at c1 ⊢
  repeat ((try conv => whnf); first | (refine ccA ([]) (c1) ?_) | (refine stpQ ?_))
  (refine z02 (by rfl) ?_ ?_ (by rfl)) <;> (repeat' (first | (exact eqA) | (refine shE ?_) | (refine And.intro ?_ ?_)))
end Go.Proofs.YtfjbinbpgdiafaaGreatDoor
namespace Go.Proofs.YtfjbinbpgdiafaaGreatDoor
set_option maxRecDepth 100000
set_option maxHeartbeats 8000000
set_option linter.unusedVariables false
set_option linter.unusedSimpArgs false
set_option linter.unusedSectionVars false
open Go.RowKit Pl
attribute [local irreducible] z0t z0u z0A AnsP LeP
def ex3 : List (Nat × Ty) := [
 (106, ⟨3, 56, [.val nilV, .val nilV, .int .i64 0], .struct [(0, 36), (1, 28), (2, 3)], false⟩),
 (168, ⟨3, 40, [.str [], .str [], .int .i64 0], .struct [(0, 158), (2, 3)], false⟩),
 (110, tySl 168),
 (3, zdA)]
theorem zcM : ∀ p ∈ ex3, TyOk Tryz.prog p.1 p.2 := by
 simp only [ex3, List.forall_mem_cons]
 repeat' (refine And.intro ?_ ?_)
 all_goals first
  | exact (fun _ h => by cases h)
  | exact ⟨⟨_, _, rfl, rfl, rfl, rfl, rfl⟩, ⟨_, rfl, rfl⟩, rfl, rfl, fun h => (Bool.false_ne_true h).elim⟩
def ttL3 : List (Nat × Ty) := ttL ++ ex3
def tt3 : TT := lk ttL3
theorem zar : TtOk Tryz.prog tt3 := fun t y h => by
 have hm : (t, y) ∈ ttL3 := z18 h
 rcases List.mem_append.1 hm with h | h
 ·exact z6m (t, y) h
 ·exact zcM (t, y) h
def ixE (l : List Lf) : List (List T) := l.map fun x => [.int .i64 (ixB x.1 : Int)]
theorem zfs (l : List Lf) : (ixE l).length = l.length := by simp [ixE]
theorem ixE_at {l : List Lf} {k : Nat} (h : k < l.length) : (ixE l)[k]? = some [.int .i64 (ixB (lfAt l k).1 : Int)] := by
 rw [z75 h]; simp [ixE, List.getElem?_eq_getElem h]
theorem zdT {l : List Lf} {k : Nat} (h : k < l.length) : ixE (l.take (k + 1)) = ixE (l.take k) ++ [[.int .i64 (ixB (lfAt l k).1 : Int)]] := by
 rw [z1j l k h]; simp [ixE]
theorem z7j {l : List Lf} (h : leavesOk l = true) (k : Nat) : ((lfAt l k).1.length : Int) ≤ 100000000 := by
 obtain ⟨_, h2, _⟩ := z0G h
 unfold lfAt
 rcases Nat.lt_or_ge k l.length with hk | hk
 ·simp only [List.getD, List.getElem?_eq_getElem hk, Option.getD_some]
  have := z1D (h2 _ (List.getElem_mem hk)).1
  omega
 ·simp [List.getD, List.getElem?_eq_none hk]
theorem zbg (l : List Lf) (w : Nat) (h : leavesOk l = true) : CT Tryz.prog 73 [] [.sl 2 (lvE l), .int .i64 (w : Int)] (.agg [.sl 2 (lvE l), .ref 1, .int .i64 (w : Int)]) [.row 1 (ixE l)] := by
 have hlen := z0v l
 have h24 := (z0G h).1
 refine z0b zar 1 rfl Tryz.func73 rfl rfl rfl ?_
 repeat ((try conv => whnf); first | (refine Exists.intro l.length (And.intro hlen ?_)) | (refine stpQ ?_))
 refine z0g 0 ⟨[(4, .ptr 1 0 0), (5, .ptr 2 0 0)], [(1, some (.box [.val nilV, .val nilV, .int .i64 0])), (2, some (.box [.sl 2 (lvE l), .ref 3, .int .i64 (w : Int)])), (3, some (.row 1 (ixE l)))], 4⟩ Nat (fun k => ⟨[(4, .ptr 1 0 0), (5, .ptr 2 0 0), (11, .sl 2 (lvE l)), (12, .int .i64 (l.length : Int)), (13, .int .i64 (k : Int))], [(1, some (.box [.val nilV, .val nilV, .int .i64 0])), (2, some (.box [.sl 2 (lvE l), .ref 3, .int .i64 (w : Int)])), (3, some (.row 1 (ixE (l.take k))))], 4⟩) (fun k => k ≤ l.length) (fun k => l.length - k) 0 (by omega) ?_ ?_ ?_
 ·(refine z01 (by rfl) ?_ ?_) <;> (repeat' (first | (exact eqA) | (refine shE ?_) | (refine And.intro ?_ ?_))) <;> first | rfl | decide
 ·intro k hk
  by_cases hlt : k < l.length
  ·have hnx := zdT hlt
   have hw := zfs (l.take k)
   have hkl : (l.take k).length = k := by rw [List.length_take]; omega
   have c1 := z3I (lfAt l k).1 (z7j h k)
   generalize ixE (l.take k) = o at hnx hw ⊢
   repeat ((try conv => whnf); first | (refine i_at (z13 hlt) ?_) | (refine ccA ([]) (c1) ?_) | (refine And.intro (by rw [List.length_append]; simp; omega) ?_) | (refine And.intro (by kernel_rfl) ?_) | (refine stpQ ?_))
   refine ⟨k + 1, by omega, by omega, ?_⟩
   rw [hnx]
   (refine z01 (by rfl) ?_ ?_) <;> (repeat' (first | (exact eqA) | (refine shE ?_) | (refine And.intro ?_ ?_))) <;> rfl
  ·have hke : k = l.length := by omega
   rw [hke, List.take_length]
   repeat ((try conv => whnf); first | (refine stpQ ?_))
   (refine z01 (by rfl) ?_ ?_) <;> (repeat' (first | (exact eqA) | (refine shE ?_) | (refine And.intro ?_ ?_)))
 ·repeat ((try conv => whnf); first | (refine stpQ ?_))
  (refine z02 (by rfl) ?_ ?_ (by rfl)) <;> (repeat' (first | (exact eqA) | (refine shE ?_) | (refine And.intro ?_ ?_)))
theorem zas {l : List Lf} {k d p : Nat} (h : k < l.length) : atP (l.take (k + 1)) d p = atP (l.take k) d p ++ (if ixB (lfAt l k).1 / 2 ^ d = p then [lfAt l k] else []) := by
 unfold atP
 rw [z26 h]
 by_cases he : ixB (lfAt l k).1 / 2 ^ d = p <;> simp [he]
theorem zev {l : List Lf} {d p : Nat} (h : leavesOk l = true) : leavesOk (atP l d p) = true := by
 obtain ⟨h1, h2, h3⟩ := z0G h
 exact z85 (Nat.le_trans (List.length_filter_le _ _) h1) (fun x hx => h2 x (List.mem_filter.1 hx).1) (h3.filter _)
theorem zcN (a d : Nat) : ((a : Nat) : Int) / 2 ^ ((d : Nat) : Int).toNat = ((a / 2 ^ d : Nat) : Int) := by rw [Int.toNat_natCast]; simp
theorem z3q {l : List Lf} (h : leavesOk l = true) : (z0B l).length ≤ 12301 := by
 unfold z0B
 split
 ·exact z4E z3M
 ·exact z4E (z2R h)
theorem zcO (l : List Lf) (w : Nat) (h : leavesOk l = true) (hw : 1 ≤ w ∧ w ≤ 32) : ∀ (d p : Nat), d ≤ 8 → p < 2 ^ (8 - d) → CT Tryz.prog 75 [] [.agg [.sl 2 (lvE l), .sl 1 (ixE l), .int .i64 (w : Int)], .int .i64 (8 - (d : Int)), .int .i64 (p : Int)] (.str (z0D l w d p)) []
 | d, p, hd, hp => by
   have hlen := z0v l
   have h24 := (z0G h).1
   have e1 : IntKind.i64.wrap (8 - (8 - (d : Int))) = ((d : Nat) : Int) := by rw [wrap_i64 (by omega) (by omega)]; omega
   have hokA := zev (d := d) (p := p) h
   have hlA := z0v (atP l d p)
   refine z0b zar 1 rfl Tryz.func75 rfl rfl rfl ?_
   repeat ((try conv => whnf); first | (refine Exists.intro l.length (And.intro hlen ?_)) | (refine stpQ ?_))
   refine z0g 0 ⟨[(1, .int .i64 (8 - (d : Int))), (2, .int .i64 (p : Int)), (3, .ptr 1 0 0), (7, .ref 2)], [(1, some (.box [.sl 2 (lvE l), .sl 1 (ixE l), .int .i64 (w : Int)])), (2, some (.row 2 (lvE (atP l d p))))], 3⟩ Nat (fun k => ⟨[(1, .int .i64 (8 - (d : Int))), (2, .int .i64 (p : Int)), (3, .ptr 1 0 0), (7, .ref 2), (11, .sl 2 (lvE l)), (12, .int .i64 (l.length : Int)), (13, .int .i64 (k : Int))], [(1, some (.box [.sl 2 (lvE l), .sl 1 (ixE l), .int .i64 (w : Int)])), (2, some (.row 2 (lvE (atP (l.take k) d p))))], 3⟩) (fun k => k ≤ l.length) (fun k => l.length - k) 0 (by omega) ?_ ?_ ?_
   ·(refine z01 (by rfl) ?_ ?_) <;> (repeat' (first | (exact eqA) | (refine shE ?_) | (refine And.intro ?_ ?_))) <;> first | rfl | decide
   ·intro k hk
    by_cases hlt : k < l.length
    ·have hnx := zas (d := d) (p := p) hlt
     have hwk : (atP (l.take k) d p).length ≤ k := Nat.le_trans (List.length_filter_le _ _) (by rw [List.length_take]; omega)
     have e2 := zcN (ixB (lfAt l k).1) d
     generalize atP (l.take k) d p = o at hnx hwk ⊢
     have hol := z0v o
     repeat' (first | ((try conv => whnf); first | (refine i_at (z13 hlt) ?_) | (refine i_at (ixE_at hlt) ?_) | (refine Exists.intro _ (And.intro e1.symm ?_)) | (refine And.intro (show _ ≤ (64 : Int) from by omega) ?_) | (refine Exists.intro _ (And.intro e2.symm ?_)) | (refine And.intro (by simp [z0v]; omega) ?_) | (refine And.intro (by kernel_rfl) ?_) | (refine stpQ ?_)) | ((try conv => whnf); first | (refine cb_d (fun h => ?_) (fun h => ?_)) | (refine cb_n (fun h => ?_) (fun h => ?_)) | (refine cb (fun h => ?_) (fun h => ?_))))
     all_goals first
      | (exfalso; omega)
      | (rename_i hc
         have hc2 : ixB (lfAt l k).1 / 2 ^ d = p := by omega
         refine ⟨k + 1, by omega, by omega, ?_⟩
         rw [hnx, if_pos hc2]
         (refine z01 (by rfl) ?_ ?_) <;> (repeat' (first | (exact eqA) | (refine shE ?_) | (refine And.intro ?_ ?_)))
         rw [z2Z]; rfl)
      | (rename_i hc
         have hc2 : ¬ (ixB (lfAt l k).1 / 2 ^ d = p) := by omega
         refine ⟨k + 1, by omega, by omega, ?_⟩
         rw [hnx, if_neg hc2, List.append_nil]
         (refine z01 (by rfl) ?_ ?_) <;> (repeat' (first | (exact eqA) | (refine shE ?_) | (refine And.intro ?_ ?_))))
    ·have hke : k = l.length := by omega
     rw [hke, List.take_length]
     repeat ((try conv => whnf); first | (refine stpQ ?_))
     (refine z01 (by rfl) ?_ ?_) <;> (repeat' (first | (exact eqA) | (refine shE ?_) | (refine And.intro ?_ ?_)))
   ·cases d with
    | zero =>
      have c1 := z4m (atP l 0 p) hokA
      have c2 := zcK (z0B (atP l 0 p)) w (by have := z3q hokA; omega) hw
      rw [show z0D l w 0 p = cutB (z0B (atP l 0 p)) w from rfl]
      generalize atP l 0 p = o at c1 c2 ⊢
      repeat ((try conv => whnf); first | (refine ccA ([]) (c1) ?_) | (refine ccA ([]) (c2) ?_) | (refine And.intro (by kernel_rfl) ?_) | (refine stpQ ?_))
      (refine z02 (by rfl) ?_ ?_ (by rfl)) <;> (repeat' (first | (exact eqA) | (refine shE ?_) | (refine And.intro ?_ ?_)))
    | succ d =>
      by_cases hE : atP l (d + 1) p = []
      ·have c1 := z9d (d + 1) w hd hw
       rw [show z0D l w (d + 1) p = emB w (d + 1) from by rw [z0D, if_pos hE], hE]
       repeat ((try conv => whnf); first | (refine ccA ([]) (c1) ?_) | (refine And.intro (by kernel_rfl) ?_) | (refine stpQ ?_))
       (refine z02 (by rfl) ?_ ?_ (by rfl)) <;> (repeat' (first | (exact eqA) | (refine shE ?_) | (refine And.intro ?_ ?_)))
      ·have hpos : 0 < (atP l (d + 1) p).length := List.length_pos_iff.2 hE
       have hpw : 2 ^ (8 - d) = 2 * 2 ^ (8 - (d + 1)) := by
        rw [show 8 - d = (8 - (d + 1)) + 1 by omega, Nat.pow_succ]; omega
       have hsm : 2 ^ (8 - d) ≤ 2 ^ 8 := Nat.pow_le_pow_right (by decide) (by omega)
       have i1 := zcO l w h hw d (2 * p) (by omega) (by omega)
       have i2 : CT Tryz.prog 75 [] [.agg [.sl 2 (lvE l), .sl 1 (ixE l), .int .i64 (w : Int)], .int .i64 (8 - (d : Int)), .int .i64 ((2 * p + 1 : Nat) : Int)] (.str (z0D l w d (2 * p + 1))) [] := zcO l w h hw d (2 * p + 1) (by omega) (by omega)
       have n1 := z2p (l := l) hw.2 d (2 * p)
       have n2 := z2p (l := l) hw.2 d (2 * p + 1)
       have c1 := z4F 3 [z0D l w d (2 * p), z0D l w d (2 * p + 1)] w (by omega) (z3N (by omega) (by omega)) hw
       rw [show z0D l w (d + 1) p = z1t 3 [z0D l w d (2 * p), z0D l w d (2 * p + 1)] w from by rw [z0D, if_neg hE]]
       have e3 : IntKind.i64.wrap (8 - ((d + 1 : Nat) : Int) + 1) = 8 - (d : Int) := by rw [wrap_i64 (by omega) (by omega)]; omega
       generalize atP l (d + 1) p = o at hpos hlA ⊢
       generalize z0D l w d (2 * p) = x1 at i1 c1 n1 ⊢
       generalize z0D l w d (2 * p + 1) = x2 at i2 c1 n2 ⊢
       repeat ((try conv => whnf); first | (refine Exists.intro o.length (And.intro hlA ?_)) | (refine Exists.intro _ (And.intro e3.symm ?_)) | (refine z5p (by omega) ?_) | (refine ccA ([]) (i1) ?_) | (refine ccA ([]) (i2) ?_) | (refine ccA ([]) (c1) ?_) | (refine And.intro (by kernel_rfl) ?_) | (refine stpQ ?_))
       (refine z02 (by rfl) ?_ ?_ (by rfl)) <;> (repeat' (first | (exact eqA) | (refine shE ?_) | (refine And.intro ?_ ?_)))
end Go.Proofs.YtfjbinbpgdiafaaGreatDoor
namespace Go.Proofs.YtfjbinbpgdiafaaGreatDoor
set_option maxRecDepth 100000
set_option maxHeartbeats 1000000
set_option linter.unusedVariables false
set_option linter.unusedSimpArgs false
set_option linter.unusedSectionVars false
open Go.RowKit Pl
attribute [local irreducible] z0t z0u z0A AnsP LeP
def z8p (s : List Bs) (w : Int) (k : Nat) : Bool := (s.take k).all fun x => decide ((x.length : Int) = w)
theorem z9e {s : List Bs} {w : Int} {k : Nat} (h : k < s.length) : z8p s w (k + 1) = (z8p s w k && decide (((pAt s k).length : Int) = w)) := by
 have : s.take (k + 1) = s.take k ++ [pAt s k] := by
  rw [List.take_add_one, List.getElem?_eq_getElem h]; simp [pAt, List.getD, List.getElem?_eq_getElem h]
 simp [z8p, this]
theorem zbh {s : List Bs} {w : Int} {k : Nat} (h : k < s.length) (hne : ¬ ((pAt s k).length : Int) = w) : (s.all fun x => decide ((x.length : Int) = w)) = false := by
 rw [List.all_eq_false]
 refine ⟨pAt s k, ?_, by simpa using hne⟩
 simp [pAt, List.getD, List.getElem?_eq_getElem h]
theorem z9f (s : List Bs) (n w : Int) (hs : (s.length : Int) ≤ 100000000) : CT Tryz.prog 60 [] [.sl 1 (strE s), .int .i64 n, .int .i64 w] (.bool ((s.all fun x => decide ((x.length : Int) = w)) && decide ((s.length : Int) = n))) [] := by
 have hlen := z0h s
 refine z0b z0q 1 rfl Tryz.func60 rfl rfl rfl ?_
 repeat ((try conv => whnf); first | (refine Exists.intro s.length (And.intro hlen ?_)) | (refine stpQ ?_))
 refine z0K Nat (fun k => ⟨[(0, .sl 1 (strE s)), (1, .int .i64 n), (2, .int .i64 w), (9, .sl 1 (strE s)), (10, .int .i64 (s.length : Int)), (11, .int .i64 (k : Int))], [], 2⟩) (fun k => k ≤ s.length ∧ z8p s w k = true) (fun k => s.length - k) 0 ⟨by omega, rfl⟩ ?_ ?_
 ·(refine z01 (by rfl) ?_ ?_) <;> repeat' (first | (exact eqA) | (refine shE ?_) | (refine And.intro ?_ ?_))
 ·intro k hkk
  have hk := hkk.1
  have hp := hkk.2
  by_cases hlt : k < s.length
  ·by_cases hq : ((pAt s k).length : Int) = w
   ·have hnx := z9e (w := w) hlt
    rw [hp, decide_eq_true hq] at hnx
    repeat ((try conv => whnf); first | (refine i_at (z1l hlt) ?_) | (refine z3k hq ?_) | (refine stpQ ?_))
    refine ⟨k + 1, ⟨by omega, hnx⟩, by omega, ?_⟩
    (refine z01 (by rfl) ?_ ?_) <;> repeat' (first | (exact eqA) | (refine shE ?_) | (refine And.intro ?_ ?_))
   ·rw [zbh hlt hq]
    repeat ((try conv => whnf); first | (refine i_at (z1l hlt) ?_) | (refine z3j hq ?_) | (refine stpQ ?_))
    (refine z02 (by rfl) ?_ ?_ (by rfl)) <;> (repeat' (first | (exact eqA) | (refine shE ?_) | (refine And.intro ?_ ?_))) <;> rfl
  ·have hke : k = s.length := by omega
   have hall : (s.all fun x => decide ((x.length : Int) = w)) = true := by rw [hke, z8p, List.take_length] at hp; exact hp
   rw [hall]
   repeat ((try conv => whnf); first | (refine Exists.intro s.length (And.intro hlen ?_)) | (refine stpQ ?_))
   (refine z02 (by rfl) ?_ ?_ (by rfl)) <;> (repeat' (first | (exact eqA) | (refine shE ?_) | (refine And.intro ?_ ?_))) <;> (rw [Bool.true_and])
def z2S (s : List Bs) (k : Nat) : Bs := (s.take k).flatten
theorem z5z {s : List Bs} {k : Nat} (h : k < s.length) : z2S s (k + 1) = z2S s k ++ pAt s k := by
 have : s.take (k + 1) = s.take k ++ [pAt s k] := by
  rw [List.take_add_one, List.getElem?_eq_getElem h]; simp [pAt, List.getD, List.getElem?_eq_getElem h]
 simp [z2S, this]
theorem z6x {s : List Bs} (h : ∀ x ∈ s, x.length ≤ 200) : ∀ k, (z2S s k).length ≤ 200 * k
 | 0 => by simp [z2S]
 | k + 1 => by
   have ih := z6x h k
   rcases Nat.lt_or_ge k s.length with hk | hk
   ·rw [z5z hk, List.length_append]
    have : (pAt s k).length ≤ 200 := by simp only [pAt, List.getD, List.getElem?_eq_getElem hk, Option.getD_some]; exact h _ (List.getElem_mem hk)
    omega
   ·have : z2S s (k + 1) = z2S s k := by unfold z2S; rw [List.take_of_length_le (by omega), List.take_of_length_le hk]
    rw [this]; omega
theorem zdU (s : List Bs) (hs : (s.length : Int) ≤ 1000000) (h : ∀ x ∈ s, x.length ≤ 200) : CT Tryz.prog 141 [] [.sl 1 (strE s)] (.str s.flatten) [] := by
 have hlen := z0h s
 refine z0b z0q 1 rfl Tryz.func141 rfl rfl rfl ?_
 repeat ((try conv => whnf); first | (refine Exists.intro s.length (And.intro hlen ?_)) | (refine stpQ ?_))
 refine z0g 0 ⟨[(3, .str s.flatten)], [], 2⟩ Nat (fun k => ⟨[(3, .str (z2S s k)), (6, .sl 1 (strE s)), (7, .int .i64 (s.length : Int)), (8, .int .i64 (k : Int))], [], 2⟩) (fun k => k ≤ s.length) (fun k => s.length - k) 0 (by omega) ?_ ?_ ?_
 ·(refine z01 (by rfl) ?_ ?_) <;> (repeat' (first | (exact eqA) | (refine shE ?_) | (refine And.intro ?_ ?_))) <;> rfl
 ·intro k hk
  by_cases hlt : k < s.length
  ·have hnx := z5z hlt
   have hj := z6x h k
   have hp : (pAt s k).length ≤ 200 := by simp only [pAt, List.getD, List.getElem?_eq_getElem hlt, Option.getD_some]; exact h _ (List.getElem_mem hlt)
   generalize z2S s k = o at hnx hj ⊢
   repeat ((try conv => whnf); first | (refine i_at (z1l hlt) ?_) | (refine stpQ ?_))
   refine ⟨k + 1, by omega, by omega, ?_⟩
   rw [hnx]
   (refine z01 (by rfl) ?_ ?_) <;> (repeat' (first | (exact eqA) | (refine shE ?_) | (refine And.intro ?_ ?_)))
  ·have hke : k = s.length := by omega
   rw [hke, z2S, List.take_length]
   repeat ((try conv => whnf); first | (refine stpQ ?_))
   (refine z01 (by rfl) ?_ ?_) <;> (repeat' (first | (exact eqA) | (refine shE ?_) | (refine And.intro ?_ ?_)))
 ·repeat ((try conv => whnf); first | (refine stpQ ?_))
  (refine z02 (by rfl) ?_ ?_ (by rfl)) <;> (repeat' (first | (exact eqA) | (refine shE ?_) | (refine And.intro ?_ ?_)))
end Go.Proofs.YtfjbinbpgdiafaaGreatDoor
namespace Go.Proofs.YtfjbinbpgdiafaaGreatDoor
set_option linter.unusedVariables false
set_option linter.unusedSimpArgs false
set_option linter.unusedSectionVars false
open Go.RowKit Pl
attribute [local irreducible] z0t z0u z0A AnsP LeP
theorem z5A {l : List Lf} (h : leavesOk l = true) : Sml l := by
 obtain ⟨h1, h2, _⟩ := z0G h
 refine ⟨by omega, fun i => ?_⟩
 rcases Nat.lt_or_ge i l.length with hl | hl
 ·have := h2 _ (List.getElem_mem hl)
  have a := z1D this.1
  have b := z27 this.2
  rw [z84 hl]; omega
 ·simp [lfAt, List.getD, List.getElem?_eq_none hl]
def pfGood (nm : Bs) (l : List Lf) (s : List Bs) (w : Int) : Bool :=
 z0E nm && (leavesOk l && (decide (s.length ≤ 8) && (inB w 1 32 && ((s.all fun x => decide ((x.length : Int) = w)) && decide ((z0k l (ixB nm : Int)).length = l.length)))))
def FdAt (R : List Bs × Bs) (ix w : Nat) (T : List Bs) (j : Nat) (h : Bs) (rest : List Bs) : Prop := R = (T ++ (z9c ix w j h rest).1, (z9c ix w j h rest).2)
theorem FdAt.step {R : List Bs × Bs} {ix w : Nat} {T : List Bs} {j : Nat} {h s : Bs} {rest : List Bs} (hR : FdAt R ix w T j h (s :: rest)) : FdAt R ix w (T ++ [tagB 3 (zbf ix j h s)]) (j + 1) (cutB (tagB 3 (zbf ix j h s)) w) rest := by
 unfold FdAt at hR ⊢; rw [hR]; simp [z9c]
theorem FdAt.done {R : List Bs × Bs} {ix w : Nat} {T : List Bs} {j : Nat} {h : Bs} (hR : FdAt R ix w T j h []) : R = (T, h) := by
 unfold FdAt at hR; rw [hR]; simp [z9c]
end Go.Proofs.YtfjbinbpgdiafaaGreatDoor
namespace Go.Proofs.YtfjbinbpgdiafaaGreatDoor
set_option maxRecDepth 100000
set_option maxHeartbeats 4000000
set_option linter.unusedVariables false
set_option linter.unusedSimpArgs false
set_option linter.unusedSectionVars false
open Go.RowKit Pl
attribute [local irreducible] z0t z0u z0A AnsP LeP
theorem zcP (t : Bs) (w : Nat) (ht : (t.length : Int) ≤ 100000000) (hw : 1 ≤ w ∧ w ≤ 32) : CT Tryz.prog 43 [] [.str t, .int .i64 (w : Int)] (.str (cutB t w)) [] := by
 have c1 := z2N (w : Int) 1 32
 rw [z1b.2 (by omega)] at c1
 have c2 := zai t ht
 have hl := z1E t
 unfold cutB
 generalize z2a t = d at c2 hl ⊢
 refine z0b z0q 1 rfl Tryz.func43 rfl rfl rfl ?_
 repeat ((try conv => whnf); first | (refine ccA ([]) (c1) ?_) | (refine ccA ([]) (c2) ?_) | (refine stpQ ?_))
 (refine z02 (by rfl) ?_ ?_ (by rfl)) <;> (repeat' (first | (exact eqA) | (refine shE ?_) | (refine And.intro ?_ ?_)))
theorem z47 (k : Nat) (ps : List Bs) (hk : 1 ≤ k ∧ k ≤ 8) (hp : z1S ps) : CT Tryz.prog 104 [] [.int .i64 (k : Int), .sl 1 (strE ps)] (.tup [.str (tagB k ps), .bool true]) [] := by
 have hlen := z0h ps
 have hl60 := hp.1
 have c1 : CT Tryz.prog 39 [] [.int .i64 (k : Int), .int .i64 1, .int .i64 8] (.bool true) [] := by
  have := z2N (k : Int) 1 8
  rwa [z1b.2 (by omega)] at this
 rw [← z5x]
 refine z0b z0q 1 rfl Tryz.func104 rfl rfl rfl ?_
 repeat ((try conv => whnf); first | (refine ccA ([]) (c1) ?_) | (refine Exists.intro ps.length (And.intro hlen ?_)) | (refine w_u8 ?_) | (refine Exists.intro [UInt8.ofNat k] (And.intro rfl ?_)) | (refine stpQ ?_))
 refine z0g 0 ⟨[(6, .str (z2D k ps ps.length))], [], 2⟩ Nat (fun i => ⟨[(1, .sl 1 (strE ps)), (6, .str (z2D k ps i)), (7, .int .i64 (i : Int))], [], 2⟩) (fun i => i ≤ ps.length) (fun i => ps.length - i) 0 (by omega) ?_ ?_ ?_
 ·(refine z01 (by rfl) ?_ ?_) <;> (repeat' (first | (exact eqA) | (refine shE ?_) | (refine And.intro ?_ ?_))) <;> first | rfl | decide
 ·intro i hi
  by_cases hlt : i < ps.length
  ·have hnx := z44 (k := k) hlt
   have hw := z2Q (k := k) hp i
   have hpl := zcJ hp i
   have cs := z3K (pAt ps i).length (by omega)
   have hvl := z10 (n := (pAt ps i).length) (by omega)
   generalize z2D k ps i = o at hnx hw ⊢
   have hsh : z0e (pAt ps i) = z0f (pAt ps i).length ++ pAt ps i := rfl
   rw [hsh] at hnx
   generalize z0f (pAt ps i).length = v at cs hvl hnx
   repeat ((try conv => whnf); first | (refine Exists.intro ps.length (And.intro hlen ?_)) | (refine i_at (z1l hlt) ?_) | (refine ccA ([]) (cs) ?_) | (refine And.intro (by rw [List.length_append]; omega) ?_) | (refine And.intro (by kernel_rfl) ?_) | (refine stpQ ?_))
   refine ⟨i + 1, by omega, by omega, ?_⟩
   rw [hnx]
   (refine z01 (by rfl) ?_ ?_) <;> (repeat' (first | (exact eqA) | (refine shE ?_) | (refine And.intro ?_ ?_)))
   rw [List.append_assoc]
  ·have hie : i = ps.length := by omega
   rw [hie]
   repeat ((try conv => whnf); first | (refine Exists.intro ps.length (And.intro hlen ?_)) | (refine stpQ ?_))
   (refine z01 (by rfl) ?_ ?_) <;> (repeat' (first | (exact eqA) | (refine shE ?_) | (refine And.intro ?_ ?_)))
 ·repeat ((try conv => whnf); first | (refine stpQ ?_))
  (refine z02 (by rfl) ?_ ?_ (by rfl)) <;> (repeat' (first | (exact eqA) | (refine shE ?_) | (refine And.intro ?_ ?_)))
theorem z33 (k : Nat) (ps : List Bs) (w : Nat) (hk : 1 ≤ k ∧ k ≤ 8) (hp : z1S ps) (hw : 1 ≤ w ∧ w ≤ 32) : CT Tryz.prog 41 [] [.int .i64 (k : Int), .sl 1 (strE ps), .int .i64 (w : Int)] (.str (z1t k ps w)) [] := by
 have c1 := z47 k ps hk hp
 have hl := z4E (k := k) hp
 have c2 := zcP (tagB k ps) w (by omega) hw
 unfold z1t
 generalize tagB k ps = t at c1 c2 hl ⊢
 refine z0b z0q 1 rfl Tryz.func41 rfl rfl rfl ?_
 repeat ((try conv => whnf); first | (refine ccA ([]) (c1) ?_) | (refine ccA ([]) (c2) ?_) | (refine stpQ ?_))
 (refine z02 (by rfl) ?_ ?_ (by rfl)) <;> (repeat' (first | (exact eqA) | (refine shE ?_) | (refine And.intro ?_ ?_)))
def empJ (w j : Nat) : List Bs := (List.range 9).map fun i => if 8 - j ≤ i then emB w (8 - i) else []
theorem zat (w j : Nat) : (empJ w j).length = 9 := by simp [empJ]
theorem zcQ {w j i : Nat} (hi : i < 9) (hj : 8 - j ≤ i) : pAt (empJ w j) i = emB w (8 - i) := by
 simp only [pAt, empJ, List.getD, List.getElem?_map, List.getElem?_range hi, Option.map_some, Option.getD_some, if_pos hj]
theorem zdV (w j : Nat) (hj : j < 8) : (empJ w j).set (7 - j) (emB w (j + 1)) = empJ w (j + 1) := by
 apply List.ext_getElem?
 intro i
 rw [List.getElem?_set]
 by_cases hi : i < 9
 ·simp only [empJ, List.getElem?_map, List.getElem?_range hi, Option.map_some, List.length_map, List.length_range]
  by_cases h1 : 7 - j = i
  ·subst h1
   have e1 : 8 - (7 - j) = j + 1 := by omega
   have e2 : 8 - (j + 1) ≤ 7 - j := by omega
   rw [if_pos rfl, if_pos hi, e1, if_pos e2]
  ·rw [if_neg h1]
   by_cases h2 : 8 - j ≤ i
   ·rw [if_pos h2, if_pos (by omega)]
   ·rw [if_neg h2, if_neg (by omega)]
 ·have h1 : ¬ (7 - j = i) := by omega
  rw [if_neg h1]
  simp [empJ, hi]
theorem zdW (l : List Bs) (i : Nat) (x : Bs) : (strE l).set i [.str x] = strE (l.set i x) := by simp [strE, List.map_set]
theorem zcR (w : Nat) (hw : 1 ≤ w ∧ w ≤ 32) : CT Tryz.prog 80 [] [.int .i64 (w : Int)] (.ref 1) [.row 1 (strE (empJ w 8))] := by
 have c1 := z33 1 [] w (by omega) z3M hw
 refine z0b z0q 1 rfl Tryz.func80 rfl rfl rfl ?_
 repeat ((try conv => whnf); first | (refine ccA ([]) (c1) ?_) | (refine Exists.intro 9 (And.intro rfl ?_)) | (refine i_lt (i := 8) (by simp) ?_) | (refine Exists.intro _ (And.intro rfl ?_)) | (refine And.intro (by kernel_rfl) ?_) | (refine stpQ ?_))
 refine z0g 0 ⟨[(3, .ref 1)], [(1, some (.row 1 (strE (empJ w 8))))], 2⟩ Nat (fun j => ⟨[(0, .int .i64 (w : Int)), (3, .ref 1), (4, .int .i64 (7 - (j : Int)))], [(1, some (.row 1 (strE (empJ w j))))], 2⟩) (fun j => j ≤ 8) (fun j => 8 - j) 0 (by omega) ?_ ?_ ?_
 ·(refine z01 (by rfl) ?_ ?_) <;> (repeat' (first | (exact eqA) | (refine shE ?_) | (refine And.intro ?_ ?_))) <;> first | rfl | decide
 ·intro j hj
  by_cases hlt : j < 8
  ·have hst := zdV w j hlt
   have hl := zat w j
   have he := zcQ (w := w) (j := j) (i := 7 - j + 1) (by omega) (by omega)
   have e8 : 8 - (7 - j + 1) = j := by omega
   rw [e8] at he
   have hel := z9a hw.2 j
   have c2 := z33 3 [emB w j, emB w j] w (by omega) (z3N (by omega) (by omega)) hw
   have hnx : emB w (j + 1) = z1t 3 [emB w j, emB w j] w := rfl
   have e7 : 7 - (j : Int) = ((7 - j : Nat) : Int) := by omega
   have e4 : IntKind.i64.wrap (((7 - j : Nat) : Int) - 1) = 7 - ((j + 1 : Nat) : Int) := by rw [wrap_i64 (by omega) (by omega)]; omega
   rw [hnx] at hst
   generalize emB w j = o at he hel c2 hst
   generalize empJ w j = em at hst hl he ⊢
   have hml := z0h em
   have hlt2 : 7 - j + 1 < em.length := by omega
   have hg := z1l hlt2
   rw [he] at hg
   have hlt3 : 7 - j < em.length := by omega
   have hg3 := z1l hlt3
   rw [e7]
   repeat ((try conv => whnf); first | (refine i_lt (by omega) ?_) | (refine Exists.intro _ (And.intro hg ?_)) | (refine ccA ([]) (c2) ?_) | (refine Exists.intro _ (And.intro hg3 ?_)) | (refine Exists.intro _ (And.intro e4.symm ?_)) | (refine And.intro (by kernel_rfl) ?_) | (refine stpQ ?_))
   refine ⟨j + 1, by omega, by omega, ?_⟩
   rw [← hst]
   (refine z01 (by rfl) ?_ ?_) <;> (repeat' (first | (exact eqA) | (refine shE ?_) | (refine And.intro ?_ ?_)))
   rw [← zdW]; rfl
  ·have hje : j = 8 := by omega
   rw [hje]
   repeat ((try conv => whnf); first | (refine And.intro (by kernel_rfl) ?_) | (refine stpQ ?_))
   (refine z01 (by rfl) ?_ ?_) <;> (repeat' (first | (exact eqA) | (refine shE ?_) | (refine And.intro ?_ ?_)))
 ·repeat ((try conv => whnf); first | (refine stpQ ?_))
  (refine z02 (by rfl) ?_ ?_ (by rfl)) <;> (repeat' (first | (exact eqA) | (refine shE ?_) | (refine And.intro ?_ ?_)))
theorem z7k (l : List Lf) (h : leavesOk l = true) : CT Tryz.prog 106 [] [.sl 2 (lvE l)] (.tup [.str (z0B l), .bool true]) [] := by
 have hlen := z0v l
 have h24 := (z0G h).1
 have c0 := z1n l (by omega) (by
  intro i
  have h1 := z7j h i
  obtain ⟨_, h2, _⟩ := z0G h
  unfold lfAt at h1 ⊢
  rcases Nat.lt_or_ge i l.length with hk | hk
  ·simp only [List.getD, List.getElem?_eq_getElem hk, Option.getD_some] at h1 ⊢
   have := z27 (h2 _ (List.getElem_mem hk)).2
   omega
  ·simp [List.getD, List.getElem?_eq_none hk])
 rw [h] at c0
 have c1 := z47 1 [] (by omega) z3M
 have c2 := z47 2 (z1O l) (by omega) (z2R h)
 refine z0b z0q 1 rfl Tryz.func106 rfl rfl rfl ?_
 by_cases h0 : l = []
 ·subst h0
  unfold z0B
  rw [if_pos rfl]
  repeat ((try conv => whnf); first | (refine ccA ([]) (c0) ?_) | (refine ccA ([]) (c1) ?_) | (refine Exists.intro 0 (And.intro rfl ?_)) | (refine stpQ ?_))
  (refine z02 (by rfl) ?_ ?_ (by rfl)) <;> (repeat' (first | (exact eqA) | (refine shE ?_) | (refine And.intro ?_ ?_)))
 ·have hpos : 0 < l.length := List.length_pos_iff.2 h0
  unfold z0B
  rw [if_neg h0]
  repeat ((try conv => whnf); first | (refine ccA ([]) (c0) ?_) | (refine Exists.intro l.length (And.intro hlen ?_)) | (refine stpQ ?_))
  refine z0g 0 ⟨[(4, .ref 1)], [(1, some (.row 1 (strE (z1O l))))], 2⟩ Nat (fun k => ⟨[(0, .sl 2 (lvE l)), (4, .ref 1), (5, .int .i64 (k : Int))], [(1, some (.row 1 (strE (z1O (l.take k)))))], 2⟩) (fun k => k ≤ l.length) (fun k => l.length - k) 0 (by omega) ?_ ?_ ?_
  ·(refine z01 (by rfl) ?_ ?_) <;> (repeat' (first | (exact eqA) | (refine shE ?_) | (refine And.intro ?_ ?_))) <;> first | rfl | decide
  ·intro k hk
   by_cases hlt : k < l.length
   ·have hnx := z5y hlt
    have hw := z45 (l.take k)
    have hkl : (l.take k).length = k := by rw [List.length_take]; omega
    generalize z1O (l.take k) = o at hnx hw ⊢
    have hol := z0h o
    repeat ((try conv => whnf); first | (refine Exists.intro l.length (And.intro hlen ?_)) | (refine i_at (z13 hlt) ?_) | (refine And.intro (by simp [z0h]; omega) ?_) | (refine And.intro (by kernel_rfl) ?_) | (refine stpQ ?_))
    refine ⟨k + 1, by omega, by omega, ?_⟩
    rw [hnx]
    (refine z01 (by rfl) ?_ ?_) <;> (repeat' (first | (exact eqA) | (refine shE ?_) | (refine And.intro ?_ ?_)))
    rw [zaq]; rfl
   ·have hke : k = l.length := by omega
    rw [hke, List.take_length]
    repeat ((try conv => whnf); first | (refine Exists.intro l.length (And.intro hlen ?_)) | (refine stpQ ?_))
    (refine z01 (by rfl) ?_ ?_) <;> (repeat' (first | (exact eqA) | (refine shE ?_) | (refine And.intro ?_ ?_)))
  ·repeat ((try conv => whnf); first | (refine ccA ([]) (c2) ?_) | (refine stpQ ?_))
   (refine z02 (by rfl) ?_ ?_ (by rfl)) <;> (repeat' (first | (exact eqA) | (refine shE ?_) | (refine And.intro ?_ ?_)))
theorem z3O (l : List Lf) (w : Nat) (h : leavesOk l = true) (hw : 1 ≤ w ∧ w ≤ 32) : CT Tryz.prog 67 [] [.sl 2 (lvE l), .int .i64 (w : Int)] (.str (cutB (z0B l) w)) [] := by
 have c1 := z7k l h
 have hl := z3q h
 have c2 := zcP (z0B l) w (by omega) hw
 generalize z0B l = t at c1 c2 hl ⊢
 refine z0b z0q 1 rfl Tryz.func67 rfl rfl rfl ?_
 repeat ((try conv => whnf); first | (refine ccA ([]) (c1) ?_) | (refine ccA ([]) (c2) ?_) | (refine stpQ ?_))
 (refine z02 (by rfl) ?_ ?_ (by rfl)) <;> (repeat' (first | (exact eqA) | (refine shE ?_) | (refine And.intro ?_ ?_)))
def spE (l : List Lf) : List (List T) := l.map fun x => [.str x.1, .str x.2, .int .i64 (ixB x.1 : Int)]
theorem z7l (l : List Lf) : (spE l).length = l.length := by simp [spE]
theorem zcS (a b : List Lf) : spE (a ++ b) = spE a ++ spE b := by simp [spE]
theorem zew {l : List Lf} {k : Nat} (h : k < l.length) : (spE l)[k]? = some [.str (lfAt l k).1, .str (lfAt l k).2, .int .i64 (ixB (lfAt l k).1 : Int)] := by
 rw [z75 h]; simp [spE, List.getElem?_eq_getElem h]
theorem zft (l : List Lf) (h : leavesOk l = true) : CT Tryz.prog 79 [] [.sl 2 (lvE l)] (.ref 1) [.row 3 (spE l)] := by
 have hlen := z0v l
 have h24 := (z0G h).1
 refine z0b zar 1 rfl Tryz.func79 rfl rfl rfl ?_
 repeat ((try conv => whnf); first | (refine stpQ ?_))
 refine z0g 0 ⟨[(3, .ref 1)], [(1, some (.row 3 (spE l)))], 2⟩ Nat (fun k => ⟨[(0, .sl 2 (lvE l)), (3, .ref 1), (4, .int .i64 (k : Int))], [(1, some (.row 3 (spE (l.take k))))], 2⟩) (fun k => k ≤ l.length) (fun k => l.length - k) 0 (by omega) ?_ ?_ ?_
 ·(refine z01 (by rfl) ?_ ?_) <;> (repeat' (first | (exact eqA) | (refine shE ?_) | (refine And.intro ?_ ?_))) <;> first | rfl | decide
 ·intro k hk
  by_cases hlt : k < l.length
  ·have hnx : spE (l.take (k + 1)) = spE (l.take k) ++ spE [lfAt l k] := by rw [z1j l k hlt, zcS]
   have hol := z7l (l.take k)
   have hkl : (l.take k).length = k := by rw [List.length_take]; omega
   have c1 := z31 (lfAt l k).1 (z7j h k)
   generalize spE (l.take k) = o at hnx hol ⊢
   repeat ((try conv => whnf); first | (refine Exists.intro l.length (And.intro hlen ?_)) | (refine i_at (z13 hlt) ?_) | (refine ccA ([]) (c1) ?_) | (refine And.intro (by rw [List.length_append]; simp; omega) ?_) | (refine And.intro (by kernel_rfl) ?_) | (refine stpQ ?_))
   refine ⟨k + 1, by omega, by omega, ?_⟩
   rw [hnx]
   (refine z01 (by rfl) ?_ ?_) <;> (repeat' (first | (exact eqA) | (refine shE ?_) | (refine And.intro ?_ ?_)))
   rfl
  ·have hke : k = l.length := by omega
   rw [hke, List.take_length]
   repeat ((try conv => whnf); first | (refine Exists.intro l.length (And.intro hlen ?_)) | (refine stpQ ?_))
   (refine z01 (by rfl) ?_ ?_) <;> (repeat' (first | (exact eqA) | (refine shE ?_) | (refine And.intro ?_ ?_)))
 ·repeat ((try conv => whnf); first | (refine stpQ ?_))
  (refine z02 (by rfl) ?_ ?_ (by rfl)) <;> (repeat' (first | (exact eqA) | (refine shE ?_) | (refine And.intro ?_ ?_)))
end Go.Proofs.YtfjbinbpgdiafaaGreatDoor
namespace Go.Proofs.YtfjbinbpgdiafaaGreatDoor
set_option maxRecDepth 100000
set_option maxHeartbeats 8000000
set_option linter.unusedVariables false
set_option linter.unusedSimpArgs false
set_option linter.unusedSectionVars false
open Go.RowKit Pl
attribute [local irreducible] z0t z0u z0A AnsP LeP
theorem zcT {d : Nat} (h : d ≤ 8) : IntKind.u64.wrap ((d : Nat) : Int) = ((d : Nat) : Int) := by rw [IntKind.wrap_u64]; omega
theorem z9g (w : Nat) (hw : 1 ≤ w ∧ w ≤ 32) : ∀ (d p : Nat) (l : List Lf), leavesOk l = true → d ≤ 8 → p < 2 ^ (8 - d) → CT Tryz.prog 82 [] [.sl 3 (spE l), .int .i64 (8 - (d : Int)), .int .i64 (p : Int), .int .i64 (w : Int), .sl 1 (strE (empJ w 8))] (.str (z0D l w d p)) []
 | d, p, l, h, hd, hp => by
   have hlen := z7l l
   have h24 := (z0G h).1
   have e1 : IntKind.i64.wrap (8 - (8 - (d : Int))) = ((d : Nat) : Int) := by rw [wrap_i64 (by omega) (by omega)]; omega
   have e1u := zcT hd
   have hokA := zev (d := d) (p := p) h
   have hlA := z7l (atP l d p)
   have hA24 := (z0G hokA).1
   have hem := zat w 8
   have heml := z0h (empJ w 8)
   refine z0b zar 1 rfl Tryz.func82 rfl rfl rfl ?_
   repeat ((try conv => whnf); first | (refine stpQ ?_))
   refine z0g 0 ⟨[(1, .int .i64 (8 - (d : Int))), (2, .int .i64 (p : Int)), (3, .int .i64 (w : Int)), (4, .sl 1 (strE (empJ w 8))), (11, .ref 1)], [(1, some (.row 3 (spE (atP l d p))))], 2⟩ Nat (fun k => ⟨[(0, .sl 3 (spE l)), (1, .int .i64 (8 - (d : Int))), (2, .int .i64 (p : Int)), (3, .int .i64 (w : Int)), (4, .sl 1 (strE (empJ w 8))), (11, .ref 1), (12, .int .i64 (k : Int))], [(1, some (.row 3 (spE (atP (l.take k) d p))))], 2⟩) (fun k => k ≤ l.length) (fun k => l.length - k) 0 (by omega) ?_ ?_ ?_
   ·(refine z01 (by rfl) ?_ ?_) <;> (repeat' (first | (exact eqA) | (refine shE ?_) | (refine And.intro ?_ ?_))) <;> first | rfl | decide
   ·intro k hk
    by_cases hlt : k < l.length
    ·have hnx := zas (d := d) (p := p) hlt
     have hwk : (atP (l.take k) d p).length ≤ k := Nat.le_trans (List.length_filter_le _ _) (by rw [List.length_take]; omega)
     have e2 := zcN (ixB (lfAt l k).1) d
     generalize atP (l.take k) d p = o at hnx hwk ⊢
     have hol := z7l o
     repeat' (first | ((try conv => whnf); first | (refine Exists.intro l.length (And.intro hlen ?_)) | (refine i_at (zew hlt) ?_) | (refine Exists.intro _ (And.intro e1.symm ?_)) | (refine Exists.intro _ (And.intro e1u.symm ?_)) | (refine And.intro (show _ ≤ (64 : Int) from by omega) ?_) | (refine Exists.intro _ (And.intro e2.symm ?_)) | (refine And.intro (by rw [List.length_append]; simp; omega) ?_) | (refine And.intro (by kernel_rfl) ?_) | (refine stpQ ?_)) | ((try conv => whnf); first | (refine cb_d (fun h => ?_) (fun h => ?_)) | (refine cb_n (fun h => ?_) (fun h => ?_)) | (refine cb (fun h => ?_) (fun h => ?_))))
     all_goals first
      | (exfalso; omega)
      | (rename_i hc
         have hc2 : ixB (lfAt l k).1 / 2 ^ d = p := by omega
         refine ⟨k + 1, by omega, by omega, ?_⟩
         rw [hnx, if_pos hc2]
         (refine z01 (by rfl) ?_ ?_) <;> (repeat' (first | (exact eqA) | (refine shE ?_) | (refine And.intro ?_ ?_)))
         rw [zcS]; rfl)
      | (rename_i hc
         have hc2 : ¬ (ixB (lfAt l k).1 / 2 ^ d = p) := by omega
         refine ⟨k + 1, by omega, by omega, ?_⟩
         rw [hnx, if_neg hc2, List.append_nil]
         (refine z01 (by rfl) ?_ ?_) <;> (repeat' (first | (exact eqA) | (refine shE ?_) | (refine And.intro ?_ ?_))))
    ·have hke : k = l.length := by omega
     rw [hke, List.take_length]
     repeat ((try conv => whnf); first | (refine Exists.intro l.length (And.intro hlen ?_)) | (refine stpQ ?_))
     (refine z01 (by rfl) ?_ ?_) <;> (repeat' (first | (exact eqA) | (refine shE ?_) | (refine And.intro ?_ ?_)))
   ·by_cases hE : atP l d p = []
    ·have hlt : 8 - d < (empJ w 8).length := by omega
     have he := zcQ (w := w) (j := 8) (i := 8 - d) (by omega) (by omega)
     have hg := z1l hlt
     rw [he, show 8 - (8 - d) = d by omega] at hg
     have e3 : 8 - (d : Int) = ((8 - d : Nat) : Int) := by omega
     rw [z9b d hE, hE, e3]
     generalize empJ w 8 = em at heml hlt hg hem ⊢
     repeat ((try conv => whnf); first | (refine Exists.intro 0 (And.intro rfl ?_)) | (refine i_at hg ?_) | (refine stpQ ?_))
     (refine z02 (by rfl) ?_ ?_ (by rfl)) <;> (repeat' (first | (exact eqA) | (refine shE ?_) | (refine And.intro ?_ ?_)))
    ·have hpos : 0 < (atP l d p).length := List.length_pos_iff.2 hE
     cases d with
     | zero =>
       have c1 := z3O (atP l 0 p) w hokA hw
       rw [show z0D l w 0 p = cutB (z0B (atP l 0 p)) w from rfl]
       generalize cutB (z0B (atP l 0 p)) w = res at c1 ⊢
       generalize atP l 0 p = o at c1 hpos hlA hA24 ⊢
       have hlo := z0v o
       repeat ((try conv => whnf); first | (refine Exists.intro o.length (And.intro hlA ?_)) | (refine stpQ ?_))
       refine z0g 2 ⟨[(3, .int .i64 (w : Int)), (13, .ref 1)], [(1, some (.row 2 (lvE o)))], 2⟩ Nat (fun k => ⟨[(3, .int .i64 (w : Int)), (11, .ref 1), (13, .ref 2), (14, .int .i64 (k : Int))], [(1, some (.row 3 (spE o))), (2, some (.row 2 (lvE (o.take k))))], 3⟩) (fun k => k ≤ o.length) (fun k => o.length - k) 0 (by omega) ?_ ?_ ?_
       ·(refine z01 (by rfl) ?_ ?_) <;> (repeat' (first | (exact eqA) | (refine shE ?_) | (refine And.intro ?_ ?_))) <;> first | rfl | decide
       ·intro k hk
        by_cases hlt : k < o.length
        ·have hnx : lvE (o.take (k + 1)) = lvE (o.take k) ++ lvE [lfAt o k] := by rw [z1j o k hlt, z2Z]
         have hkl : (o.take k).length = k := by rw [List.length_take]; omega
         have hol := z0v (o.take k)
         generalize lvE (o.take k) = q at hnx hol ⊢
         repeat ((try conv => whnf); first | (refine Exists.intro o.length (And.intro hlA ?_)) | (refine i_lt (by omega) ?_) | (refine Exists.intro _ (And.intro (zew hlt) ?_)) | (refine And.intro (by rw [List.length_append]; simp; omega) ?_) | (refine stpQ ?_))
         refine ⟨k + 1, by omega, by omega, ?_⟩
         rw [hnx]
         (refine z01 (by rfl) ?_ ?_) <;> (repeat' (first | (exact eqA) | (refine shE ?_) | (refine And.intro ?_ ?_)))
         rfl
        ·have hke : k = o.length := by omega
         rw [hke, List.take_length]
         repeat ((try conv => whnf); first | (refine Exists.intro o.length (And.intro hlA ?_)) | (refine stpQ ?_))
         (refine z01 (by rfl) ?_ ?_) <;> (repeat' (first | (exact eqA) | (refine shE ?_) | (refine And.intro ?_ ?_)))
       ·repeat ((try conv => whnf); first | (refine ccA ([]) (c1) ?_) | (refine stpQ ?_))
        (refine z02 (by rfl) ?_ ?_ (by rfl)) <;> (repeat' (first | (exact eqA) | (refine shE ?_) | (refine And.intro ?_ ?_)))
     | succ d =>
       have hpw : 2 ^ (8 - d) = 2 * 2 ^ (8 - (d + 1)) := by
        rw [show 8 - d = (8 - (d + 1)) + 1 by omega, Nat.pow_succ]; omega
       have hsm : 2 ^ (8 - d) ≤ 2 ^ 8 := Nat.pow_le_pow_right (by decide) (by omega)
       have i1 := z9g w hw d (2 * p) (atP l (d + 1) p) hokA (by omega) (by omega)
       have i2 := z9g w hw d (2 * p + 1) (atP l (d + 1) p) hokA (by omega) (by omega)
       rw [z5w l w d p (.inl rfl)] at i1
       rw [z5w l w d p (.inr rfl)] at i2
       have n1 := z2p (l := l) hw.2 d (2 * p)
       have n2 := z2p (l := l) hw.2 d (2 * p + 1)
       have c1 := z33 3 [z0D l w d (2 * p), z0D l w d (2 * p + 1)] w (by omega) (z3N (by omega) (by omega)) hw
       rw [show z0D l w (d + 1) p = z1t 3 [z0D l w d (2 * p), z0D l w d (2 * p + 1)] w from by rw [z0D, if_neg hE]]
       have e3 : IntKind.i64.wrap (8 - ((d + 1 : Nat) : Int) + 1) = 8 - (d : Int) := by rw [wrap_i64 (by omega) (by omega)]; omega
       generalize atP l (d + 1) p = o at hpos hlA i1 i2 ⊢
       generalize z0D l w d (2 * p) = x1 at i1 c1 n1 ⊢
       generalize z0D l w d (2 * p + 1) = x2 at i2 c1 n2 ⊢
       repeat ((try conv => whnf); first | (refine Exists.intro o.length (And.intro hlA ?_)) | (refine Exists.intro _ (And.intro e3.symm ?_)) | (refine z5p (by omega) ?_) | (refine ccA ([]) (i1) ?_) | (refine ccA ([]) (i2) ?_) | (refine ccA ([]) (c1) ?_) | (refine And.intro (by kernel_rfl) ?_) | (refine stpQ ?_))
       (refine z02 (by rfl) ?_ ?_ (by rfl)) <;> (repeat' (first | (exact eqA) | (refine shE ?_) | (refine And.intro ?_ ?_)))
theorem z5C (l m : List Bs) (hl : (l.length : Int) ≤ 100000000) (hm : (m.length : Int) ≤ 100000000) : CT Tryz.prog 50 [] [.sl 1 (strE l), .sl 1 (strE m)] (.bool (decide (l = m))) [] := by
 have hll := z0h l
 have hlm := z0h m
 refine z0b z0q 1 rfl Tryz.func50 rfl rfl rfl ?_
 by_cases hn : l.length = m.length
 ·repeat ((try conv => whnf); first | (refine Exists.intro l.length (And.intro hll ?_)) | (refine Exists.intro m.length (And.intro hlm ?_)) | (refine stpQ ?_))
  refine z0K Nat (fun k => ⟨[(0, .sl 1 (strE l)), (1, .sl 1 (strE m)), (5, .int .i64 (k : Int))], [], 2⟩) (fun k => k ≤ l.length ∧ l.take k = m.take k) (fun k => l.length - k) 0 ⟨by omega, rfl⟩ ?_ ?_
  ·(refine z01 (by rfl) ?_ ?_) <;> repeat' (first | (exact eqA) | (refine shE ?_) | (refine And.intro ?_ ?_))
  ·intro k hkk
   have hk := hkk.1
   have hp := hkk.2
   by_cases hlt : k < l.length
   ·have hlt2 : k < m.length := by omega
    by_cases hq : pAt l k = pAt m k
    ·have hnx : l.take (k + 1) = m.take (k + 1) := by
      rw [List.take_add_one, List.take_add_one, hp, List.getElem?_eq_getElem hlt, List.getElem?_eq_getElem hlt2]
      simp only [pAt, List.getD, List.getElem?_eq_getElem hlt, List.getElem?_eq_getElem hlt2, Option.getD_some] at hq
      rw [hq]
     repeat ((try conv => whnf); first | (refine Exists.intro l.length (And.intro hll ?_)) | (refine i_at (z1l hlt) ?_) | (refine i_at (z1l hlt2) ?_) | (refine z3k hq ?_) | (refine And.intro (by kernel_rfl) ?_) | (refine stpQ ?_))
     refine ⟨k + 1, ⟨by omega, hnx⟩, by omega, ?_⟩
     (refine z01 (by rfl) ?_ ?_) <;> repeat' (first | (exact eqA) | (refine shE ?_) | (refine And.intro ?_ ?_))
    ·have hne : ¬ l = m := fun h0 => hq (by rw [h0])
     rw [decide_eq_false hne]
     repeat ((try conv => whnf); first | (refine Exists.intro l.length (And.intro hll ?_)) | (refine i_at (z1l hlt) ?_) | (refine i_at (z1l hlt2) ?_) | (refine z3j hq ?_) | (refine And.intro (by kernel_rfl) ?_) | (refine stpQ ?_))
     (refine z02 (by rfl) ?_ ?_ (by rfl)) <;> repeat' (first | (exact eqA) | (refine shE ?_) | (refine And.intro ?_ ?_))
   ·have he : l = m := by
     rw [List.take_of_length_le (by omega), List.take_of_length_le (by omega)] at hp; exact hp
    rw [decide_eq_true he]
    repeat ((try conv => whnf); first | (refine Exists.intro l.length (And.intro hll ?_)) | (refine stpQ ?_))
    (refine z02 (by rfl) ?_ ?_ (by rfl)) <;> repeat' (first | (exact eqA) | (refine shE ?_) | (refine And.intro ?_ ?_))
 ·have hne : ¬ l = m := fun h0 => hn (by rw [h0])
  rw [decide_eq_false hne]
  repeat ((try conv => whnf); first | (refine Exists.intro l.length (And.intro hll ?_)) | (refine Exists.intro m.length (And.intro hlm ?_)) | (refine stpQ ?_))
  (refine z02 (by rfl) ?_ ?_ (by rfl)) <;> repeat' (first | (exact eqA) | (refine shE ?_) | (refine And.intro ?_ ?_))
end Go.Proofs.YtfjbinbpgdiafaaGreatDoor
namespace Go.Proofs.YtfjbinbpgdiafaaGreatDoor
set_option linter.unusedVariables false
set_option linter.unusedSimpArgs false
set_option linter.unusedSectionVars false
open Go.RowKit Pl
attribute [local irreducible] z0t z0u z0A AnsP LeP
structure PfSz (nm : Bs) (l : List Lf) (s : List Bs) : Prop where
 nm : nm.length ≤ 20
 len : l.length ≤ 30
 lv : ∀ x ∈ l, x.1.length ≤ 20 ∧ x.2.length ≤ 20
 sl : s.length ≤ 30
 sw : ∀ x ∈ s, x.length ≤ 40
theorem PfSz.at {nm : Bs} {l : List Lf} {s : List Bs} (h : PfSz nm l s) (k : Nat) : (lfAt l k).1.length ≤ 20 ∧ (lfAt l k).2.length ≤ 20 := by
 unfold lfAt
 rcases Nat.lt_or_ge k l.length with hk | hk
 ·simp only [List.getD, List.getElem?_eq_getElem hk, Option.getD_some]
  exact h.lv _ (List.getElem_mem hk)
 ·simp [List.getD, List.getElem?_eq_none hk]
theorem PfSz.fit {nm : Bs} {l : List Lf} {s : List Bs} (h : PfSz nm l s) : Fit l := fun i => by have := h.at i; omega
theorem PfSz.nms {nm : Bs} {l : List Lf} {s : List Bs} (h : PfSz nm l s) (k : Nat) : ((lfAt l k).1.length : Int) ≤ 100000000 := by have := h.at k; omega
end Go.Proofs.YtfjbinbpgdiafaaGreatDoor
namespace Go.Proofs.YtfjbinbpgdiafaaGreatDoor
set_option linter.unusedVariables false
set_option linter.unusedSimpArgs false
set_option linter.unusedSectionVars false
open Go.RowKit Pl
attribute [local irreducible] z0t z0u z0A AnsP LeP
end Go.Proofs.YtfjbinbpgdiafaaGreatDoor
namespace Go.Proofs.YtfjbinbpgdiafaaGreatDoor
set_option linter.unusedVariables false
set_option linter.unusedSimpArgs false
set_option linter.unusedSectionVars false
open Go.RowKit Pl
attribute [local irreducible] z0t z0u z0A AnsP LeP
end Go.Proofs.YtfjbinbpgdiafaaGreatDoor
