/- Functions by content: texts with a purpose, cut digests, hashes of what is empty, buckets. Functions by content: the program's tree: places and sides. Functions by content: the program's proofs. Functions by content: the program's proofs: written, judged, led up. Functions by content: the reference's tree. Functions by content: the reference's places and root. Functions by content: proofs of both sides, whatever they hold. Functions by content: the reference's texts of a proof. Functions by content: the reference's texts and hash of whatever proof. -/
import Derived.Test.YthbdlnogojcnmaaGreatDoorHb
import Derived.Test.YthbdlnogojcnmaaGreatDoorGg
import Derived.Test.YthbdlnogojcnmaaGreatDoorPlainM
namespace Go.Proofs.YthbdlnogojcnmaaGreatDoor
set_option maxRecDepth 100000
set_option maxHeartbeats 2000000
set_option linter.unusedVariables false
set_option linter.unusedSimpArgs false
set_option linter.unusedSectionVars false
open Go.RowKit Pl
attribute [local irreducible] z0p z0r z0y AnsP LeP
def z1P (ps : List Bs) : Prop := ps.length ≤ 60 ∧ ∀ p ∈ ps, p.length ≤ 200
def pAt (ps : List Bs) (k : Nat) : Bs := ps.getD k []
theorem zet {ps : List Bs} (h : z1P ps) (k : Nat) : (pAt ps k).length ≤ 200 := by
 unfold pAt
 rcases Nat.lt_or_ge k ps.length with hk | hk
 ·simp only [List.getD, List.getElem?_eq_getElem hk, Option.getD_some]; exact h.2 _ (List.getElem_mem hk)
 ·simp [List.getD, List.getElem?_eq_none hk]
theorem z4l {ps : List Bs} {k : Nat} (h : k < ps.length) : (strE ps)[k]? = some [.str (pAt ps k)] := by
 simp [strE, pAt, List.getD, List.getElem?_eq_getElem h]
def z2Z (k : Nat) (ps : List Bs) (i : Nat) : Bs := UInt8.ofNat k :: (ps.take i).flatMap z0m
theorem z4C {k : Nat} {ps : List Bs} {i : Nat} (h : i < ps.length) : z2Z k ps (i + 1) = z2Z k ps i ++ z0m (pAt ps i) := by
 have : ps.take (i + 1) = ps.take i ++ [pAt ps i] := by
  rw [List.take_add_one, List.getElem?_eq_getElem h]; simp [pAt, List.getD, List.getElem?_eq_getElem h]
 rw [z2Z, this]; simp [z2Z]
theorem z3l {k : Nat} {ps : List Bs} (h : z1P ps) : ∀ i, (z2Z k ps i).length ≤ 1 + 205 * i
 | 0 => by simp [z2Z]
 | i + 1 => by
   rcases Nat.lt_or_ge i ps.length with hi | hi
   ·rw [z4C hi, List.length_append]
    have h1 := z3l (k := k) h i
    have h2 := zet h i
    have h3 := z27 (l := pAt ps i) (by omega)
    omega
   ·have h1 := z3l (k := k) h i
    have : z2Z k ps (i + 1) = z2Z k ps i := by unfold z2Z; rw [List.take_of_length_le (by omega), List.take_of_length_le hi]
    rw [this]; omega
theorem z6d (k : Nat) (ps : List Bs) : z2Z k ps ps.length = tagB k ps := by rw [z2Z, List.take_length]; rfl
theorem z5i {k : Nat} {ps : List Bs} (h : z1P ps) : (tagB k ps).length ≤ 12301 := by
 have h1 := z3l (k := k) h ps.length
 rw [z6d] at h1
 have := h.1; omega
theorem z91 (k : Nat) (ps : List Bs) (hk : 1 ≤ k ∧ k ≤ 8) (hp : z1P ps) : CT Tryz.prog 190 [] [.int .i64 (k : Int), .sl 1 (strE ps)] (.tup [.str (tagB k ps), .bool true]) [] := by
 have hlen := z1k ps
 have hl60 := hp.1
 have c1 : CT Tryz.prog 33 [] [.int .i64 (k : Int), .int .i64 1, .int .i64 8] (.bool true) [] := by
  have := c_in (k : Int) 1 8
  rwa [z1h.2 (by omega)] at this
 rw [← z6d]
 refine z01 z0M 1 rfl Tryz.func190 rfl rfl rfl ?_
 repeat ((try conv => whnf); first | (refine ccA ([]) (c1) ?_) | (refine Exists.intro ps.length (And.intro hlen ?_)) | (refine w_u8 ?_) | (refine stpQ ?_))
 refine z0t 0 ⟨[(6, .ref 1)], [(1, some (.row 1 (z0k (z2Z k ps ps.length))))], 2⟩ Nat (fun i => ⟨[(6, .ref 1), (20, .sl 1 (strE ps)), (21, .int .i64 (ps.length : Int)), (22, .int .i64 (i : Int))], [(1, some (.row 1 (z0k (z2Z k ps i))))], 2⟩) (fun i => i ≤ ps.length) (fun i => ps.length - i) 0 (by omega) ?_ ?_ ?_
 ·(refine z04 (by rfl) ?_ ?_) <;> (repeat' (first | (exact eqA) | (refine shE ?_) | (refine And.intro ?_ ?_))) <;> first | rfl | decide
 ·intro i hi
  by_cases hlt : i < ps.length
  ·have hnx := z4C (k := k) hlt
   have hw := z3l (k := k) hp i
   have hpl := zet hp i
   have cs := z9I (pAt ps i) (by omega)
   have hsl := z27 (l := pAt ps i) (by omega)
   generalize z2Z k ps i = o at hnx hw ⊢
   have hbl := z0H o
   have hb2 := z0H (z0m (pAt ps i))
   repeat ((try conv => whnf); first | (refine i_at (z4l hlt) ?_) | (refine ccA ([]) (cs) ?_) | (refine And.intro (by rw [List.length_append, hbl, hb2]; omega) ?_) | (refine stpQ ?_))
   refine ⟨i + 1, by omega, by omega, ?_⟩
   rw [hnx]
   (refine z04 (by rfl) ?_ ?_) <;> (repeat' (first | (exact eqA) | (refine shE ?_) | (refine And.intro ?_ ?_)))
   simp [z0k]
  ·have hie : i = ps.length := by omega
   rw [hie]
   repeat ((try conv => whnf); first | (refine stpQ ?_))
   (refine z04 (by rfl) ?_ ?_) <;> (repeat' (first | (exact eqA) | (refine shE ?_) | (refine And.intro ?_ ?_)))
 ·repeat ((try conv => whnf); first | (refine Exists.intro (z2Z k ps ps.length) (And.intro rfl ?_)) | (refine stpQ ?_))
  (refine z00 (by rfl) ?_ ?_ (by rfl)) <;> (repeat' (first | (exact eqA) | (refine shE ?_) | (refine And.intro ?_ ?_)))
theorem zgj (t : Bs) (w : Nat) (ht : (t.length : Int) ≤ 100000000) (hw : 1 ≤ w ∧ w ≤ 32) : CT Tryz.prog 164 [] [.str t, .int .i64 (w : Int)] (.str (cutB t w)) [] := by
 have c1 := zbA (w : Int)
 rw [z1h.2 (by omega)] at c1
 have c2 := z8X t ht
 have hl := z2i t
 unfold cutB
 generalize z2h t = d at c2 hl ⊢
 refine z01 z0M 1 rfl Tryz.func164 rfl rfl rfl ?_
 repeat ((try conv => whnf); first | (refine ccA ([]) (c1) ?_) | (refine ccA ([]) (c2) ?_) | (refine stpQ ?_))
 (refine z00 (by rfl) ?_ ?_ (by rfl)) <;> (repeat' (first | (exact eqA) | (refine shE ?_) | (refine And.intro ?_ ?_)))
theorem zeu (k : Nat) (ps : List Bs) (w : Nat) (hk : 1 ≤ k ∧ k ≤ 8) (hp : z1P ps) (hw : 1 ≤ w ∧ w ≤ 32) : CT Tryz.prog 191 [] [.int .i64 (k : Int), .sl 1 (strE ps), .int .i64 (w : Int)] (.str (z2X k ps w)) [] := by
 have c1 := z91 k ps hk hp
 have hl := z5i (k := k) hp
 have c2 := zgj (tagB k ps) w (by omega) hw
 unfold z2X
 generalize tagB k ps = t at c1 c2 hl ⊢
 refine z01 z0M 1 rfl Tryz.func191 rfl rfl rfl ?_
 repeat ((try conv => whnf); first | (refine ccA ([]) (c1) ?_) | (refine ccA ([]) (c2) ?_) | (refine stpQ ?_))
 (refine z00 (by rfl) ?_ ?_ (by rfl)) <;> (repeat' (first | (exact eqA) | (refine shE ?_) | (refine And.intro ?_ ?_)))
theorem z7T (k : Nat) (ps : List Bs) (w : Nat) (hk : 1 ≤ k ∧ k ≤ 8) (hp : z1P ps) (hw : 1 ≤ w ∧ w ≤ 32) : CT Tryz.prog 167 [] [.int .i64 (k : Int), .int .i64 (w : Int), .sl 1 (strE ps)] (.str (z2X k ps w)) [] := by
 have c1 := zeu k ps w hk hp hw
 refine z01 z0M 1 rfl Tryz.func167 rfl rfl rfl ?_
 repeat ((try conv => whnf); first | (refine ccA ([]) (c1) ?_) | (refine stpQ ?_))
 (refine z00 (by rfl) ?_ ?_ (by rfl)) <;> (repeat' (first | (exact eqA) | (refine shE ?_) | (refine And.intro ?_ ?_)))
theorem z4m : z1P [] := ⟨by simp, fun p h => by cases h⟩
theorem z4n {a b : Bs} (ha : a.length ≤ 200) (hb : b.length ≤ 200) : z1P [a, b] := ⟨by simp, fun p h => by
 rcases List.mem_cons.1 h with rfl | h
 ·exact ha
 ·rw [List.mem_singleton.1 h]; exact hb⟩
theorem za6 (d w : Nat) (hd : d ≤ 8) (hw : 1 ≤ w ∧ w ≤ 32) : CT Tryz.prog 166 [] [.int .i64 (8 - (d : Int)), .int .i64 (w : Int)] (.str (emB w d)) [] := by
 have c1 := z7T 1 [] w (by omega) z4m hw
 refine z01 z0M 1 rfl Tryz.func166 rfl rfl rfl ?_
 repeat ((try conv => whnf); first | (refine ccA ([]) (c1) ?_) | (refine stpQ ?_))
 refine z0t 0 ⟨[(5, .str (emB w d))], [], 2⟩ Nat (fun j => ⟨[(0, .int .i64 (8 - (d : Int))), (1, .int .i64 (w : Int)), (5, .str (emB w j)), (6, .int .i64 (8 - (j : Int)))], [], 2⟩) (fun j => j ≤ d) (fun j => d - j) 0 (by omega) ?_ ?_ ?_
 ·(refine z04 (by rfl) ?_ ?_) <;> (repeat' (first | (exact eqA) | (refine shE ?_) | (refine And.intro ?_ ?_))) <;> first | rfl | decide
 ·intro j hj
  by_cases hlt : j < d
  ·have he := z9R hw.2 j
   have c2 := z7T 3 [emB w j, emB w j] w (by omega) (z4n (by omega) (by omega)) hw
   have hnx : emB w (j + 1) = z2X 3 [emB w j, emB w j] w := rfl
   have e1 : IntKind.i64.wrap (8 - (j : Int) - 1) = 8 - ((j + 1 : Nat) : Int) := by rw [wrap_i64 (by omega) (by omega)]; omega
   generalize emB w j = o at he c2 hnx ⊢
   repeat ((try conv => whnf); first | (refine ccA ([]) (c2) ?_) | (refine Exists.intro _ (And.intro e1.symm ?_)) | (refine stpQ ?_))
   refine ⟨j + 1, by omega, by omega, ?_⟩
   rw [hnx]
   (refine z04 (by rfl) ?_ ?_) <;> (repeat' (first | (exact eqA) | (refine shE ?_) | (refine And.intro ?_ ?_)))
  ·have hje : j = d := by omega
   rw [hje]
   repeat ((try conv => whnf); first | (refine stpQ ?_))
   (refine z04 (by rfl) ?_ ?_) <;> (repeat' (first | (exact eqA) | (refine shE ?_) | (refine And.intro ?_ ?_)))
 ·repeat ((try conv => whnf); first | (refine stpQ ?_))
  (refine z00 (by rfl) ?_ ?_ (by rfl)) <;> (repeat' (first | (exact eqA) | (refine shE ?_) | (refine And.intro ?_ ?_)))
theorem z6e {l : List Lf} {k : Nat} (h : k < l.length) : z1V (l.take (k + 1)) = z1V (l.take k) ++ [(lfAt l k).1, (lfAt l k).2] := by
 rw [z1e l k h]; simp [z1V]
theorem z4D (l : List Lf) : (z1V l).length = 2 * l.length := by
 induction l with
 | nil => rfl
 | cons x l ih => simp only [z1V, List.flatMap_cons, List.length_append, List.length_cons] at ih ⊢; simp at ih ⊢; omega
theorem z3m {l : List Lf} (h : z0f l = true) : z1P (z1V l) := by
 obtain ⟨h1, h2, _⟩ := z0w h
 refine ⟨by rw [z4D]; omega, fun p hp => ?_⟩
 simp only [z1V, List.mem_flatMap] at hp
 obtain ⟨x, hx, hp⟩ := hp
 have := h2 x hx
 have a := z1f this.1
 have b := z1o this.2
 rcases List.mem_cons.1 hp with rfl | hp
 ·omega
 ·rw [List.mem_singleton.1 hp]; omega
theorem zbB (a b : List Bs) : strE (a ++ b) = strE a ++ strE b := by simp [strE]
theorem z92 (l : List Lf) (h : z0f l = true) : CT Tryz.prog 165 [] [.sl 2 (lvE l)] (.str (z1u l)) [] := by
 have hlen := z0E l
 have h24 := (z0w h).1
 have c1 := z91 (if l = [] then 1 else 2) (z1V l) (by split <;> omega) (z3m h)
 have e : z1u l = tagB (if l = [] then 1 else 2) (z1V l) := by
  unfold z1u
  split
  ·rename_i h0; subst h0; rfl
  ·rfl
 rw [e]
 refine z01 z0M 1 rfl Tryz.func165 rfl rfl rfl ?_
 repeat ((try conv => whnf); first | (refine Exists.intro l.length (And.intro hlen ?_)) | (refine stpQ ?_))
 refine z0t 0 ⟨[(3, .int .i64 ((if l = [] then 1 else 2 : Nat) : Int)), (4, .ref 1)], [(1, some (.row 1 (strE (z1V l))))], 2⟩ Nat (fun k => ⟨[(3, .int .i64 ((if l.take k = [] then 1 else 2 : Nat) : Int)), (4, .ref 1), (9, .sl 2 (lvE l)), (10, .int .i64 (l.length : Int)), (11, .int .i64 (k : Int))], [(1, some (.row 1 (strE (z1V (l.take k)))))], 2⟩) (fun k => k ≤ l.length) (fun k => l.length - k) 0 (by omega) ?_ ?_ ?_
 ·(refine z04 (by rfl) ?_ ?_) <;> (repeat' (first | (exact eqA) | (refine shE ?_) | (refine And.intro ?_ ?_))) <;> first | rfl | decide
 ·intro k hk
  by_cases hlt : k < l.length
  ·have hnx := z6e hlt
   have hw := z4D (l.take k)
   have hne : ¬ (l.take (k + 1) = []) := fun h0 => by
    have := congrArg List.length h0
    rw [List.length_take, List.length_nil] at this; omega
   have hkl : (l.take k).length = k := by rw [List.length_take]; omega
   generalize z1V (l.take k) = o at hnx hw ⊢
   have hol := z1k o
   repeat ((try conv => whnf); first | (refine i_at (z1j hlt) ?_) | (refine And.intro (by simp [z1k]; omega) ?_) | (refine stpQ ?_))
   refine ⟨k + 1, by omega, by omega, ?_⟩
   rw [hnx, if_neg hne]
   (refine z04 (by rfl) ?_ ?_) <;> (repeat' (first | (exact eqA) | (refine shE ?_) | (refine And.intro ?_ ?_)))
   rw [zbB]; rfl
  ·have hke : k = l.length := by omega
   rw [hke, List.take_length]
   repeat ((try conv => whnf); first | (refine stpQ ?_))
   (refine z04 (by rfl) ?_ ?_) <;> (repeat' (first | (exact eqA) | (refine shE ?_) | (refine And.intro ?_ ?_)))
 ·generalize (if l = [] then 1 else 2 : Nat) = kk at c1 ⊢
  repeat ((try conv => whnf); first | (refine ccA ([]) (c1) ?_) | (refine stpQ ?_))
  (refine z00 (by rfl) ?_ ?_ (by rfl)) <;> (repeat' (first | (exact eqA) | (refine shE ?_) | (refine And.intro ?_ ?_)))
end Go.Proofs.YthbdlnogojcnmaaGreatDoor
namespace Go.Proofs.YthbdlnogojcnmaaGreatDoor
set_option maxRecDepth 100000
set_option maxHeartbeats 8000000
set_option linter.unusedVariables false
set_option linter.unusedSimpArgs false
set_option linter.unusedSectionVars false
open Go.RowKit Pl
attribute [local irreducible] z0p z0r z0y AnsP LeP
def ex3 : List (Nat × Ty) := [
 (114, ⟨3, 56, [.val nilV, .val nilV, .int .i64 0], .struct [(0, 36), (1, 28), (2, 3)], false⟩),
 (158, ⟨3, 40, [.str [], .str [], .int .i64 0], .struct [(0, 103), (2, 3)], false⟩),
 (127, tySl 158),
 (3, zfm)]
theorem zhf : ∀ p ∈ ex3, TyOk Tryz.prog p.1 p.2 := by
 simp only [ex3, List.forall_mem_cons]
 repeat' (refine And.intro ?_ ?_)
 all_goals first
  | exact (fun _ h => by cases h)
  | exact ⟨⟨_, _, rfl, rfl, rfl, rfl, rfl⟩, ⟨_, rfl, rfl⟩, rfl, rfl, fun h => (Bool.false_ne_true h).elim⟩
def ttL3 : List (Nat × Ty) := ttL ++ ex3
def tt3 : TT := lk ttL3
theorem zbC : TtOk Tryz.prog tt3 := fun t y h => by
 have hm : (t, y) ∈ ttL3 := z1r h
 rcases List.mem_append.1 hm with h | h
 ·exact z8A (t, y) h
 ·exact zhf (t, y) h
def ixE (l : List Lf) : List (List T) := l.map fun x => [.int .i64 (ixB x.1 : Int)]
theorem zhg (l : List Lf) : (ixE l).length = l.length := by simp [ixE]
theorem ixE_at {l : List Lf} {k : Nat} (h : k < l.length) : (ixE l)[k]? = some [.int .i64 (ixB (lfAt l k).1 : Int)] := by
 rw [z7E h]; simp [ixE, List.getElem?_eq_getElem h]
theorem zfJ {l : List Lf} {k : Nat} (h : k < l.length) : ixE (l.take (k + 1)) = ixE (l.take k) ++ [[.int .i64 (ixB (lfAt l k).1 : Int)]] := by
 rw [z1e l k h]; simp [ixE]
theorem za7 {l : List Lf} (h : z0f l = true) (k : Nat) : ((lfAt l k).1.length : Int) ≤ 100000000 := by
 obtain ⟨_, h2, _⟩ := z0w h
 unfold lfAt
 rcases Nat.lt_or_ge k l.length with hk | hk
 ·simp only [List.getD, List.getElem?_eq_getElem hk, Option.getD_some]
  have := z1f (h2 _ (List.getElem_mem hk)).1
  omega
 ·simp [List.getD, List.getElem?_eq_none hk]
theorem zcu (l : List Lf) (w : Nat) (h : z0f l = true) : CT Tryz.prog 79 [] [.sl 2 (lvE l), .int .i64 (w : Int)] (.agg [.sl 2 (lvE l), .ref 1, .int .i64 (w : Int)]) [.row 1 (ixE l)] := by
 have hlen := z0E l
 have h24 := (z0w h).1
 refine z01 zbC 1 rfl Tryz.func79 rfl rfl rfl ?_
 repeat ((try conv => whnf); first | (refine Exists.intro l.length (And.intro hlen ?_)) | (refine stpQ ?_))
 refine z0t 0 ⟨[(4, .ptr 1 0 0), (5, .ptr 2 0 0)], [(1, some (.box [.val nilV, .val nilV, .int .i64 0])), (2, some (.box [.sl 2 (lvE l), .ref 3, .int .i64 (w : Int)])), (3, some (.row 1 (ixE l)))], 4⟩ Nat (fun k => ⟨[(4, .ptr 1 0 0), (5, .ptr 2 0 0), (11, .sl 2 (lvE l)), (12, .int .i64 (l.length : Int)), (13, .int .i64 (k : Int))], [(1, some (.box [.val nilV, .val nilV, .int .i64 0])), (2, some (.box [.sl 2 (lvE l), .ref 3, .int .i64 (w : Int)])), (3, some (.row 1 (ixE (l.take k))))], 4⟩) (fun k => k ≤ l.length) (fun k => l.length - k) 0 (by omega) ?_ ?_ ?_
 ·(refine z04 (by rfl) ?_ ?_) <;> (repeat' (first | (exact eqA) | (refine shE ?_) | (refine And.intro ?_ ?_))) <;> first | rfl | decide
 ·intro k hk
  by_cases hlt : k < l.length
  ·have hnx := zfJ hlt
   have hw := zhg (l.take k)
   have hkl : (l.take k).length = k := by rw [List.length_take]; omega
   have c1 := z8Y (lfAt l k).1 (za7 h k)
   generalize ixE (l.take k) = o at hnx hw ⊢
   repeat ((try conv => whnf); first | (refine i_at (z1j hlt) ?_) | (refine ccA ([]) (c1) ?_) | (refine And.intro (by rw [List.length_append]; simp; omega) ?_) | (refine And.intro (by kernel_rfl) ?_) | (refine stpQ ?_))
   refine ⟨k + 1, by omega, by omega, ?_⟩
   rw [hnx]
   (refine z04 (by rfl) ?_ ?_) <;> (repeat' (first | (exact eqA) | (refine shE ?_) | (refine And.intro ?_ ?_))) <;> rfl
  ·have hke : k = l.length := by omega
   rw [hke, List.take_length]
   repeat ((try conv => whnf); first | (refine stpQ ?_))
   (refine z04 (by rfl) ?_ ?_) <;> (repeat' (first | (exact eqA) | (refine shE ?_) | (refine And.intro ?_ ?_)))
 ·repeat ((try conv => whnf); first | (refine stpQ ?_))
  (refine z00 (by rfl) ?_ ?_ (by rfl)) <;> (repeat' (first | (exact eqA) | (refine shE ?_) | (refine And.intro ?_ ?_)))
theorem zbD {l : List Lf} {k d p : Nat} (h : k < l.length) : atP (l.take (k + 1)) d p = atP (l.take k) d p ++ (if ixB (lfAt l k).1 / 2 ^ d = p then [lfAt l k] else []) := by
 unfold atP
 rw [z2N h]
 by_cases he : ixB (lfAt l k).1 / 2 ^ d = p <;> simp [he]
theorem zgk {l : List Lf} {d p : Nat} (h : z0f l = true) : z0f (atP l d p) = true := by
 obtain ⟨h1, h2, h3⟩ := z0w h
 exact z8D (Nat.le_trans (List.length_filter_le _ _) h1) (fun x hx => h2 x (List.mem_filter.1 hx).1) (h3.filter _)
theorem zev (a d : Nat) : ((a : Nat) : Int) / 2 ^ ((d : Nat) : Int).toNat = ((a / 2 ^ d : Nat) : Int) := by rw [Int.toNat_natCast]; simp
theorem z6f {l : List Lf} (h : z0f l = true) : (z1u l).length ≤ 12301 := by
 unfold z1u
 split
 ·exact z5i z4m
 ·exact z5i (z3m h)
theorem zew (l : List Lf) (w : Nat) (h : z0f l = true) (hw : 1 ≤ w ∧ w ≤ 32) : ∀ (d p : Nat), d ≤ 8 → p < 2 ^ (8 - d) → CT Tryz.prog 129 [] [.agg [.sl 2 (lvE l), .sl 1 (ixE l), .int .i64 (w : Int)], .int .i64 (8 - (d : Int)), .int .i64 (p : Int)] (.str (z0J l w d p)) []
 | d, p, hd, hp => by
   have hlen := z0E l
   have h24 := (z0w h).1
   have e1 : IntKind.i64.wrap (8 - (8 - (d : Int))) = ((d : Nat) : Int) := by rw [wrap_i64 (by omega) (by omega)]; omega
   have hokA := zgk (d := d) (p := p) h
   have hlA := z0E (atP l d p)
   refine z01 zbC 1 rfl Tryz.func129 rfl rfl rfl ?_
   repeat ((try conv => whnf); first | (refine Exists.intro l.length (And.intro hlen ?_)) | (refine stpQ ?_))
   refine z0t 0 ⟨[(1, .int .i64 (8 - (d : Int))), (2, .int .i64 (p : Int)), (3, .ptr 1 0 0), (7, .ref 2)], [(1, some (.box [.sl 2 (lvE l), .sl 1 (ixE l), .int .i64 (w : Int)])), (2, some (.row 2 (lvE (atP l d p))))], 3⟩ Nat (fun k => ⟨[(1, .int .i64 (8 - (d : Int))), (2, .int .i64 (p : Int)), (3, .ptr 1 0 0), (7, .ref 2), (11, .sl 2 (lvE l)), (12, .int .i64 (l.length : Int)), (13, .int .i64 (k : Int))], [(1, some (.box [.sl 2 (lvE l), .sl 1 (ixE l), .int .i64 (w : Int)])), (2, some (.row 2 (lvE (atP (l.take k) d p))))], 3⟩) (fun k => k ≤ l.length) (fun k => l.length - k) 0 (by omega) ?_ ?_ ?_
   ·(refine z04 (by rfl) ?_ ?_) <;> (repeat' (first | (exact eqA) | (refine shE ?_) | (refine And.intro ?_ ?_))) <;> first | rfl | decide
   ·intro k hk
    by_cases hlt : k < l.length
    ·have hnx := zbD (d := d) (p := p) hlt
     have hwk : (atP (l.take k) d p).length ≤ k := Nat.le_trans (List.length_filter_le _ _) (by rw [List.length_take]; omega)
     have e2 := zev (ixB (lfAt l k).1) d
     generalize atP (l.take k) d p = o at hnx hwk ⊢
     have hol := z0E o
     repeat' (first | ((try conv => whnf); first | (refine i_at (z1j hlt) ?_) | (refine i_at (ixE_at hlt) ?_) | (refine Exists.intro _ (And.intro e1.symm ?_)) | (refine And.intro (show _ ≤ (64 : Int) from by omega) ?_) | (refine Exists.intro _ (And.intro e2.symm ?_)) | (refine And.intro (by simp [z0E]; omega) ?_) | (refine And.intro (by kernel_rfl) ?_) | (refine stpQ ?_)) | ((try conv => whnf); first | (refine cb_d (fun h => ?_) (fun h => ?_)) | (refine cb_n (fun h => ?_) (fun h => ?_)) | (refine cb (fun h => ?_) (fun h => ?_))))
     all_goals first
      | (exfalso; omega)
      | (rename_i hc
         have hc2 : ixB (lfAt l k).1 / 2 ^ d = p := by omega
         refine ⟨k + 1, by omega, by omega, ?_⟩
         rw [hnx, if_pos hc2]
         (refine z04 (by rfl) ?_ ?_) <;> (repeat' (first | (exact eqA) | (refine shE ?_) | (refine And.intro ?_ ?_)))
         rw [z2B]; rfl)
      | (rename_i hc
         have hc2 : ¬ (ixB (lfAt l k).1 / 2 ^ d = p) := by omega
         refine ⟨k + 1, by omega, by omega, ?_⟩
         rw [hnx, if_neg hc2, List.append_nil]
         (refine z04 (by rfl) ?_ ?_) <;> (repeat' (first | (exact eqA) | (refine shE ?_) | (refine And.intro ?_ ?_))))
    ·have hke : k = l.length := by omega
     rw [hke, List.take_length]
     repeat ((try conv => whnf); first | (refine stpQ ?_))
     (refine z04 (by rfl) ?_ ?_) <;> (repeat' (first | (exact eqA) | (refine shE ?_) | (refine And.intro ?_ ?_)))
   ·cases d with
    | zero =>
      have c1 := z92 (atP l 0 p) hokA
      have c2 := zgj (z1u (atP l 0 p)) w (by have := z6f hokA; omega) hw
      rw [show z0J l w 0 p = cutB (z1u (atP l 0 p)) w from rfl]
      generalize atP l 0 p = o at c1 c2 ⊢
      repeat ((try conv => whnf); first | (refine ccA ([]) (c1) ?_) | (refine ccA ([]) (c2) ?_) | (refine And.intro (by kernel_rfl) ?_) | (refine stpQ ?_))
      (refine z00 (by rfl) ?_ ?_ (by rfl)) <;> (repeat' (first | (exact eqA) | (refine shE ?_) | (refine And.intro ?_ ?_)))
    | succ d =>
      by_cases hE : atP l (d + 1) p = []
      ·have c1 := za6 (d + 1) w hd hw
       rw [show z0J l w (d + 1) p = emB w (d + 1) from by rw [z0J, if_pos hE], hE]
       repeat ((try conv => whnf); first | (refine ccA ([]) (c1) ?_) | (refine And.intro (by kernel_rfl) ?_) | (refine stpQ ?_))
       (refine z00 (by rfl) ?_ ?_ (by rfl)) <;> (repeat' (first | (exact eqA) | (refine shE ?_) | (refine And.intro ?_ ?_)))
      ·have hpos : 0 < (atP l (d + 1) p).length := List.length_pos_iff.2 hE
       have hpw : 2 ^ (8 - d) = 2 * 2 ^ (8 - (d + 1)) := by
        rw [show 8 - d = (8 - (d + 1)) + 1 by omega, Nat.pow_succ]; omega
       have hsm : 2 ^ (8 - d) ≤ 2 ^ 8 := Nat.pow_le_pow_right (by decide) (by omega)
       have i1 := zew l w h hw d (2 * p) (by omega) (by omega)
       have i2 : CT Tryz.prog 129 [] [.agg [.sl 2 (lvE l), .sl 1 (ixE l), .int .i64 (w : Int)], .int .i64 (8 - (d : Int)), .int .i64 ((2 * p + 1 : Nat) : Int)] (.str (z0J l w d (2 * p + 1))) [] := zew l w h hw d (2 * p + 1) (by omega) (by omega)
       have n1 := z4g (l := l) hw.2 d (2 * p)
       have n2 := z4g (l := l) hw.2 d (2 * p + 1)
       have c1 := z7T 3 [z0J l w d (2 * p), z0J l w d (2 * p + 1)] w (by omega) (z4n (by omega) (by omega)) hw
       rw [show z0J l w (d + 1) p = z2X 3 [z0J l w d (2 * p), z0J l w d (2 * p + 1)] w from by rw [z0J, if_neg hE]]
       have e3 : IntKind.i64.wrap (8 - ((d + 1 : Nat) : Int) + 1) = 8 - (d : Int) := by rw [wrap_i64 (by omega) (by omega)]; omega
       generalize atP l (d + 1) p = o at hpos hlA ⊢
       generalize z0J l w d (2 * p) = x1 at i1 c1 n1 ⊢
       generalize z0J l w d (2 * p + 1) = x2 at i2 c1 n2 ⊢
       repeat ((try conv => whnf); first | (refine Exists.intro o.length (And.intro hlA ?_)) | (refine Exists.intro _ (And.intro e3.symm ?_)) | (refine z6c (by omega) ?_) | (refine ccA ([]) (i1) ?_) | (refine ccA ([]) (i2) ?_) | (refine ccA ([]) (c1) ?_) | (refine And.intro (by kernel_rfl) ?_) | (refine stpQ ?_))
       (refine z00 (by rfl) ?_ ?_ (by rfl)) <;> (repeat' (first | (exact eqA) | (refine shE ?_) | (refine And.intro ?_ ?_)))
end Go.Proofs.YthbdlnogojcnmaaGreatDoor
namespace Go.Proofs.YthbdlnogojcnmaaGreatDoor
set_option linter.unusedVariables false
set_option linter.unusedSimpArgs false
set_option linter.unusedSectionVars false
open Go.RowKit Pl
attribute [local irreducible] z0p z0r z0y AnsP LeP
theorem c_isW (w : Nat) (hw : 1 ≤ w ∧ w ≤ 32) : CT Tryz.prog 77 [] [.int .i64 (w : Int)] (.bool true) [] := by
 have := zbA (w : Int)
 rwa [z1h.2 (by omega)] at this
end Go.Proofs.YthbdlnogojcnmaaGreatDoor
namespace Go.Proofs.YthbdlnogojcnmaaGreatDoor
set_option linter.unusedVariables false
set_option linter.unusedSimpArgs false
set_option linter.unusedSectionVars false
open Go.RowKit Pl
attribute [local irreducible] z0p z0r z0y AnsP LeP
def pfGood (nm : Bs) (l : List Lf) (s : List Bs) (w : Int) : Bool :=
 z10 nm && (z0f l && (decide (s.length ≤ 8) && (inB w 1 32 && ((s.all fun x => decide ((x.length : Int) = w)) && decide ((zhc l (ixB nm : Int)).length = l.length)))))
def FdAt (R : List Bs × Bs) (ix w : Nat) (T : List Bs) (j : Nat) (h : Bs) (rest : List Bs) : Prop := R = (T ++ (z9T ix w j h rest).1, (z9T ix w j h rest).2)
theorem FdAt.step {R : List Bs × Bs} {ix w : Nat} {T : List Bs} {j : Nat} {h s : Bs} {rest : List Bs} (hR : FdAt R ix w T j h (s :: rest)) : FdAt R ix w (T ++ [tagB 3 (zh0 ix j h s)]) (j + 1) (cutB (tagB 3 (zh0 ix j h s)) w) rest := by
 unfold FdAt at hR ⊢; rw [hR]; simp [z9T]
theorem FdAt.done {R : List Bs × Bs} {ix w : Nat} {T : List Bs} {j : Nat} {h : Bs} (hR : FdAt R ix w T j h []) : R = (T, h) := by
 unfold FdAt at hR; rw [hR]; simp [z9T]
end Go.Proofs.YthbdlnogojcnmaaGreatDoor
namespace Go.Proofs.YthbdlnogojcnmaaGreatDoor
set_option maxRecDepth 100000
set_option maxHeartbeats 4000000
set_option linter.unusedVariables false
set_option linter.unusedSimpArgs false
set_option linter.unusedSectionVars false
open Go.RowKit Pl
attribute [local irreducible] z0p z0r z0y AnsP LeP
theorem zex (t : Bs) (w : Nat) (ht : (t.length : Int) ≤ 100000000) (hw : 1 ≤ w ∧ w ≤ 32) : CT Tryz.prog 42 [] [.str t, .int .i64 (w : Int)] (.str (cutB t w)) [] := by
 have c1 := z21 (w : Int) 1 32
 rw [z1h.2 (by omega)] at c1
 have c2 := zby t ht
 have hl := z2i t
 unfold cutB
 generalize z2h t = d at c2 hl ⊢
 refine z01 z0M 1 rfl Tryz.func42 rfl rfl rfl ?_
 repeat ((try conv => whnf); first | (refine ccA ([]) (c1) ?_) | (refine ccA ([]) (c2) ?_) | (refine stpQ ?_))
 (refine z00 (by rfl) ?_ ?_ (by rfl)) <;> (repeat' (first | (exact eqA) | (refine shE ?_) | (refine And.intro ?_ ?_)))
theorem z4E (k : Nat) (ps : List Bs) (hk : 1 ≤ k ∧ k ≤ 8) (hp : z1P ps) : CT Tryz.prog 81 [] [.int .i64 (k : Int), .sl 1 (strE ps)] (.tup [.str (tagB k ps), .bool true]) [] := by
 have hlen := z1k ps
 have hl60 := hp.1
 have c1 : CT Tryz.prog 38 [] [.int .i64 (k : Int), .int .i64 1, .int .i64 8] (.bool true) [] := by
  have := z21 (k : Int) 1 8
  rwa [z1h.2 (by omega)] at this
 rw [← z6d]
 refine z01 z0M 1 rfl Tryz.func81 rfl rfl rfl ?_
 repeat ((try conv => whnf); first | (refine ccA ([]) (c1) ?_) | (refine Exists.intro ps.length (And.intro hlen ?_)) | (refine w_u8 ?_) | (refine Exists.intro [UInt8.ofNat k] (And.intro rfl ?_)) | (refine stpQ ?_))
 refine z0t 0 ⟨[(6, .str (z2Z k ps ps.length))], [], 2⟩ Nat (fun i => ⟨[(1, .sl 1 (strE ps)), (6, .str (z2Z k ps i)), (7, .int .i64 (i : Int))], [], 2⟩) (fun i => i ≤ ps.length) (fun i => ps.length - i) 0 (by omega) ?_ ?_ ?_
 ·(refine z04 (by rfl) ?_ ?_) <;> (repeat' (first | (exact eqA) | (refine shE ?_) | (refine And.intro ?_ ?_))) <;> first | rfl | decide
 ·intro i hi
  by_cases hlt : i < ps.length
  ·have hnx := z4C (k := k) hlt
   have hw := z3l (k := k) hp i
   have hpl := zet hp i
   have cs := z4h (pAt ps i).length (by omega)
   have hvl := zbk (n := (pAt ps i).length) (by omega)
   generalize z2Z k ps i = o at hnx hw ⊢
   have hsh : z0m (pAt ps i) = z03 (pAt ps i).length ++ pAt ps i := rfl
   rw [hsh] at hnx
   generalize z03 (pAt ps i).length = v at cs hvl hnx
   repeat ((try conv => whnf); first | (refine Exists.intro ps.length (And.intro hlen ?_)) | (refine i_at (z4l hlt) ?_) | (refine ccA ([]) (cs) ?_) | (refine And.intro (by rw [List.length_append]; omega) ?_) | (refine And.intro (by kernel_rfl) ?_) | (refine stpQ ?_))
   refine ⟨i + 1, by omega, by omega, ?_⟩
   rw [hnx]
   (refine z04 (by rfl) ?_ ?_) <;> (repeat' (first | (exact eqA) | (refine shE ?_) | (refine And.intro ?_ ?_)))
   rw [List.append_assoc]
  ·have hie : i = ps.length := by omega
   rw [hie]
   repeat ((try conv => whnf); first | (refine Exists.intro ps.length (And.intro hlen ?_)) | (refine stpQ ?_))
   (refine z04 (by rfl) ?_ ?_) <;> (repeat' (first | (exact eqA) | (refine shE ?_) | (refine And.intro ?_ ?_)))
 ·repeat ((try conv => whnf); first | (refine stpQ ?_))
  (refine z00 (by rfl) ?_ ?_ (by rfl)) <;> (repeat' (first | (exact eqA) | (refine shE ?_) | (refine And.intro ?_ ?_)))
theorem z4F (k : Nat) (ps : List Bs) (w : Nat) (hk : 1 ≤ k ∧ k ≤ 8) (hp : z1P ps) (hw : 1 ≤ w ∧ w ≤ 32) : CT Tryz.prog 40 [] [.int .i64 (k : Int), .sl 1 (strE ps), .int .i64 (w : Int)] (.str (z2X k ps w)) [] := by
 have c1 := z4E k ps hk hp
 have hl := z5i (k := k) hp
 have c2 := zex (tagB k ps) w (by omega) hw
 unfold z2X
 generalize tagB k ps = t at c1 c2 hl ⊢
 refine z01 z0M 1 rfl Tryz.func40 rfl rfl rfl ?_
 repeat ((try conv => whnf); first | (refine ccA ([]) (c1) ?_) | (refine ccA ([]) (c2) ?_) | (refine stpQ ?_))
 (refine z00 (by rfl) ?_ ?_ (by rfl)) <;> (repeat' (first | (exact eqA) | (refine shE ?_) | (refine And.intro ?_ ?_)))
def empJ (w j : Nat) : List Bs := (List.range 9).map fun i => if 8 - j ≤ i then emB w (8 - i) else []
theorem zbE (w j : Nat) : (empJ w j).length = 9 := by simp [empJ]
theorem zey {w j i : Nat} (hi : i < 9) (hj : 8 - j ≤ i) : pAt (empJ w j) i = emB w (8 - i) := by
 simp only [pAt, empJ, List.getD, List.getElem?_map, List.getElem?_range hi, Option.map_some, Option.getD_some, if_pos hj]
theorem zfK (w j : Nat) (hj : j < 8) : (empJ w j).set (7 - j) (emB w (j + 1)) = empJ w (j + 1) := by
 apply List.ext_getElem?
 intro i
 rw [List.getElem?_set]
 by_cases hi : i < 9
 ·simp only [empJ, List.getElem?_map, List.getElem?_range hi, Option.map_some, List.length_map, List.length_range]
  by_cases h1 : 7 - j = i
  ·subst h1
   have e1 : 8 - (7 - j) = j + 1 := by omega
   have e2 : 8 - (j + 1) ≤ 7 - j := by omega
   rw [if_pos rfl, if_pos hi, e1, if_pos e2]
  ·rw [if_neg h1]
   by_cases h2 : 8 - j ≤ i
   ·rw [if_pos h2, if_pos (by omega)]
   ·rw [if_neg h2, if_neg (by omega)]
 ·have h1 : ¬ (7 - j = i) := by omega
  rw [if_neg h1]
  simp [empJ, hi]
theorem zfL (l : List Bs) (i : Nat) (x : Bs) : (strE l).set i [.str x] = strE (l.set i x) := by simp [strE, List.map_set]
theorem zez (w : Nat) (hw : 1 ≤ w ∧ w ≤ 32) : CT Tryz.prog 91 [] [.int .i64 (w : Int)] (.ref 1) [.row 1 (strE (empJ w 8))] := by
 have c1 := z4F 1 [] w (by omega) z4m hw
 refine z01 z0M 1 rfl Tryz.func91 rfl rfl rfl ?_
 repeat ((try conv => whnf); first | (refine ccA ([]) (c1) ?_) | (refine Exists.intro 9 (And.intro rfl ?_)) | (refine i_lt (i := 8) (by simp) ?_) | (refine Exists.intro _ (And.intro rfl ?_)) | (refine And.intro (by kernel_rfl) ?_) | (refine stpQ ?_))
 refine z0t 0 ⟨[(3, .ref 1)], [(1, some (.row 1 (strE (empJ w 8))))], 2⟩ Nat (fun j => ⟨[(0, .int .i64 (w : Int)), (3, .ref 1), (4, .int .i64 (7 - (j : Int)))], [(1, some (.row 1 (strE (empJ w j))))], 2⟩) (fun j => j ≤ 8) (fun j => 8 - j) 0 (by omega) ?_ ?_ ?_
 ·(refine z04 (by rfl) ?_ ?_) <;> (repeat' (first | (exact eqA) | (refine shE ?_) | (refine And.intro ?_ ?_))) <;> first | rfl | decide
 ·intro j hj
  by_cases hlt : j < 8
  ·have hst := zfK w j hlt
   have hl := zbE w j
   have he := zey (w := w) (j := j) (i := 7 - j + 1) (by omega) (by omega)
   have e8 : 8 - (7 - j + 1) = j := by omega
   rw [e8] at he
   have hel := z9R hw.2 j
   have c2 := z4F 3 [emB w j, emB w j] w (by omega) (z4n (by omega) (by omega)) hw
   have hnx : emB w (j + 1) = z2X 3 [emB w j, emB w j] w := rfl
   have e7 : 7 - (j : Int) = ((7 - j : Nat) : Int) := by omega
   have e4 : IntKind.i64.wrap (((7 - j : Nat) : Int) - 1) = 7 - ((j + 1 : Nat) : Int) := by rw [wrap_i64 (by omega) (by omega)]; omega
   rw [hnx] at hst
   generalize emB w j = o at he hel c2 hst
   generalize empJ w j = em at hst hl he ⊢
   have hml := z1k em
   have hlt2 : 7 - j + 1 < em.length := by omega
   have hg := z4l hlt2
   rw [he] at hg
   have hlt3 : 7 - j < em.length := by omega
   have hg3 := z4l hlt3
   rw [e7]
   repeat ((try conv => whnf); first | (refine i_lt (by omega) ?_) | (refine Exists.intro _ (And.intro hg ?_)) | (refine ccA ([]) (c2) ?_) | (refine Exists.intro _ (And.intro hg3 ?_)) | (refine Exists.intro _ (And.intro e4.symm ?_)) | (refine And.intro (by kernel_rfl) ?_) | (refine stpQ ?_))
   refine ⟨j + 1, by omega, by omega, ?_⟩
   rw [← hst]
   (refine z04 (by rfl) ?_ ?_) <;> (repeat' (first | (exact eqA) | (refine shE ?_) | (refine And.intro ?_ ?_)))
   rw [← zfL]; rfl
  ·have hje : j = 8 := by omega
   rw [hje]
   repeat ((try conv => whnf); first | (refine And.intro (by kernel_rfl) ?_) | (refine stpQ ?_))
   (refine z04 (by rfl) ?_ ?_) <;> (repeat' (first | (exact eqA) | (refine shE ?_) | (refine And.intro ?_ ?_)))
 ·repeat ((try conv => whnf); first | (refine stpQ ?_))
  (refine z00 (by rfl) ?_ ?_ (by rfl)) <;> (repeat' (first | (exact eqA) | (refine shE ?_) | (refine And.intro ?_ ?_)))
theorem z7U (l : List Lf) (h : z0f l = true) : CT Tryz.prog 83 [] [.sl 2 (lvE l)] (.tup [.str (z1u l), .bool true]) [] := by
 have hlen := z0E l
 have h24 := (z0w h).1
 have c0 := z2g l (by omega) (by
  intro i
  have h1 := za7 h i
  obtain ⟨_, h2, _⟩ := z0w h
  unfold lfAt at h1 ⊢
  rcases Nat.lt_or_ge i l.length with hk | hk
  ·simp only [List.getD, List.getElem?_eq_getElem hk, Option.getD_some] at h1 ⊢
   have := z1o (h2 _ (List.getElem_mem hk)).2
   omega
  ·simp [List.getD, List.getElem?_eq_none hk])
 rw [h] at c0
 have c1 := z4E 1 [] (by omega) z4m
 have c2 := z4E 2 (z1V l) (by omega) (z3m h)
 refine z01 z0M 1 rfl Tryz.func83 rfl rfl rfl ?_
 by_cases h0 : l = []
 ·subst h0
  unfold z1u
  rw [if_pos rfl]
  repeat ((try conv => whnf); first | (refine ccA ([]) (c0) ?_) | (refine ccA ([]) (c1) ?_) | (refine Exists.intro 0 (And.intro rfl ?_)) | (refine stpQ ?_))
  (refine z00 (by rfl) ?_ ?_ (by rfl)) <;> (repeat' (first | (exact eqA) | (refine shE ?_) | (refine And.intro ?_ ?_)))
 ·have hpos : 0 < l.length := List.length_pos_iff.2 h0
  unfold z1u
  rw [if_neg h0]
  repeat ((try conv => whnf); first | (refine ccA ([]) (c0) ?_) | (refine Exists.intro l.length (And.intro hlen ?_)) | (refine stpQ ?_))
  refine z0t 0 ⟨[(4, .ref 1)], [(1, some (.row 1 (strE (z1V l))))], 2⟩ Nat (fun k => ⟨[(0, .sl 2 (lvE l)), (4, .ref 1), (5, .int .i64 (k : Int))], [(1, some (.row 1 (strE (z1V (l.take k)))))], 2⟩) (fun k => k ≤ l.length) (fun k => l.length - k) 0 (by omega) ?_ ?_ ?_
  ·(refine z04 (by rfl) ?_ ?_) <;> (repeat' (first | (exact eqA) | (refine shE ?_) | (refine And.intro ?_ ?_))) <;> first | rfl | decide
  ·intro k hk
   by_cases hlt : k < l.length
   ·have hnx := z6e hlt
    have hw := z4D (l.take k)
    have hkl : (l.take k).length = k := by rw [List.length_take]; omega
    generalize z1V (l.take k) = o at hnx hw ⊢
    have hol := z1k o
    repeat ((try conv => whnf); first | (refine Exists.intro l.length (And.intro hlen ?_)) | (refine i_at (z1j hlt) ?_) | (refine And.intro (by simp [z1k]; omega) ?_) | (refine And.intro (by kernel_rfl) ?_) | (refine stpQ ?_))
    refine ⟨k + 1, by omega, by omega, ?_⟩
    rw [hnx]
    (refine z04 (by rfl) ?_ ?_) <;> (repeat' (first | (exact eqA) | (refine shE ?_) | (refine And.intro ?_ ?_)))
    rw [zbB]; rfl
   ·have hke : k = l.length := by omega
    rw [hke, List.take_length]
    repeat ((try conv => whnf); first | (refine Exists.intro l.length (And.intro hlen ?_)) | (refine stpQ ?_))
    (refine z04 (by rfl) ?_ ?_) <;> (repeat' (first | (exact eqA) | (refine shE ?_) | (refine And.intro ?_ ?_)))
  ·repeat ((try conv => whnf); first | (refine ccA ([]) (c2) ?_) | (refine stpQ ?_))
   (refine z00 (by rfl) ?_ ?_ (by rfl)) <;> (repeat' (first | (exact eqA) | (refine shE ?_) | (refine And.intro ?_ ?_)))
theorem z7V (l : List Lf) (w : Nat) (h : z0f l = true) (hw : 1 ≤ w ∧ w ≤ 32) : CT Tryz.prog 133 [] [.sl 2 (lvE l), .int .i64 (w : Int)] (.str (cutB (z1u l) w)) [] := by
 have c1 := z7U l h
 have hl := z6f h
 have c2 := zex (z1u l) w (by omega) hw
 generalize z1u l = t at c1 c2 hl ⊢
 refine z01 z0M 1 rfl Tryz.func133 rfl rfl rfl ?_
 repeat ((try conv => whnf); first | (refine ccA ([]) (c1) ?_) | (refine ccA ([]) (c2) ?_) | (refine stpQ ?_))
 (refine z00 (by rfl) ?_ ?_ (by rfl)) <;> (repeat' (first | (exact eqA) | (refine shE ?_) | (refine And.intro ?_ ?_)))
def spE (l : List Lf) : List (List T) := l.map fun x => [.str x.1, .str x.2, .int .i64 (ixB x.1 : Int)]
theorem z7W (l : List Lf) : (spE l).length = l.length := by simp [spE]
theorem zeA (a b : List Lf) : spE (a ++ b) = spE a ++ spE b := by simp [spE]
theorem zgl {l : List Lf} {k : Nat} (h : k < l.length) : (spE l)[k]? = some [.str (lfAt l k).1, .str (lfAt l k).2, .int .i64 (ixB (lfAt l k).1 : Int)] := by
 rw [z7E h]; simp [spE, List.getElem?_eq_getElem h]
theorem zhh (l : List Lf) (h : z0f l = true) : CT Tryz.prog 90 [] [.sl 2 (lvE l)] (.ref 1) [.row 3 (spE l)] := by
 have hlen := z0E l
 have h24 := (z0w h).1
 refine z01 zbC 1 rfl Tryz.func90 rfl rfl rfl ?_
 repeat ((try conv => whnf); first | (refine stpQ ?_))
 refine z0t 0 ⟨[(3, .ref 1)], [(1, some (.row 3 (spE l)))], 2⟩ Nat (fun k => ⟨[(0, .sl 2 (lvE l)), (3, .ref 1), (4, .int .i64 (k : Int))], [(1, some (.row 3 (spE (l.take k))))], 2⟩) (fun k => k ≤ l.length) (fun k => l.length - k) 0 (by omega) ?_ ?_ ?_
 ·(refine z04 (by rfl) ?_ ?_) <;> (repeat' (first | (exact eqA) | (refine shE ?_) | (refine And.intro ?_ ?_))) <;> first | rfl | decide
 ·intro k hk
  by_cases hlt : k < l.length
  ·have hnx : spE (l.take (k + 1)) = spE (l.take k) ++ spE [lfAt l k] := by rw [z1e l k hlt, zeA]
   have hol := z7W (l.take k)
   have hkl : (l.take k).length = k := by rw [List.length_take]; omega
   have c1 := z73 (lfAt l k).1 (za7 h k)
   generalize spE (l.take k) = o at hnx hol ⊢
   repeat ((try conv => whnf); first | (refine Exists.intro l.length (And.intro hlen ?_)) | (refine i_at (z1j hlt) ?_) | (refine ccA ([]) (c1) ?_) | (refine And.intro (by rw [List.length_append]; simp; omega) ?_) | (refine And.intro (by kernel_rfl) ?_) | (refine stpQ ?_))
   refine ⟨k + 1, by omega, by omega, ?_⟩
   rw [hnx]
   (refine z04 (by rfl) ?_ ?_) <;> (repeat' (first | (exact eqA) | (refine shE ?_) | (refine And.intro ?_ ?_)))
   rfl
  ·have hke : k = l.length := by omega
   rw [hke, List.take_length]
   repeat ((try conv => whnf); first | (refine Exists.intro l.length (And.intro hlen ?_)) | (refine stpQ ?_))
   (refine z04 (by rfl) ?_ ?_) <;> (repeat' (first | (exact eqA) | (refine shE ?_) | (refine And.intro ?_ ?_)))
 ·repeat ((try conv => whnf); first | (refine stpQ ?_))
  (refine z00 (by rfl) ?_ ?_ (by rfl)) <;> (repeat' (first | (exact eqA) | (refine shE ?_) | (refine And.intro ?_ ?_)))
end Go.Proofs.YthbdlnogojcnmaaGreatDoor
namespace Go.Proofs.YthbdlnogojcnmaaGreatDoor
set_option linter.unusedVariables false
set_option linter.unusedSimpArgs false
set_option linter.unusedSectionVars false
open Go.RowKit Pl
attribute [local irreducible] z0p z0r z0y AnsP LeP
theorem z93 {d : Nat} (h : d ≤ 8) : IntKind.u64.wrap ((d : Nat) : Int) = ((d : Nat) : Int) := by rw [IntKind.wrap_u64]; omega
set_option maxRecDepth 100000 in
set_option maxHeartbeats 8000000 in
theorem za8 (w : Nat) (hw : 1 ≤ w ∧ w ≤ 32) : ∀ (d p : Nat) (l : List Lf), z0f l = true → d ≤ 8 → p < 2 ^ (8 - d) → CT Tryz.prog 89 [] [.sl 3 (spE l), .int .i64 (8 - (d : Int)), .int .i64 (p : Int), .int .i64 (w : Int), .sl 1 (strE (empJ w 8))] (.str (z0J l w d p)) []
 | d, p, l, h, hd, hp => by
   have hlen := z7W l
   have h24 := (z0w h).1
   have e1 : IntKind.i64.wrap (8 - (8 - (d : Int))) = ((d : Nat) : Int) := by rw [wrap_i64 (by omega) (by omega)]; omega
   have e1u := z93 hd
   have hokA := zgk (d := d) (p := p) h
   have hlA := z7W (atP l d p)
   have hA24 := (z0w hokA).1
   have hem := zbE w 8
   have heml := z1k (empJ w 8)
   refine z01 zbC 1 rfl Tryz.func89 rfl rfl rfl ?_
   repeat ((try conv => whnf); first | (refine stpQ ?_))
   refine z0t 0 ⟨[(1, .int .i64 (8 - (d : Int))), (2, .int .i64 (p : Int)), (3, .int .i64 (w : Int)), (4, .sl 1 (strE (empJ w 8))), (11, .ref 1)], [(1, some (.row 3 (spE (atP l d p))))], 2⟩ Nat (fun k => ⟨[(0, .sl 3 (spE l)), (1, .int .i64 (8 - (d : Int))), (2, .int .i64 (p : Int)), (3, .int .i64 (w : Int)), (4, .sl 1 (strE (empJ w 8))), (11, .ref 1), (12, .int .i64 (k : Int))], [(1, some (.row 3 (spE (atP (l.take k) d p))))], 2⟩) (fun k => k ≤ l.length) (fun k => l.length - k) 0 (by omega) ?_ ?_ ?_
   ·(refine z04 (by rfl) ?_ ?_) <;> (repeat' (first | (exact eqA) | (refine shE ?_) | (refine And.intro ?_ ?_))) <;> first | rfl | decide
   ·intro k hk
    by_cases hlt : k < l.length
    ·have hnx := zbD (d := d) (p := p) hlt
     have hwk : (atP (l.take k) d p).length ≤ k := Nat.le_trans (List.length_filter_le _ _) (by rw [List.length_take]; omega)
     have e2 := zev (ixB (lfAt l k).1) d
     generalize atP (l.take k) d p = o at hnx hwk ⊢
     have hol := z7W o
     repeat' (first | ((try conv => whnf); first | (refine Exists.intro l.length (And.intro hlen ?_)) | (refine i_at (zgl hlt) ?_) | (refine Exists.intro _ (And.intro e1.symm ?_)) | (refine Exists.intro _ (And.intro e1u.symm ?_)) | (refine And.intro (show _ ≤ (64 : Int) from by omega) ?_) | (refine Exists.intro _ (And.intro e2.symm ?_)) | (refine And.intro (by rw [List.length_append]; simp; omega) ?_) | (refine And.intro (by kernel_rfl) ?_) | (refine stpQ ?_)) | ((try conv => whnf); first | (refine cb_d (fun h => ?_) (fun h => ?_)) | (refine cb_n (fun h => ?_) (fun h => ?_)) | (refine cb (fun h => ?_) (fun h => ?_))))
     all_goals first
      | (exfalso; omega)
      | (rename_i hc
         have hc2 : ixB (lfAt l k).1 / 2 ^ d = p := by omega
         refine ⟨k + 1, by omega, by omega, ?_⟩
         rw [hnx, if_pos hc2]
         (refine z04 (by rfl) ?_ ?_) <;> (repeat' (first | (exact eqA) | (refine shE ?_) | (refine And.intro ?_ ?_)))
         rw [zeA]; rfl)
      | (rename_i hc
         have hc2 : ¬ (ixB (lfAt l k).1 / 2 ^ d = p) := by omega
         refine ⟨k + 1, by omega, by omega, ?_⟩
         rw [hnx, if_neg hc2, List.append_nil]
         (refine z04 (by rfl) ?_ ?_) <;> (repeat' (first | (exact eqA) | (refine shE ?_) | (refine And.intro ?_ ?_))))
    ·have hke : k = l.length := by omega
     rw [hke, List.take_length]
     repeat ((try conv => whnf); first | (refine Exists.intro l.length (And.intro hlen ?_)) | (refine stpQ ?_))
     (refine z04 (by rfl) ?_ ?_) <;> (repeat' (first | (exact eqA) | (refine shE ?_) | (refine And.intro ?_ ?_)))
   ·by_cases hE : atP l d p = []
    ·have hlt : 8 - d < (empJ w 8).length := by omega
     have he := zey (w := w) (j := 8) (i := 8 - d) (by omega) (by omega)
     have hg := z4l hlt
     rw [he, show 8 - (8 - d) = d by omega] at hg
     have e3 : 8 - (d : Int) = ((8 - d : Nat) : Int) := by omega
     rw [z9S d hE, hE, e3]
     generalize empJ w 8 = em at heml hlt hg hem ⊢
     repeat ((try conv => whnf); first | (refine Exists.intro 0 (And.intro rfl ?_)) | (refine i_at hg ?_) | (refine stpQ ?_))
     (refine z00 (by rfl) ?_ ?_ (by rfl)) <;> (repeat' (first | (exact eqA) | (refine shE ?_) | (refine And.intro ?_ ?_)))
    ·have hpos : 0 < (atP l d p).length := List.length_pos_iff.2 hE
     cases d with
     | zero =>
       have c1 := z7V (atP l 0 p) w hokA hw
       rw [show z0J l w 0 p = cutB (z1u (atP l 0 p)) w from rfl]
       generalize cutB (z1u (atP l 0 p)) w = res at c1 ⊢
       generalize atP l 0 p = o at c1 hpos hlA hA24 ⊢
       have hlo := z0E o
       repeat ((try conv => whnf); first | (refine Exists.intro o.length (And.intro hlA ?_)) | (refine stpQ ?_))
       refine z0t 2 ⟨[(3, .int .i64 (w : Int)), (13, .ref 1)], [(1, some (.row 2 (lvE o)))], 2⟩ Nat (fun k => ⟨[(3, .int .i64 (w : Int)), (11, .ref 1), (13, .ref 2), (14, .int .i64 (k : Int))], [(1, some (.row 3 (spE o))), (2, some (.row 2 (lvE (o.take k))))], 3⟩) (fun k => k ≤ o.length) (fun k => o.length - k) 0 (by omega) ?_ ?_ ?_
       ·(refine z04 (by rfl) ?_ ?_) <;> (repeat' (first | (exact eqA) | (refine shE ?_) | (refine And.intro ?_ ?_))) <;> first | rfl | decide
       ·intro k hk
        by_cases hlt : k < o.length
        ·have hnx : lvE (o.take (k + 1)) = lvE (o.take k) ++ lvE [lfAt o k] := by rw [z1e o k hlt, z2B]
         have hkl : (o.take k).length = k := by rw [List.length_take]; omega
         have hol := z0E (o.take k)
         generalize lvE (o.take k) = q at hnx hol ⊢
         repeat ((try conv => whnf); first | (refine Exists.intro o.length (And.intro hlA ?_)) | (refine i_lt (by omega) ?_) | (refine Exists.intro _ (And.intro (zgl hlt) ?_)) | (refine And.intro (by rw [List.length_append]; simp; omega) ?_) | (refine stpQ ?_))
         refine ⟨k + 1, by omega, by omega, ?_⟩
         rw [hnx]
         (refine z04 (by rfl) ?_ ?_) <;> (repeat' (first | (exact eqA) | (refine shE ?_) | (refine And.intro ?_ ?_)))
         rfl
        ·have hke : k = o.length := by omega
         rw [hke, List.take_length]
         repeat ((try conv => whnf); first | (refine Exists.intro o.length (And.intro hlA ?_)) | (refine stpQ ?_))
         (refine z04 (by rfl) ?_ ?_) <;> (repeat' (first | (exact eqA) | (refine shE ?_) | (refine And.intro ?_ ?_)))
       ·repeat ((try conv => whnf); first | (refine ccA ([]) (c1) ?_) | (refine stpQ ?_))
        (refine z00 (by rfl) ?_ ?_ (by rfl)) <;> (repeat' (first | (exact eqA) | (refine shE ?_) | (refine And.intro ?_ ?_)))
     | succ d =>
       have hpw : 2 ^ (8 - d) = 2 * 2 ^ (8 - (d + 1)) := by
        rw [show 8 - d = (8 - (d + 1)) + 1 by omega, Nat.pow_succ]; omega
       have hsm : 2 ^ (8 - d) ≤ 2 ^ 8 := Nat.pow_le_pow_right (by decide) (by omega)
       have i1 := za8 w hw d (2 * p) (atP l (d + 1) p) hokA (by omega) (by omega)
       have i2 := za8 w hw d (2 * p + 1) (atP l (d + 1) p) hokA (by omega) (by omega)
       rw [z61 l w d p (.inl rfl)] at i1
       rw [z61 l w d p (.inr rfl)] at i2
       have n1 := z4g (l := l) hw.2 d (2 * p)
       have n2 := z4g (l := l) hw.2 d (2 * p + 1)
       have c1 := z4F 3 [z0J l w d (2 * p), z0J l w d (2 * p + 1)] w (by omega) (z4n (by omega) (by omega)) hw
       rw [show z0J l w (d + 1) p = z2X 3 [z0J l w d (2 * p), z0J l w d (2 * p + 1)] w from by rw [z0J, if_neg hE]]
       have e3 : IntKind.i64.wrap (8 - ((d + 1 : Nat) : Int) + 1) = 8 - (d : Int) := by rw [wrap_i64 (by omega) (by omega)]; omega
       generalize atP l (d + 1) p = o at hpos hlA i1 i2 ⊢
       generalize z0J l w d (2 * p) = x1 at i1 c1 n1 ⊢
       generalize z0J l w d (2 * p + 1) = x2 at i2 c1 n2 ⊢
       repeat ((try conv => whnf); first | (refine Exists.intro o.length (And.intro hlA ?_)) | (refine Exists.intro _ (And.intro e3.symm ?_)) | (refine z6c (by omega) ?_) | (refine ccA ([]) (i1) ?_) | (refine ccA ([]) (i2) ?_) | (refine ccA ([]) (c1) ?_) | (refine And.intro (by kernel_rfl) ?_) | (refine stpQ ?_))
       (refine z00 (by rfl) ?_ ?_ (by rfl)) <;> (repeat' (first | (exact eqA) | (refine shE ?_) | (refine And.intro ?_ ?_)))
end Go.Proofs.YthbdlnogojcnmaaGreatDoor
namespace Go.Proofs.YthbdlnogojcnmaaGreatDoor
set_option linter.unusedVariables false
set_option linter.unusedSimpArgs false
set_option linter.unusedSectionVars false
open Go.RowKit Pl
attribute [local irreducible] z0p z0r z0y AnsP LeP
structure PfSz (nm : Bs) (l : List Lf) (s : List Bs) : Prop where
 nm : nm.length ≤ 20
 len : l.length ≤ 30
 lv : ∀ x ∈ l, x.1.length ≤ 20 ∧ x.2.length ≤ 20
 sl : s.length ≤ 30
 sw : ∀ x ∈ s, x.length ≤ 40
theorem PfSz.at {nm : Bs} {l : List Lf} {s : List Bs} (h : PfSz nm l s) (k : Nat) : (lfAt l k).1.length ≤ 20 ∧ (lfAt l k).2.length ≤ 20 := by
 unfold lfAt
 rcases Nat.lt_or_ge k l.length with hk | hk
 ·simp only [List.getD, List.getElem?_eq_getElem hk, Option.getD_some]
  exact h.lv _ (List.getElem_mem hk)
 ·simp [List.getD, List.getElem?_eq_none hk]
theorem PfSz.fit {nm : Bs} {l : List Lf} {s : List Bs} (h : PfSz nm l s) : Fit l := fun i => by have := h.at i; omega
end Go.Proofs.YthbdlnogojcnmaaGreatDoor
namespace Go.Proofs.YthbdlnogojcnmaaGreatDoor
set_option linter.unusedVariables false
set_option linter.unusedSimpArgs false
set_option linter.unusedSectionVars false
open Go.RowKit Pl
attribute [local irreducible] z0p z0r z0y AnsP LeP
end Go.Proofs.YthbdlnogojcnmaaGreatDoor
namespace Go.Proofs.YthbdlnogojcnmaaGreatDoor
set_option linter.unusedVariables false
set_option linter.unusedSimpArgs false
set_option linter.unusedSectionVars false
open Go.RowKit Pl
attribute [local irreducible] z0p z0r z0y AnsP LeP
end Go.Proofs.YthbdlnogojcnmaaGreatDoor
