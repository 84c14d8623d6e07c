/- Functions by content: texts with a purpose, cut digests, hashes of what is empty, buckets. Functions by content: the program's tree: places and sides. Functions by content: the program's proofs. Functions by content: the program's proofs: written, judged, led up. Functions by content: the reference's tree. Functions by content: the reference's places and root. Functions by content: proofs of both sides, whatever they hold. Functions by content: the reference's texts of a proof. Functions by content: the reference's texts and hash of whatever proof. -/
import Derived.Test.YtfjbinbpgdiafaaGreatDoorHb
import Derived.Test.YtfjbinbpgdiafaaGreatDoorGg
import Derived.Test.YtfjbinbpgdiafaaGreatDoorPlainM
namespace Go.Proofs.YtfjbinbpgdiafaaGreatDoor
set_option maxRecDepth 100000
set_option maxHeartbeats 2000000
set_option linter.unusedVariables false
set_option linter.unusedSimpArgs false
set_option linter.unusedSectionVars false
open Go.RowKit Pl
attribute [local irreducible] z0r z0s z0z AnsP LeP
def z1I (ps : List Bs) : Prop := ps.length ≤ 60 ∧ ∀ p ∈ ps, p.length ≤ 200
def pAt (ps : List Bs) (k : Nat) : Bs := ps.getD k []
theorem zed {ps : List Bs} (h : z1I ps) (k : Nat) : (pAt ps k).length ≤ 200 := by
 unfold pAt
 rcases Nat.lt_or_ge k ps.length with hk | hk
 ·simp only [List.getD, List.getElem?_eq_getElem hk, Option.getD_some]; exact h.2 _ (List.getElem_mem hk)
 ·simp [List.getD, List.getElem?_eq_none hk]
theorem z1o {ps : List Bs} {k : Nat} (h : k < ps.length) : (strE ps)[k]? = some [.str (pAt ps k)] := by
 simp [strE, pAt, List.getD, List.getElem?_eq_getElem h]
def z2Y (k : Nat) (ps : List Bs) (i : Nat) : Bs := UInt8.ofNat k :: (ps.take i).flatMap z0m
theorem z4G {k : Nat} {ps : List Bs} {i : Nat} (h : i < ps.length) : z2Y k ps (i + 1) = z2Y k ps i ++ z0m (pAt ps i) := by
 have : ps.take (i + 1) = ps.take i ++ [pAt ps i] := by
  rw [List.take_add_one, List.getElem?_eq_getElem h]; simp [pAt, List.getD, List.getElem?_eq_getElem h]
 rw [z2Y, this]; simp [z2Y]
theorem z3i {k : Nat} {ps : List Bs} (h : z1I ps) : ∀ i, (z2Y k ps i).length ≤ 1 + 205 * i
 | 0 => by simp [z2Y]
 | i + 1 => by
   rcases Nat.lt_or_ge i ps.length with hi | hi
   ·rw [z4G hi, List.length_append]
    have h1 := z3i (k := k) h i
    have h2 := zed h i
    have h3 := z26 (l := pAt ps i) (by omega)
    omega
   ·have h1 := z3i (k := k) h i
    have : z2Y k ps (i + 1) = z2Y k ps i := by unfold z2Y; rw [List.take_of_length_le (by omega), List.take_of_length_le hi]
    rw [this]; omega
theorem z6e (k : Nat) (ps : List Bs) : z2Y k ps ps.length = tagB k ps := by rw [z2Y, List.take_length]; rfl
theorem z3s {k : Nat} {ps : List Bs} (h : z1I ps) : (tagB k ps).length ≤ 12301 := by
 have h1 := z3i (k := k) h ps.length
 rw [z6e] at h1
 have := h.1; omega
theorem z93 (k : Nat) (ps : List Bs) (hk : 1 ≤ k ∧ k ≤ 8) (hp : z1I ps) : CT Tryz.prog 170 [] [.int .i64 (k : Int), .sl 1 (strE ps)] (.tup [.str (tagB k ps), .bool true]) [] := by
 have hlen := z0H ps
 have hl60 := hp.1
 have c1 : CT Tryz.prog 34 [] [.int .i64 (k : Int), .int .i64 1, .int .i64 8] (.bool true) [] := by
  have := c_in (k : Int) 1 8
  rwa [z0W.2 (by omega)] at this
 rw [← z6e]
 refine z01 z0v 1 rfl Tryz.func170 rfl rfl rfl ?_
 repeat ((try conv => whnf); first | (refine ccA ([]) (c1) ?_) | (refine Exists.intro ps.length (And.intro hlen ?_)) | (refine w_u8 ?_) | (refine stpQ ?_))
 refine z0l 0 ⟨[(6, .ref 1)], [(1, some (.row 1 (z0k (z2Y k ps ps.length))))], 2⟩ Nat (fun i => ⟨[(6, .ref 1), (20, .sl 1 (strE ps)), (21, .int .i64 (ps.length : Int)), (22, .int .i64 (i : Int))], [(1, some (.row 1 (z0k (z2Y k ps i))))], 2⟩) (fun i => i ≤ ps.length) (fun i => ps.length - i) 0 (by omega) ?_ ?_ ?_
 ·(refine z02 (by rfl) ?_ ?_) <;> (repeat' (first | (exact eqA) | (refine shE ?_) | (refine And.intro ?_ ?_))) <;> first | rfl | decide
 ·intro i hi
  by_cases hlt : i < ps.length
  ·have hnx := z4G (k := k) hlt
   have hw := z3i (k := k) hp i
   have hpl := zed hp i
   have cs := z9L (pAt ps i) (by omega)
   have hsl := z26 (l := pAt ps i) (by omega)
   generalize z2Y k ps i = o at hnx hw ⊢
   have hbl := z0G o
   have hb2 := z0G (z0m (pAt ps i))
   repeat ((try conv => whnf); first | (refine i_at (z1o hlt) ?_) | (refine ccA ([]) (cs) ?_) | (refine And.intro (by rw [List.length_append, hbl, hb2]; omega) ?_) | (refine stpQ ?_))
   refine ⟨i + 1, by omega, by omega, ?_⟩
   rw [hnx]
   (refine z02 (by rfl) ?_ ?_) <;> (repeat' (first | (exact eqA) | (refine shE ?_) | (refine And.intro ?_ ?_)))
   simp [z0k]
  ·have hie : i = ps.length := by omega
   rw [hie]
   repeat ((try conv => whnf); first | (refine stpQ ?_))
   (refine z02 (by rfl) ?_ ?_) <;> (repeat' (first | (exact eqA) | (refine shE ?_) | (refine And.intro ?_ ?_)))
 ·repeat ((try conv => whnf); first | (refine Exists.intro (z2Y k ps ps.length) (And.intro rfl ?_)) | (refine stpQ ?_))
  (refine z00 (by rfl) ?_ ?_ (by rfl)) <;> (repeat' (first | (exact eqA) | (refine shE ?_) | (refine And.intro ?_ ?_)))
theorem zga (t : Bs) (w : Nat) (ht : (t.length : Int) ≤ 100000000) (hw : 1 ≤ w ∧ w ≤ 32) : CT Tryz.prog 125 [] [.str t, .int .i64 (w : Int)] (.str (cutB t w)) [] := by
 have c1 := zbx (w : Int)
 rw [z0W.2 (by omega)] at c1
 have c2 := z8W t ht
 have hl := z2l t
 unfold cutB
 generalize z2k t = d at c2 hl ⊢
 refine z01 z0v 1 rfl Tryz.func125 rfl rfl rfl ?_
 repeat ((try conv => whnf); first | (refine ccA ([]) (c1) ?_) | (refine ccA ([]) (c2) ?_) | (refine stpQ ?_))
 (refine z00 (by rfl) ?_ ?_ (by rfl)) <;> (repeat' (first | (exact eqA) | (refine shE ?_) | (refine And.intro ?_ ?_)))
theorem zee (k : Nat) (ps : List Bs) (w : Nat) (hk : 1 ≤ k ∧ k ≤ 8) (hp : z1I ps) (hw : 1 ≤ w ∧ w ≤ 32) : CT Tryz.prog 126 [] [.int .i64 (k : Int), .sl 1 (strE ps), .int .i64 (w : Int)] (.str (z2H k ps w)) [] := by
 have c1 := z93 k ps hk hp
 have hl := z3s (k := k) hp
 have c2 := zga (tagB k ps) w (by omega) hw
 unfold z2H
 generalize tagB k ps = t at c1 c2 hl ⊢
 refine z01 z0v 1 rfl Tryz.func126 rfl rfl rfl ?_
 repeat ((try conv => whnf); first | (refine ccA ([]) (c1) ?_) | (refine ccA ([]) (c2) ?_) | (refine stpQ ?_))
 (refine z00 (by rfl) ?_ ?_ (by rfl)) <;> (repeat' (first | (exact eqA) | (refine shE ?_) | (refine And.intro ?_ ?_)))
theorem z7R (k : Nat) (ps : List Bs) (w : Nat) (hk : 1 ≤ k ∧ k ≤ 8) (hp : z1I ps) (hw : 1 ≤ w ∧ w ≤ 32) : CT Tryz.prog 64 [] [.int .i64 (k : Int), .int .i64 (w : Int), .sl 1 (strE ps)] (.str (z2H k ps w)) [] := by
 have c1 := zee k ps w hk hp hw
 refine z01 z0v 1 rfl Tryz.func64 rfl rfl rfl ?_
 repeat ((try conv => whnf); first | (refine ccA ([]) (c1) ?_) | (refine stpQ ?_))
 (refine z00 (by rfl) ?_ ?_ (by rfl)) <;> (repeat' (first | (exact eqA) | (refine shE ?_) | (refine And.intro ?_ ?_)))
theorem z4q : z1I [] := ⟨by simp, fun p h => by cases h⟩
theorem z2I {a b : Bs} (ha : a.length ≤ 200) (hb : b.length ≤ 200) : z1I [a, b] := ⟨by simp, fun p h => by
 rcases List.mem_cons.1 h with rfl | h
 ·exact ha
 ·rw [List.mem_singleton.1 h]; exact hb⟩
theorem za8 (d w : Nat) (hd : d ≤ 8) (hw : 1 ≤ w ∧ w ≤ 32) : CT Tryz.prog 130 [] [.int .i64 (8 - (d : Int)), .int .i64 (w : Int)] (.str (emB w d)) [] := by
 have c1 := z7R 1 [] w (by omega) z4q hw
 refine z01 z0v 1 rfl Tryz.func130 rfl rfl rfl ?_
 repeat ((try conv => whnf); first | (refine ccA ([]) (c1) ?_) | (refine stpQ ?_))
 refine z0l 0 ⟨[(5, .str (emB w d))], [], 2⟩ Nat (fun j => ⟨[(0, .int .i64 (8 - (d : Int))), (1, .int .i64 (w : Int)), (5, .str (emB w j)), (6, .int .i64 (8 - (j : Int)))], [], 2⟩) (fun j => j ≤ d) (fun j => d - j) 0 (by omega) ?_ ?_ ?_
 ·(refine z02 (by rfl) ?_ ?_) <;> (repeat' (first | (exact eqA) | (refine shE ?_) | (refine And.intro ?_ ?_))) <;> first | rfl | decide
 ·intro j hj
  by_cases hlt : j < d
  ·have he := z9U hw.2 j
   have c2 := z7R 3 [emB w j, emB w j] w (by omega) (z2I (by omega) (by omega)) hw
   have hnx : emB w (j + 1) = z2H 3 [emB w j, emB w j] w := rfl
   have e1 : IntKind.i64.wrap (8 - (j : Int) - 1) = 8 - ((j + 1 : Nat) : Int) := by rw [wrap_i64 (by omega) (by omega)]; omega
   generalize emB w j = o at he c2 hnx ⊢
   repeat ((try conv => whnf); first | (refine ccA ([]) (c2) ?_) | (refine Exists.intro _ (And.intro e1.symm ?_)) | (refine stpQ ?_))
   refine ⟨j + 1, by omega, by omega, ?_⟩
   rw [hnx]
   (refine z02 (by rfl) ?_ ?_) <;> (repeat' (first | (exact eqA) | (refine shE ?_) | (refine And.intro ?_ ?_)))
  ·have hje : j = d := by omega
   rw [hje]
   repeat ((try conv => whnf); first | (refine stpQ ?_))
   (refine z02 (by rfl) ?_ ?_) <;> (repeat' (first | (exact eqA) | (refine shE ?_) | (refine And.intro ?_ ?_)))
 ·repeat ((try conv => whnf); first | (refine stpQ ?_))
  (refine z00 (by rfl) ?_ ?_ (by rfl)) <;> (repeat' (first | (exact eqA) | (refine shE ?_) | (refine And.intro ?_ ?_)))
theorem z6f {l : List Lf} {k : Nat} (h : k < l.length) : z1Y (l.take (k + 1)) = z1Y (l.take k) ++ [(lfAt l k).1, (lfAt l k).2] := by
 rw [z1n l k h]; simp [z1Y]
theorem z4H (l : List Lf) : (z1Y l).length = 2 * l.length := by
 induction l with
 | nil => rfl
 | cons x l ih => simp only [z1Y, List.flatMap_cons, List.length_append, List.length_cons] at ih ⊢; simp at ih ⊢; omega
theorem z3j {l : List Lf} (h : z0b l = true) : z1I (z1Y l) := by
 obtain ⟨h1, h2, _⟩ := z0n h
 refine ⟨by rw [z4H]; omega, fun p hp => ?_⟩
 simp only [z1Y, List.mem_flatMap] at hp
 obtain ⟨x, hx, hp⟩ := hp
 have := h2 x hx
 have a := z0D this.1
 have b := z11 this.2
 rcases List.mem_cons.1 hp with rfl | hp
 ·omega
 ·rw [List.mem_singleton.1 hp]; omega
theorem z3t (a b : List Bs) : strE (a ++ b) = strE a ++ strE b := by simp [strE]
theorem z94 (l : List Lf) (h : z0b l = true) : CT Tryz.prog 129 [] [.sl 2 (lvE l)] (.str (z17 l)) [] := by
 have hlen := z0B l
 have h24 := (z0n h).1
 have c1 := z93 (if l = [] then 1 else 2) (z1Y l) (by split <;> omega) (z3j h)
 have e : z17 l = tagB (if l = [] then 1 else 2) (z1Y l) := by
  unfold z17
  split
  ·rename_i h0; subst h0; rfl
  ·rfl
 rw [e]
 refine z01 z0v 1 rfl Tryz.func129 rfl rfl rfl ?_
 repeat ((try conv => whnf); first | (refine Exists.intro l.length (And.intro hlen ?_)) | (refine stpQ ?_))
 refine z0l 0 ⟨[(3, .int .i64 ((if l = [] then 1 else 2 : Nat) : Int)), (4, .ref 1)], [(1, some (.row 1 (strE (z1Y l))))], 2⟩ Nat (fun k => ⟨[(3, .int .i64 ((if l.take k = [] then 1 else 2 : Nat) : Int)), (4, .ref 1), (9, .sl 2 (lvE l)), (10, .int .i64 (l.length : Int)), (11, .int .i64 (k : Int))], [(1, some (.row 1 (strE (z1Y (l.take k)))))], 2⟩) (fun k => k ≤ l.length) (fun k => l.length - k) 0 (by omega) ?_ ?_ ?_
 ·(refine z02 (by rfl) ?_ ?_) <;> (repeat' (first | (exact eqA) | (refine shE ?_) | (refine And.intro ?_ ?_))) <;> first | rfl | decide
 ·intro k hk
  by_cases hlt : k < l.length
  ·have hnx := z6f hlt
   have hw := z4H (l.take k)
   have hne : ¬ (l.take (k + 1) = []) := fun h0 => by
    have := congrArg List.length h0
    rw [List.length_take, List.length_nil] at this; omega
   have hkl : (l.take k).length = k := by rw [List.length_take]; omega
   generalize z1Y (l.take k) = o at hnx hw ⊢
   have hol := z0H o
   repeat ((try conv => whnf); first | (refine i_at (z1f hlt) ?_) | (refine And.intro (by simp [z0H]; omega) ?_) | (refine stpQ ?_))
   refine ⟨k + 1, by omega, by omega, ?_⟩
   rw [hnx, if_neg hne]
   (refine z02 (by rfl) ?_ ?_) <;> (repeat' (first | (exact eqA) | (refine shE ?_) | (refine And.intro ?_ ?_)))
   rw [z3t]; rfl
  ·have hke : k = l.length := by omega
   rw [hke, List.take_length]
   repeat ((try conv => whnf); first | (refine stpQ ?_))
   (refine z02 (by rfl) ?_ ?_) <;> (repeat' (first | (exact eqA) | (refine shE ?_) | (refine And.intro ?_ ?_)))
 ·generalize (if l = [] then 1 else 2 : Nat) = kk at c1 ⊢
  repeat ((try conv => whnf); first | (refine ccA ([]) (c1) ?_) | (refine stpQ ?_))
  (refine z00 (by rfl) ?_ ?_ (by rfl)) <;> (repeat' (first | (exact eqA) | (refine shE ?_) | (refine And.intro ?_ ?_)))
end Go.Proofs.YtfjbinbpgdiafaaGreatDoor
namespace Go.Proofs.YtfjbinbpgdiafaaGreatDoor
set_option maxRecDepth 100000
set_option maxHeartbeats 8000000
set_option linter.unusedVariables false
set_option linter.unusedSimpArgs false
set_option linter.unusedSectionVars false
open Go.RowKit Pl
attribute [local irreducible] z0r z0s z0z AnsP LeP
def ex3 : List (Nat × Ty) := [
 (106, ⟨3, 56, [.val nilV, .val nilV, .int .i64 0], .struct [(0, 36), (1, 28), (2, 3)], false⟩),
 (168, ⟨3, 40, [.str [], .str [], .int .i64 0], .struct [(0, 158), (2, 3)], false⟩),
 (110, tySl 168),
 (3, zf0)]
theorem zha : ∀ p ∈ ex3, TyOk Tryz.prog p.1 p.2 := by
 simp only [ex3, List.forall_mem_cons]
 repeat' (refine And.intro ?_ ?_)
 all_goals first
  | exact (fun _ h => by cases h)
  | exact ⟨⟨_, _, rfl, rfl, rfl, rfl, rfl⟩, ⟨_, rfl, rfl⟩, rfl, rfl, fun h => (Bool.false_ne_true h).elim⟩
def ttL3 : List (Nat × Ty) := ttL ++ ex3
def tt3 : TT := lk ttL3
theorem z6g : TtOk Tryz.prog tt3 := fun t y h => by
 have hm : (t, y) ∈ ttL3 := z1x h
 rcases List.mem_append.1 hm with h | h
 ·exact z8x (t, y) h
 ·exact zha (t, y) h
def ixE (l : List Lf) : List (List T) := l.map fun x => [.int .i64 (ixB x.1 : Int)]
theorem zhb (l : List Lf) : (ixE l).length = l.length := by simp [ixE]
theorem ixE_at {l : List Lf} {k : Nat} (h : k < l.length) : (ixE l)[k]? = some [.int .i64 (ixB (lfAt l k).1 : Int)] := by
 rw [z7D h]; simp [ixE, List.getElem?_eq_getElem h]
theorem zfq {l : List Lf} {k : Nat} (h : k < l.length) : ixE (l.take (k + 1)) = ixE (l.take k) ++ [[.int .i64 (ixB (lfAt l k).1 : Int)]] := by
 rw [z1n l k h]; simp [ixE]
theorem z4I {l : List Lf} (h : z0b l = true) (k : Nat) : ((lfAt l k).1.length : Int) ≤ 100000000 := by
 obtain ⟨_, h2, _⟩ := z0n h
 unfold lfAt
 rcases Nat.lt_or_ge k l.length with hk | hk
 ·simp only [List.getD, List.getElem?_eq_getElem hk, Option.getD_some]
  have := z0D (h2 _ (List.getElem_mem hk)).1
  omega
 ·simp [List.getD, List.getElem?_eq_none hk]
theorem zco (l : List Lf) (w : Nat) (h : z0b l = true) : CT Tryz.prog 73 [] [.sl 2 (lvE l), .int .i64 (w : Int)] (.agg [.sl 2 (lvE l), .ref 1, .int .i64 (w : Int)]) [.row 1 (ixE l)] := by
 have hlen := z0B l
 have h24 := (z0n h).1
 refine z01 z6g 1 rfl Tryz.func73 rfl rfl rfl ?_
 repeat ((try conv => whnf); first | (refine Exists.intro l.length (And.intro hlen ?_)) | (refine stpQ ?_))
 refine z0l 0 ⟨[(4, .ptr 1 0 0), (5, .ptr 2 0 0)], [(1, some (.box [.val nilV, .val nilV, .int .i64 0])), (2, some (.box [.sl 2 (lvE l), .ref 3, .int .i64 (w : Int)])), (3, some (.row 1 (ixE l)))], 4⟩ Nat (fun k => ⟨[(4, .ptr 1 0 0), (5, .ptr 2 0 0), (11, .sl 2 (lvE l)), (12, .int .i64 (l.length : Int)), (13, .int .i64 (k : Int))], [(1, some (.box [.val nilV, .val nilV, .int .i64 0])), (2, some (.box [.sl 2 (lvE l), .ref 3, .int .i64 (w : Int)])), (3, some (.row 1 (ixE (l.take k))))], 4⟩) (fun k => k ≤ l.length) (fun k => l.length - k) 0 (by omega) ?_ ?_ ?_
 ·(refine z02 (by rfl) ?_ ?_) <;> (repeat' (first | (exact eqA) | (refine shE ?_) | (refine And.intro ?_ ?_))) <;> first | rfl | decide
 ·intro k hk
  by_cases hlt : k < l.length
  ·have hnx := zfq hlt
   have hw := zhb (l.take k)
   have hkl : (l.take k).length = k := by rw [List.length_take]; omega
   have c1 := z4o (lfAt l k).1 (z4I h k)
   generalize ixE (l.take k) = o at hnx hw ⊢
   repeat ((try conv => whnf); first | (refine i_at (z1f hlt) ?_) | (refine ccA ([]) (c1) ?_) | (refine And.intro (by rw [List.length_append]; simp; omega) ?_) | (refine And.intro (by kernel_rfl) ?_) | (refine stpQ ?_))
   refine ⟨k + 1, by omega, by omega, ?_⟩
   rw [hnx]
   (refine z02 (by rfl) ?_ ?_) <;> (repeat' (first | (exact eqA) | (refine shE ?_) | (refine And.intro ?_ ?_))) <;> rfl
  ·have hke : k = l.length := by omega
   rw [hke, List.take_length]
   repeat ((try conv => whnf); first | (refine stpQ ?_))
   (refine z02 (by rfl) ?_ ?_) <;> (repeat' (first | (exact eqA) | (refine shE ?_) | (refine And.intro ?_ ?_)))
 ·repeat ((try conv => whnf); first | (refine stpQ ?_))
  (refine z00 (by rfl) ?_ ?_ (by rfl)) <;> (repeat' (first | (exact eqA) | (refine shE ?_) | (refine And.intro ?_ ?_)))
theorem zby {l : List Lf} {k d p : Nat} (h : k < l.length) : atP (l.take (k + 1)) d p = atP (l.take k) d p ++ (if ixB (lfAt l k).1 / 2 ^ d = p then [lfAt l k] else []) := by
 unfold atP
 rw [z2j h]
 by_cases he : ixB (lfAt l k).1 / 2 ^ d = p <;> simp [he]
theorem zgb {l : List Lf} {d p : Nat} (h : z0b l = true) : z0b (atP l d p) = true := by
 obtain ⟨h1, h2, h3⟩ := z0n h
 exact z5U (Nat.le_trans (List.length_filter_le _ _) h1) (fun x hx => h2 x (List.mem_filter.1 hx).1) (h3.filter _)
theorem z6h (a d : Nat) : ((a : Nat) : Int) / 2 ^ ((d : Nat) : Int).toNat = ((a / 2 ^ d : Nat) : Int) := by rw [Int.toNat_natCast]; simp
theorem z2T {l : List Lf} (h : z0b l = true) : (z17 l).length ≤ 12301 := by
 unfold z17
 split
 ·exact z3s z4q
 ·exact z3s (z3j h)
theorem zef (l : List Lf) (w : Nat) (h : z0b l = true) (hw : 1 ≤ w ∧ w ≤ 32) : ∀ (d p : Nat), d ≤ 8 → p < 2 ^ (8 - d) → CT Tryz.prog 75 [] [.agg [.sl 2 (lvE l), .sl 1 (ixE l), .int .i64 (w : Int)], .int .i64 (8 - (d : Int)), .int .i64 (p : Int)] (.str (z0A l w d p)) []
 | d, p, hd, hp => by
   have hlen := z0B l
   have h24 := (z0n h).1
   have e1 : IntKind.i64.wrap (8 - (8 - (d : Int))) = ((d : Nat) : Int) := by rw [wrap_i64 (by omega) (by omega)]; omega
   have hokA := zgb (d := d) (p := p) h
   have hlA := z0B (atP l d p)
   refine z01 z6g 1 rfl Tryz.func75 rfl rfl rfl ?_
   repeat ((try conv => whnf); first | (refine Exists.intro l.length (And.intro hlen ?_)) | (refine stpQ ?_))
   refine z0l 0 ⟨[(1, .int .i64 (8 - (d : Int))), (2, .int .i64 (p : Int)), (3, .ptr 1 0 0), (7, .ref 2)], [(1, some (.box [.sl 2 (lvE l), .sl 1 (ixE l), .int .i64 (w : Int)])), (2, some (.row 2 (lvE (atP l d p))))], 3⟩ Nat (fun k => ⟨[(1, .int .i64 (8 - (d : Int))), (2, .int .i64 (p : Int)), (3, .ptr 1 0 0), (7, .ref 2), (11, .sl 2 (lvE l)), (12, .int .i64 (l.length : Int)), (13, .int .i64 (k : Int))], [(1, some (.box [.sl 2 (lvE l), .sl 1 (ixE l), .int .i64 (w : Int)])), (2, some (.row 2 (lvE (atP (l.take k) d p))))], 3⟩) (fun k => k ≤ l.length) (fun k => l.length - k) 0 (by omega) ?_ ?_ ?_
   ·(refine z02 (by rfl) ?_ ?_) <;> (repeat' (first | (exact eqA) | (refine shE ?_) | (refine And.intro ?_ ?_))) <;> first | rfl | decide
   ·intro k hk
    by_cases hlt : k < l.length
    ·have hnx := zby (d := d) (p := p) hlt
     have hwk : (atP (l.take k) d p).length ≤ k := Nat.le_trans (List.length_filter_le _ _) (by rw [List.length_take]; omega)
     have e2 := z6h (ixB (lfAt l k).1) d
     generalize atP (l.take k) d p = o at hnx hwk ⊢
     have hol := z0B o
     repeat' (first | ((try conv => whnf); first | (refine i_at (z1f hlt) ?_) | (refine i_at (ixE_at hlt) ?_) | (refine Exists.intro _ (And.intro e1.symm ?_)) | (refine And.intro (show _ ≤ (64 : Int) from by omega) ?_) | (refine Exists.intro _ (And.intro e2.symm ?_)) | (refine And.intro (by simp [z0B]; omega) ?_) | (refine And.intro (by kernel_rfl) ?_) | (refine stpQ ?_)) | ((try conv => whnf); first | (refine cb_d (fun h => ?_) (fun h => ?_)) | (refine cb_n (fun h => ?_) (fun h => ?_)) | (refine cb (fun h => ?_) (fun h => ?_))))
     all_goals first
      | (exfalso; omega)
      | (rename_i hc
         have hc2 : ixB (lfAt l k).1 / 2 ^ d = p := by omega
         refine ⟨k + 1, by omega, by omega, ?_⟩
         rw [hnx, if_pos hc2]
         (refine z02 (by rfl) ?_ ?_) <;> (repeat' (first | (exact eqA) | (refine shE ?_) | (refine And.intro ?_ ?_)))
         rw [z2C]; rfl)
      | (rename_i hc
         have hc2 : ¬ (ixB (lfAt l k).1 / 2 ^ d = p) := by omega
         refine ⟨k + 1, by omega, by omega, ?_⟩
         rw [hnx, if_neg hc2, List.append_nil]
         (refine z02 (by rfl) ?_ ?_) <;> (repeat' (first | (exact eqA) | (refine shE ?_) | (refine And.intro ?_ ?_))))
    ·have hke : k = l.length := by omega
     rw [hke, List.take_length]
     repeat ((try conv => whnf); first | (refine stpQ ?_))
     (refine z02 (by rfl) ?_ ?_) <;> (repeat' (first | (exact eqA) | (refine shE ?_) | (refine And.intro ?_ ?_)))
   ·cases d with
    | zero =>
      have c1 := z94 (atP l 0 p) hokA
      have c2 := zga (z17 (atP l 0 p)) w (by have := z2T hokA; omega) hw
      rw [show z0A l w 0 p = cutB (z17 (atP l 0 p)) w from rfl]
      generalize atP l 0 p = o at c1 c2 ⊢
      repeat ((try conv => whnf); first | (refine ccA ([]) (c1) ?_) | (refine ccA ([]) (c2) ?_) | (refine And.intro (by kernel_rfl) ?_) | (refine stpQ ?_))
      (refine z00 (by rfl) ?_ ?_ (by rfl)) <;> (repeat' (first | (exact eqA) | (refine shE ?_) | (refine And.intro ?_ ?_)))
    | succ d =>
      by_cases hE : atP l (d + 1) p = []
      ·have c1 := za8 (d + 1) w hd hw
       rw [show z0A l w (d + 1) p = emB w (d + 1) from by rw [z0A, if_pos hE], hE]
       repeat ((try conv => whnf); first | (refine ccA ([]) (c1) ?_) | (refine And.intro (by kernel_rfl) ?_) | (refine stpQ ?_))
       (refine z00 (by rfl) ?_ ?_ (by rfl)) <;> (repeat' (first | (exact eqA) | (refine shE ?_) | (refine And.intro ?_ ?_)))
      ·have hpos : 0 < (atP l (d + 1) p).length := List.length_pos_iff.2 hE
       have hpw : 2 ^ (8 - d) = 2 * 2 ^ (8 - (d + 1)) := by
        rw [show 8 - d = (8 - (d + 1)) + 1 by omega, Nat.pow_succ]; omega
       have hsm : 2 ^ (8 - d) ≤ 2 ^ 8 := Nat.pow_le_pow_right (by decide) (by omega)
       have i1 := zef l w h hw d (2 * p) (by omega) (by omega)
       have i2 : CT Tryz.prog 75 [] [.agg [.sl 2 (lvE l), .sl 1 (ixE l), .int .i64 (w : Int)], .int .i64 (8 - (d : Int)), .int .i64 ((2 * p + 1 : Nat) : Int)] (.str (z0A l w d (2 * p + 1))) [] := zef l w h hw d (2 * p + 1) (by omega) (by omega)
       have n1 := z3e (l := l) hw.2 d (2 * p)
       have n2 := z3e (l := l) hw.2 d (2 * p + 1)
       have c1 := z7R 3 [z0A l w d (2 * p), z0A l w d (2 * p + 1)] w (by omega) (z2I (by omega) (by omega)) hw
       rw [show z0A l w (d + 1) p = z2H 3 [z0A l w d (2 * p), z0A l w d (2 * p + 1)] w from by rw [z0A, if_neg hE]]
       have e3 : IntKind.i64.wrap (8 - ((d + 1 : Nat) : Int) + 1) = 8 - (d : Int) := by rw [wrap_i64 (by omega) (by omega)]; omega
       generalize atP l (d + 1) p = o at hpos hlA ⊢
       generalize z0A l w d (2 * p) = x1 at i1 c1 n1 ⊢
       generalize z0A l w d (2 * p + 1) = x2 at i2 c1 n2 ⊢
       repeat ((try conv => whnf); first | (refine Exists.intro o.length (And.intro hlA ?_)) | (refine Exists.intro _ (And.intro e3.symm ?_)) | (refine z6b (by omega) ?_) | (refine ccA ([]) (i1) ?_) | (refine ccA ([]) (i2) ?_) | (refine ccA ([]) (c1) ?_) | (refine And.intro (by kernel_rfl) ?_) | (refine stpQ ?_))
       (refine z00 (by rfl) ?_ ?_ (by rfl)) <;> (repeat' (first | (exact eqA) | (refine shE ?_) | (refine And.intro ?_ ?_)))
end Go.Proofs.YtfjbinbpgdiafaaGreatDoor
namespace Go.Proofs.YtfjbinbpgdiafaaGreatDoor
set_option maxRecDepth 100000
set_option maxHeartbeats 2000000
set_option linter.unusedVariables false
set_option linter.unusedSimpArgs false
set_option linter.unusedSectionVars false
open Go.RowKit Pl
attribute [local irreducible] z0r z0s z0z AnsP LeP
theorem zbz : ∀ a < 256, bits .xor .i64 ((a : Nat) : Int) 1 = ((sib a : Nat) : Int) := by decide +kernel
theorem zeg {ix j : Nat} (h : ix < 256) (hj : j < 8) : ix / 2 ^ j < 2 ^ (8 - j) ∧ sib (ix / 2 ^ j) < 2 ^ (8 - j) ∧ ix / 2 ^ j < 256 := by
 have key : ∀ ix < 256, ∀ j < 8, ix / 2 ^ j < 2 ^ (8 - j) ∧ sib (ix / 2 ^ j) < 2 ^ (8 - j) ∧ ix / 2 ^ j < 256 := by decide +kernel
 exact key ix h j hj
theorem zhc (l : List Lf) (w ix n : Nat) (h : z0b l = true) (hw : 1 ≤ w ∧ w ≤ 32) (hix : ix < 256) (hn : n ≤ 8) : CT Tryz.prog 103 [] [.agg [.sl 2 (lvE l), .sl 1 (ixE l), .int .i64 (w : Int)], .int .i64 (ix : Int), .int .i64 (8 - (n : Int))] (.ref 1) [.row 1 (strE (z14 l w ix n))] := by
 refine z01 z6g 1 rfl Tryz.func103 rfl rfl rfl ?_
 repeat ((try conv => whnf); first | (refine stpQ ?_))
 refine z0l 0 ⟨[(7, .ref 1)], [(1, some (.row 1 (strE (z14 l w ix n))))], 2⟩ Nat (fun j => ⟨[(1, .int .i64 (ix : Int)), (2, .int .i64 (8 - (n : Int))), (3, .ptr 1 0 0), (7, .ref 2), (8, .int .i64 (8 - (j : Int)))], [(1, some (.box [.sl 2 (lvE l), .sl 1 (ixE l), .int .i64 (w : Int)])), (2, some (.row 1 (strE (z14 l w ix j))))], 3⟩) (fun j => j ≤ n) (fun j => n - j) 0 (by omega) ?_ ?_ ?_
 ·(refine z02 (by rfl) ?_ ?_) <;> (repeat' (first | (exact eqA) | (refine shE ?_) | (refine And.intro ?_ ?_))) <;> first | rfl | decide
 ·intro j hj
  by_cases hlt : j < n
  ·have hnx := z63 l w ix j
   have hsl := z2b l w ix j
   have e1 : IntKind.i64.wrap (8 - (8 - (j : Int))) = ((j : Nat) : Int) := by rw [wrap_i64 (by omega) (by omega)]; omega
   have e2 := z6h ix j
   obtain ⟨b1, b2, b3⟩ := zeg hix (show j < 8 by omega)
   have e3 := zbz (ix / 2 ^ j) b3
   have e4 : IntKind.i64.wrap (8 - (j : Int) - 1) = 8 - ((j + 1 : Nat) : Int) := by rw [wrap_i64 (by omega) (by omega)]; omega
   have c1 := zef l w h hw j (sib (ix / 2 ^ j)) (by omega) b2
   generalize z14 l w ix j = o at hnx hsl ⊢
   have hol := z0H o
   repeat ((try conv => whnf); first | (refine Exists.intro _ (And.intro e1.symm ?_)) | (refine And.intro (show _ ≤ (64 : Int) from by omega) ?_) | (refine Exists.intro _ (And.intro e2.symm ?_)) | (refine Exists.intro _ (And.intro e3.symm ?_)) | (refine ccA ([]) (c1) ?_) | (refine And.intro (by simp [z0H]; omega) ?_) | (refine Exists.intro _ (And.intro e4.symm ?_)) | (refine And.intro (by kernel_rfl) ?_) | (refine stpQ ?_))
   refine ⟨j + 1, by omega, by omega, ?_⟩
   rw [hnx]
   (refine z02 (by rfl) ?_ ?_) <;> (repeat' (first | (exact eqA) | (refine shE ?_) | (refine And.intro ?_ ?_)))
   rw [z3t]; rfl
  ·have hje : j = n := by omega
   rw [hje]
   repeat ((try conv => whnf); first | (refine stpQ ?_))
   (refine z02 (by rfl) ?_ ?_) <;> (repeat' (first | (exact eqA) | (refine shE ?_) | (refine And.intro ?_ ?_)))
 ·repeat ((try conv => whnf); first | (refine stpQ ?_))
  (refine z00 (by rfl) ?_ ?_ (by rfl)) <;> (repeat' (first | (exact eqA) | (refine shE ?_) | (refine And.intro ?_ ?_)))
theorem c_isW (w : Nat) (hw : 1 ≤ w ∧ w ≤ 32) : CT Tryz.prog 59 [] [.int .i64 (w : Int)] (.bool true) [] := by
 have := zbx (w : Int)
 rwa [z0W.2 (by omega)] at this
theorem za9 (l : List Lf) (nm : Bs) (w n : Nat) (h : z0b l = true) (hnm : z0C nm = true) (hw : 1 ≤ w ∧ w ≤ 32) (hn : n ≤ 8) : CT Tryz.prog 38 [] [.sl 2 (lvE l), .str nm, .int .i64 (8 - (n : Int)), .int .i64 (w : Int)] (.tup [.agg [.ref 1, .ref 2], .bool true]) [.row 2 (lvE (z0q l (ixB nm))), .row 1 (strE (z14 l w (ixB nm) n))] := by
 have hnl := z0D hnm
 have h24 := (z0n h).1
 have c1 := z2D l (by omega) (fun i => by
  have h1 := z4I h i
  obtain ⟨_, h2, _⟩ := z0n h
  unfold lfAt at h1 ⊢
  rcases Nat.lt_or_ge i l.length with hk | hk
  ·simp only [List.getD, List.getElem?_eq_getElem hk, Option.getD_some] at h1 ⊢
   have := z11 (h2 _ (List.getElem_mem hk)).2
   omega
  ·simp [List.getD, List.getElem?_eq_none hk])
 rw [h] at c1
 have c2 := z5h nm (by omega)
 rw [hnm] at c2
 have c3 : CT Tryz.prog 34 [] [.int .i64 (8 - (n : Int)), .int .i64 0, .int .i64 8] (.bool true) [] := by
  have := c_in (8 - (n : Int)) 0 8
  rwa [z0W.2 (by omega)] at this
 have c4 := c_isW w hw
 have c5 := z4o nm (by omega)
 have hix := zdN nm
 have c6 := zcm l (ixB nm : Int) (by omega) (z4I h)
 have c7 := zco l w h
 have c8 := zhc l w (ixB nm) n h hw hix hn
 generalize z0q l (ixB nm : Int) = B at c6 ⊢
 generalize z14 l w (ixB nm) n = S at c8 ⊢
 refine z01 z6g 1 rfl Tryz.func38 rfl rfl rfl ?_
 repeat ((try conv => whnf); first | (refine ccA ([]) (c1) ?_) | (refine ccA ([]) (c2) ?_) | (refine ccA ([]) (c3) ?_) | (refine ccA ([]) (c4) ?_) | (refine ccA ([]) (c5) ?_) | (refine ccA ([]) (c6) ?_) | (refine ccA ([]) (c7) ?_) | (refine z2B ([]) (c8) (by ((repeat' (first | (exact trivial) | (exact rfl) | (refine And.intro ?_ ?_))); first | done | fail)) (by ((repeat' (first | (exact trivial) | (exact rfl) | (refine And.intro ?_ ?_))); first | done | fail)) (by decide) (by rfl) (by first | exact .inl rfl | (refine .inr ⟨by simp [own2, own1, own0], fun e he => ?_⟩; simp only [List.mem_cons, List.not_mem_nil, or_false] at he <;> first | exact he.elim | (subst he; (first | exact z16 _ | exact z1a _)) | (rcases he with rfl | rfl <;> (first | exact z16 _ | exact z1a _)))) ?_) | (refine And.intro (by kernel_rfl) ?_) | (refine stpQ ?_))
 (refine z00 (by rfl) ?_ ?_ (by rfl)) <;> (repeat' (first | (exact eqA) | (refine shE ?_) | (refine And.intro ?_ ?_)))
end Go.Proofs.YtfjbinbpgdiafaaGreatDoor
namespace Go.Proofs.YtfjbinbpgdiafaaGreatDoor
set_option linter.unusedVariables false
set_option linter.unusedSimpArgs false
set_option linter.unusedSectionVars false
open Go.RowKit Pl
attribute [local irreducible] z0r z0s z0z AnsP LeP
theorem zgc {l : List Lf} (h : z0b l = true) : Sml l := by
 obtain ⟨h1, h2, _⟩ := z0n h
 refine ⟨by omega, fun i => ?_⟩
 rcases Nat.lt_or_ge i l.length with hl | hl
 ·have := h2 _ (List.getElem_mem hl)
  have a := z0D this.1
  have b := z11 this.2
  rw [z5T hl]; omega
 ·simp [lfAt, List.getD, List.getElem?_eq_none hl]
def z2r (nm : Bs) (l : List Lf) (s : List Bs) (w : Int) : Bool :=
 z0C nm && (z0b l && (decide (s.length ≤ 8) && (inB w 1 32 && ((s.all fun x => decide ((x.length : Int) = w)) && decide ((z0q l (ixB nm : Int)).length = l.length)))))
theorem zhd : ∀ a < 256, bits .and .i64 ((a : Nat) : Int) 1 = ((a % 2 : Nat) : Int) := by decide +kernel
def FdAt (R : List Bs × Bs) (ix w : Nat) (T : List Bs) (j : Nat) (h : Bs) (rest : List Bs) : Prop := R = (T ++ (z2R ix w j h rest).1, (z2R ix w j h rest).2)
theorem FdAt.step {R : List Bs × Bs} {ix w : Nat} {T : List Bs} {j : Nat} {h s : Bs} {rest : List Bs} (hR : FdAt R ix w T j h (s :: rest)) : FdAt R ix w (T ++ [tagB 3 (z4m ix j h s)]) (j + 1) (cutB (tagB 3 (z4m ix j h s)) w) rest := by
 unfold FdAt at hR ⊢; rw [hR]; simp [z2R]
theorem FdAt.done {R : List Bs × Bs} {ix w : Nat} {T : List Bs} {j : Nat} {h : Bs} (hR : FdAt R ix w T j h []) : R = (T, h) := by
 unfold FdAt at hR; rw [hR]; simp [z2R]
theorem zeh {ix j : Nat} {h s : Bs} (hh : h.length ≤ 200) (hs : s.length ≤ 200) : z1I (z4m ix j h s) := by
 unfold z4m
 split
 ·exact z2I hs hh
 ·exact z2I hh hs
theorem zfr {s : List Bs} {k : Nat} (h : k < s.length) : s.drop k = pAt s k :: s.drop (k + 1) := by
 rw [List.drop_eq_getElem_cons h]; simp [pAt, List.getD, List.getElem?_eq_getElem h]
def z1O (nm : Bs) (l : List Lf) (s : List Bs) (w : Nat) : List Bs := z17 l :: (z2R (ixB nm) w 0 (cutB (z17 l) w) s).1
theorem z7S {nm : Bs} {l : List Lf} {s : List Bs} {w : Int} (h : z2r nm l s w = true) : z0C nm = true ∧ z0b l = true ∧ s.length ≤ 8 ∧ (1 ≤ w ∧ w ≤ 32) ∧ (∀ x ∈ s, (x.length : Int) = w) ∧ (z0q l (ixB nm : Int)).length = l.length := by
 unfold z2r at h
 simp only [Bool.and_eq_true, decide_eq_true_eq, List.all_eq_true] at h
 obtain ⟨h1, h2, h3, h4, h5, h6⟩ := h
 exact ⟨h1, h2, h3, z0W.1 h4, h5, h6⟩
theorem z4J (nm : Bs) (l : List Lf) (s : List Bs) (w : Nat) : (z1O nm l s w).length = s.length + 1 := by rw [z1O, List.length_cons, z8K]
theorem zaa (nm : Bs) (l : List Lf) (s : List Bs) (w : Nat) : pAt (z1O nm l s w) s.length = (z1O nm l s w).getLastD [] := by
 have hl := z4J nm l s w
 generalize z1O nm l s w = t at hl ⊢
 have hne : t ≠ [] := fun h0 => by rw [h0] at hl; simp at hl
 rw [List.getLastD_eq_getLast?, List.getLast?_eq_getElem?, pAt, List.getD, hl, Nat.add_sub_cancel]
theorem z95 {l : List Bs} {ix w : Nat} : ∀ {s : List Bs} {j : Nat} {h : Bs}, h.length ≤ 200 → w ≤ 32 → (∀ x ∈ s, x.length ≤ 200) → ∀ t ∈ (z2R ix w j h s).1, t.length ≤ 12301
 | [], j, h, _, _, _, t, ht => by cases ht
 | s :: ss, j, h, hh, hw, hs, t, ht => by
   simp only [z2R, List.mem_cons] at ht
   rcases ht with rfl | ht
   ·exact z3s (zeh hh (hs s (by simp)))
   ·exact z95 (l := l) (by rw [z4l hw]; omega) hw (fun x hx => hs x (List.mem_cons_of_mem _ hx)) t ht
def zcp (nm : Bs) (l : List Lf) (s : List Bs) (w : Nat) : Bs := (z2R (ixB nm) w 0 (cutB (z17 l) w) s).2
end Go.Proofs.YtfjbinbpgdiafaaGreatDoor
namespace Go.Proofs.YtfjbinbpgdiafaaGreatDoor
set_option maxRecDepth 100000
set_option maxHeartbeats 4000000
set_option linter.unusedVariables false
set_option linter.unusedSimpArgs false
set_option linter.unusedSectionVars false
open Go.RowKit Pl
attribute [local irreducible] z0r z0s z0z AnsP LeP
theorem z7T (t : Bs) (w : Nat) (ht : (t.length : Int) ≤ 100000000) (hw : 1 ≤ w ∧ w ≤ 32) : CT Tryz.prog 43 [] [.str t, .int .i64 (w : Int)] (.str (cutB t w)) [] := by
 have c1 := z13 (w : Int) 1 32
 rw [z0W.2 (by omega)] at c1
 have c2 := zbv t ht
 have hl := z2l t
 unfold cutB
 generalize z2k t = d at c2 hl ⊢
 refine z01 z0v 1 rfl Tryz.func43 rfl rfl rfl ?_
 repeat ((try conv => whnf); first | (refine ccA ([]) (c1) ?_) | (refine ccA ([]) (c2) ?_) | (refine stpQ ?_))
 (refine z00 (by rfl) ?_ ?_ (by rfl)) <;> (repeat' (first | (exact eqA) | (refine shE ?_) | (refine And.intro ?_ ?_)))
theorem z3u (k : Nat) (ps : List Bs) (hk : 1 ≤ k ∧ k ≤ 8) (hp : z1I ps) : CT Tryz.prog 104 [] [.int .i64 (k : Int), .sl 1 (strE ps)] (.tup [.str (tagB k ps), .bool true]) [] := by
 have hlen := z0H ps
 have hl60 := hp.1
 have c1 : CT Tryz.prog 39 [] [.int .i64 (k : Int), .int .i64 1, .int .i64 8] (.bool true) [] := by
  have := z13 (k : Int) 1 8
  rwa [z0W.2 (by omega)] at this
 rw [← z6e]
 refine z01 z0v 1 rfl Tryz.func104 rfl rfl rfl ?_
 repeat ((try conv => whnf); first | (refine ccA ([]) (c1) ?_) | (refine Exists.intro ps.length (And.intro hlen ?_)) | (refine w_u8 ?_) | (refine Exists.intro [UInt8.ofNat k] (And.intro rfl ?_)) | (refine stpQ ?_))
 refine z0l 0 ⟨[(6, .str (z2Y k ps ps.length))], [], 2⟩ Nat (fun i => ⟨[(1, .sl 1 (strE ps)), (6, .str (z2Y k ps i)), (7, .int .i64 (i : Int))], [], 2⟩) (fun i => i ≤ ps.length) (fun i => ps.length - i) 0 (by omega) ?_ ?_ ?_
 ·(refine z02 (by rfl) ?_ ?_) <;> (repeat' (first | (exact eqA) | (refine shE ?_) | (refine And.intro ?_ ?_))) <;> first | rfl | decide
 ·intro i hi
  by_cases hlt : i < ps.length
  ·have hnx := z4G (k := k) hlt
   have hw := z3i (k := k) hp i
   have hpl := zed hp i
   have cs := z4n (pAt ps i).length (by omega)
   have hvl := zbg (n := (pAt ps i).length) (by omega)
   generalize z2Y k ps i = o at hnx hw ⊢
   have hsh : z0m (pAt ps i) = z03 (pAt ps i).length ++ pAt ps i := rfl
   rw [hsh] at hnx
   generalize z03 (pAt ps i).length = v at cs hvl hnx
   repeat ((try conv => whnf); first | (refine Exists.intro ps.length (And.intro hlen ?_)) | (refine i_at (z1o hlt) ?_) | (refine ccA ([]) (cs) ?_) | (refine And.intro (by rw [List.length_append]; omega) ?_) | (refine And.intro (by kernel_rfl) ?_) | (refine stpQ ?_))
   refine ⟨i + 1, by omega, by omega, ?_⟩
   rw [hnx]
   (refine z02 (by rfl) ?_ ?_) <;> (repeat' (first | (exact eqA) | (refine shE ?_) | (refine And.intro ?_ ?_)))
   rw [List.append_assoc]
  ·have hie : i = ps.length := by omega
   rw [hie]
   repeat ((try conv => whnf); first | (refine Exists.intro ps.length (And.intro hlen ?_)) | (refine stpQ ?_))
   (refine z02 (by rfl) ?_ ?_) <;> (repeat' (first | (exact eqA) | (refine shE ?_) | (refine And.intro ?_ ?_)))
 ·repeat ((try conv => whnf); first | (refine stpQ ?_))
  (refine z00 (by rfl) ?_ ?_ (by rfl)) <;> (repeat' (first | (exact eqA) | (refine shE ?_) | (refine And.intro ?_ ?_)))
theorem z4K (k : Nat) (ps : List Bs) (w : Nat) (hk : 1 ≤ k ∧ k ≤ 8) (hp : z1I ps) (hw : 1 ≤ w ∧ w ≤ 32) : CT Tryz.prog 41 [] [.int .i64 (k : Int), .sl 1 (strE ps), .int .i64 (w : Int)] (.str (z2H k ps w)) [] := by
 have c1 := z3u k ps hk hp
 have hl := z3s (k := k) hp
 have c2 := z7T (tagB k ps) w (by omega) hw
 unfold z2H
 generalize tagB k ps = t at c1 c2 hl ⊢
 refine z01 z0v 1 rfl Tryz.func41 rfl rfl rfl ?_
 repeat ((try conv => whnf); first | (refine ccA ([]) (c1) ?_) | (refine ccA ([]) (c2) ?_) | (refine stpQ ?_))
 (refine z00 (by rfl) ?_ ?_ (by rfl)) <;> (repeat' (first | (exact eqA) | (refine shE ?_) | (refine And.intro ?_ ?_)))
def empJ (w j : Nat) : List Bs := (List.range 9).map fun i => if 8 - j ≤ i then emB w (8 - i) else []
theorem zbA (w j : Nat) : (empJ w j).length = 9 := by simp [empJ]
theorem zei {w j i : Nat} (hi : i < 9) (hj : 8 - j ≤ i) : pAt (empJ w j) i = emB w (8 - i) := by
 simp only [pAt, empJ, List.getD, List.getElem?_map, List.getElem?_range hi, Option.map_some, Option.getD_some, if_pos hj]
theorem zfs (w j : Nat) (hj : j < 8) : (empJ w j).set (7 - j) (emB w (j + 1)) = empJ w (j + 1) := by
 apply List.ext_getElem?
 intro i
 rw [List.getElem?_set]
 by_cases hi : i < 9
 ·simp only [empJ, List.getElem?_map, List.getElem?_range hi, Option.map_some, List.length_map, List.length_range]
  by_cases h1 : 7 - j = i
  ·subst h1
   have e1 : 8 - (7 - j) = j + 1 := by omega
   have e2 : 8 - (j + 1) ≤ 7 - j := by omega
   rw [if_pos rfl, if_pos hi, e1, if_pos e2]
  ·rw [if_neg h1]
   by_cases h2 : 8 - j ≤ i
   ·rw [if_pos h2, if_pos (by omega)]
   ·rw [if_neg h2, if_neg (by omega)]
 ·have h1 : ¬ (7 - j = i) := by omega
  rw [if_neg h1]
  simp [empJ, hi]
theorem zft (l : List Bs) (i : Nat) (x : Bs) : (strE l).set i [.str x] = strE (l.set i x) := by simp [strE, List.map_set]
theorem z96 (w : Nat) (hw : 1 ≤ w ∧ w ≤ 32) : CT Tryz.prog 80 [] [.int .i64 (w : Int)] (.ref 1) [.row 1 (strE (empJ w 8))] := by
 have c1 := z4K 1 [] w (by omega) z4q hw
 refine z01 z0v 1 rfl Tryz.func80 rfl rfl rfl ?_
 repeat ((try conv => whnf); first | (refine ccA ([]) (c1) ?_) | (refine Exists.intro 9 (And.intro rfl ?_)) | (refine i_lt (i := 8) (by simp) ?_) | (refine Exists.intro _ (And.intro rfl ?_)) | (refine And.intro (by kernel_rfl) ?_) | (refine stpQ ?_))
 refine z0l 0 ⟨[(3, .ref 1)], [(1, some (.row 1 (strE (empJ w 8))))], 2⟩ Nat (fun j => ⟨[(0, .int .i64 (w : Int)), (3, .ref 1), (4, .int .i64 (7 - (j : Int)))], [(1, some (.row 1 (strE (empJ w j))))], 2⟩) (fun j => j ≤ 8) (fun j => 8 - j) 0 (by omega) ?_ ?_ ?_
 ·(refine z02 (by rfl) ?_ ?_) <;> (repeat' (first | (exact eqA) | (refine shE ?_) | (refine And.intro ?_ ?_))) <;> first | rfl | decide
 ·intro j hj
  by_cases hlt : j < 8
  ·have hst := zfs w j hlt
   have hl := zbA w j
   have he := zei (w := w) (j := j) (i := 7 - j + 1) (by omega) (by omega)
   have e8 : 8 - (7 - j + 1) = j := by omega
   rw [e8] at he
   have hel := z9U hw.2 j
   have c2 := z4K 3 [emB w j, emB w j] w (by omega) (z2I (by omega) (by omega)) hw
   have hnx : emB w (j + 1) = z2H 3 [emB w j, emB w j] w := rfl
   have e7 : 7 - (j : Int) = ((7 - j : Nat) : Int) := by omega
   have e4 : IntKind.i64.wrap (((7 - j : Nat) : Int) - 1) = 7 - ((j + 1 : Nat) : Int) := by rw [wrap_i64 (by omega) (by omega)]; omega
   rw [hnx] at hst
   generalize emB w j = o at he hel c2 hst
   generalize empJ w j = em at hst hl he ⊢
   have hml := z0H em
   have hlt2 : 7 - j + 1 < em.length := by omega
   have hg := z1o hlt2
   rw [he] at hg
   have hlt3 : 7 - j < em.length := by omega
   have hg3 := z1o hlt3
   rw [e7]
   repeat ((try conv => whnf); first | (refine i_lt (by omega) ?_) | (refine Exists.intro _ (And.intro hg ?_)) | (refine ccA ([]) (c2) ?_) | (refine Exists.intro _ (And.intro hg3 ?_)) | (refine Exists.intro _ (And.intro e4.symm ?_)) | (refine And.intro (by kernel_rfl) ?_) | (refine stpQ ?_))
   refine ⟨j + 1, by omega, by omega, ?_⟩
   rw [← hst]
   (refine z02 (by rfl) ?_ ?_) <;> (repeat' (first | (exact eqA) | (refine shE ?_) | (refine And.intro ?_ ?_)))
   rw [← zft]; rfl
  ·have hje : j = 8 := by omega
   rw [hje]
   repeat ((try conv => whnf); first | (refine And.intro (by kernel_rfl) ?_) | (refine stpQ ?_))
   (refine z02 (by rfl) ?_ ?_) <;> (repeat' (first | (exact eqA) | (refine shE ?_) | (refine And.intro ?_ ?_)))
 ·repeat ((try conv => whnf); first | (refine stpQ ?_))
  (refine z00 (by rfl) ?_ ?_ (by rfl)) <;> (repeat' (first | (exact eqA) | (refine shE ?_) | (refine And.intro ?_ ?_)))
theorem z4r (l : List Lf) (h : z0b l = true) : CT Tryz.prog 106 [] [.sl 2 (lvE l)] (.tup [.str (z17 l), .bool true]) [] := by
 have hlen := z0B l
 have h24 := (z0n h).1
 have c0 := z1s l (by omega) (by
  intro i
  have h1 := z4I h i
  obtain ⟨_, h2, _⟩ := z0n h
  unfold lfAt at h1 ⊢
  rcases Nat.lt_or_ge i l.length with hk | hk
  ·simp only [List.getD, List.getElem?_eq_getElem hk, Option.getD_some] at h1 ⊢
   have := z11 (h2 _ (List.getElem_mem hk)).2
   omega
  ·simp [List.getD, List.getElem?_eq_none hk])
 rw [h] at c0
 have c1 := z3u 1 [] (by omega) z4q
 have c2 := z3u 2 (z1Y l) (by omega) (z3j h)
 refine z01 z0v 1 rfl Tryz.func106 rfl rfl rfl ?_
 by_cases h0 : l = []
 ·subst h0
  unfold z17
  rw [if_pos rfl]
  repeat ((try conv => whnf); first | (refine ccA ([]) (c0) ?_) | (refine ccA ([]) (c1) ?_) | (refine Exists.intro 0 (And.intro rfl ?_)) | (refine stpQ ?_))
  (refine z00 (by rfl) ?_ ?_ (by rfl)) <;> (repeat' (first | (exact eqA) | (refine shE ?_) | (refine And.intro ?_ ?_)))
 ·have hpos : 0 < l.length := List.length_pos_iff.2 h0
  unfold z17
  rw [if_neg h0]
  repeat ((try conv => whnf); first | (refine ccA ([]) (c0) ?_) | (refine Exists.intro l.length (And.intro hlen ?_)) | (refine stpQ ?_))
  refine z0l 0 ⟨[(4, .ref 1)], [(1, some (.row 1 (strE (z1Y l))))], 2⟩ Nat (fun k => ⟨[(0, .sl 2 (lvE l)), (4, .ref 1), (5, .int .i64 (k : Int))], [(1, some (.row 1 (strE (z1Y (l.take k)))))], 2⟩) (fun k => k ≤ l.length) (fun k => l.length - k) 0 (by omega) ?_ ?_ ?_
  ·(refine z02 (by rfl) ?_ ?_) <;> (repeat' (first | (exact eqA) | (refine shE ?_) | (refine And.intro ?_ ?_))) <;> first | rfl | decide
  ·intro k hk
   by_cases hlt : k < l.length
   ·have hnx := z6f hlt
    have hw := z4H (l.take k)
    have hkl : (l.take k).length = k := by rw [List.length_take]; omega
    generalize z1Y (l.take k) = o at hnx hw ⊢
    have hol := z0H o
    repeat ((try conv => whnf); first | (refine Exists.intro l.length (And.intro hlen ?_)) | (refine i_at (z1f hlt) ?_) | (refine And.intro (by simp [z0H]; omega) ?_) | (refine And.intro (by kernel_rfl) ?_) | (refine stpQ ?_))
    refine ⟨k + 1, by omega, by omega, ?_⟩
    rw [hnx]
    (refine z02 (by rfl) ?_ ?_) <;> (repeat' (first | (exact eqA) | (refine shE ?_) | (refine And.intro ?_ ?_)))
    rw [z3t]; rfl
   ·have hke : k = l.length := by omega
    rw [hke, List.take_length]
    repeat ((try conv => whnf); first | (refine Exists.intro l.length (And.intro hlen ?_)) | (refine stpQ ?_))
    (refine z02 (by rfl) ?_ ?_) <;> (repeat' (first | (exact eqA) | (refine shE ?_) | (refine And.intro ?_ ?_)))
  ·repeat ((try conv => whnf); first | (refine ccA ([]) (c2) ?_) | (refine stpQ ?_))
   (refine z00 (by rfl) ?_ ?_ (by rfl)) <;> (repeat' (first | (exact eqA) | (refine shE ?_) | (refine And.intro ?_ ?_)))
theorem z7U (l : List Lf) (w : Nat) (h : z0b l = true) (hw : 1 ≤ w ∧ w ≤ 32) : CT Tryz.prog 67 [] [.sl 2 (lvE l), .int .i64 (w : Int)] (.str (cutB (z17 l) w)) [] := by
 have c1 := z4r l h
 have hl := z2T h
 have c2 := z7T (z17 l) w (by omega) hw
 generalize z17 l = t at c1 c2 hl ⊢
 refine z01 z0v 1 rfl Tryz.func67 rfl rfl rfl ?_
 repeat ((try conv => whnf); first | (refine ccA ([]) (c1) ?_) | (refine ccA ([]) (c2) ?_) | (refine stpQ ?_))
 (refine z00 (by rfl) ?_ ?_ (by rfl)) <;> (repeat' (first | (exact eqA) | (refine shE ?_) | (refine And.intro ?_ ?_)))
def spE (l : List Lf) : List (List T) := l.map fun x => [.str x.1, .str x.2, .int .i64 (ixB x.1 : Int)]
theorem z7V (l : List Lf) : (spE l).length = l.length := by simp [spE]
theorem zej (a b : List Lf) : spE (a ++ b) = spE a ++ spE b := by simp [spE]
theorem zgd {l : List Lf} {k : Nat} (h : k < l.length) : (spE l)[k]? = some [.str (lfAt l k).1, .str (lfAt l k).2, .int .i64 (ixB (lfAt l k).1 : Int)] := by
 rw [z7D h]; simp [spE, List.getElem?_eq_getElem h]
theorem zek (l : List Lf) (h : z0b l = true) : CT Tryz.prog 79 [] [.sl 2 (lvE l)] (.ref 1) [.row 3 (spE l)] := by
 have hlen := z0B l
 have h24 := (z0n h).1
 refine z01 z6g 1 rfl Tryz.func79 rfl rfl rfl ?_
 repeat ((try conv => whnf); first | (refine stpQ ?_))
 refine z0l 0 ⟨[(3, .ref 1)], [(1, some (.row 3 (spE l)))], 2⟩ Nat (fun k => ⟨[(0, .sl 2 (lvE l)), (3, .ref 1), (4, .int .i64 (k : Int))], [(1, some (.row 3 (spE (l.take k))))], 2⟩) (fun k => k ≤ l.length) (fun k => l.length - k) 0 (by omega) ?_ ?_ ?_
 ·(refine z02 (by rfl) ?_ ?_) <;> (repeat' (first | (exact eqA) | (refine shE ?_) | (refine And.intro ?_ ?_))) <;> first | rfl | decide
 ·intro k hk
  by_cases hlt : k < l.length
  ·have hnx : spE (l.take (k + 1)) = spE (l.take k) ++ spE [lfAt l k] := by rw [z1n l k hlt, zej]
   have hol := z7V (l.take k)
   have hkl : (l.take k).length = k := by rw [List.length_take]; omega
   have c1 := z1E (lfAt l k).1 (z4I h k)
   generalize spE (l.take k) = o at hnx hol ⊢
   repeat ((try conv => whnf); first | (refine Exists.intro l.length (And.intro hlen ?_)) | (refine i_at (z1f hlt) ?_) | (refine ccA ([]) (c1) ?_) | (refine And.intro (by rw [List.length_append]; simp; omega) ?_) | (refine And.intro (by kernel_rfl) ?_) | (refine stpQ ?_))
   refine ⟨k + 1, by omega, by omega, ?_⟩
   rw [hnx]
   (refine z02 (by rfl) ?_ ?_) <;> (repeat' (first | (exact eqA) | (refine shE ?_) | (refine And.intro ?_ ?_)))
   rfl
  ·have hke : k = l.length := by omega
   rw [hke, List.take_length]
   repeat ((try conv => whnf); first | (refine Exists.intro l.length (And.intro hlen ?_)) | (refine stpQ ?_))
   (refine z02 (by rfl) ?_ ?_) <;> (repeat' (first | (exact eqA) | (refine shE ?_) | (refine And.intro ?_ ?_)))
 ·repeat ((try conv => whnf); first | (refine stpQ ?_))
  (refine z00 (by rfl) ?_ ?_ (by rfl)) <;> (repeat' (first | (exact eqA) | (refine shE ?_) | (refine And.intro ?_ ?_)))
end Go.Proofs.YtfjbinbpgdiafaaGreatDoor
namespace Go.Proofs.YtfjbinbpgdiafaaGreatDoor
set_option maxRecDepth 100000
set_option maxHeartbeats 8000000
set_option linter.unusedVariables false
set_option linter.unusedSimpArgs false
set_option linter.unusedSectionVars false
open Go.RowKit Pl
attribute [local irreducible] z0r z0s z0z AnsP LeP
theorem z4s {d : Nat} (h : d ≤ 8) : IntKind.u64.wrap ((d : Nat) : Int) = ((d : Nat) : Int) := by rw [IntKind.wrap_u64]; omega
theorem z7W (w : Nat) (hw : 1 ≤ w ∧ w ≤ 32) : ∀ (d p : Nat) (l : List Lf), z0b l = true → d ≤ 8 → p < 2 ^ (8 - d) → CT Tryz.prog 82 [] [.sl 3 (spE l), .int .i64 (8 - (d : Int)), .int .i64 (p : Int), .int .i64 (w : Int), .sl 1 (strE (empJ w 8))] (.str (z0A l w d p)) []
 | d, p, l, h, hd, hp => by
   have hlen := z7V l
   have h24 := (z0n h).1
   have e1 : IntKind.i64.wrap (8 - (8 - (d : Int))) = ((d : Nat) : Int) := by rw [wrap_i64 (by omega) (by omega)]; omega
   have e1u := z4s hd
   have hokA := zgb (d := d) (p := p) h
   have hlA := z7V (atP l d p)
   have hA24 := (z0n hokA).1
   have hem := zbA w 8
   have heml := z0H (empJ w 8)
   refine z01 z6g 1 rfl Tryz.func82 rfl rfl rfl ?_
   repeat ((try conv => whnf); first | (refine stpQ ?_))
   refine z0l 0 ⟨[(1, .int .i64 (8 - (d : Int))), (2, .int .i64 (p : Int)), (3, .int .i64 (w : Int)), (4, .sl 1 (strE (empJ w 8))), (11, .ref 1)], [(1, some (.row 3 (spE (atP l d p))))], 2⟩ Nat (fun k => ⟨[(0, .sl 3 (spE l)), (1, .int .i64 (8 - (d : Int))), (2, .int .i64 (p : Int)), (3, .int .i64 (w : Int)), (4, .sl 1 (strE (empJ w 8))), (11, .ref 1), (12, .int .i64 (k : Int))], [(1, some (.row 3 (spE (atP (l.take k) d p))))], 2⟩) (fun k => k ≤ l.length) (fun k => l.length - k) 0 (by omega) ?_ ?_ ?_
   ·(refine z02 (by rfl) ?_ ?_) <;> (repeat' (first | (exact eqA) | (refine shE ?_) | (refine And.intro ?_ ?_))) <;> first | rfl | decide
   ·intro k hk
    by_cases hlt : k < l.length
    ·have hnx := zby (d := d) (p := p) hlt
     have hwk : (atP (l.take k) d p).length ≤ k := Nat.le_trans (List.length_filter_le _ _) (by rw [List.length_take]; omega)
     have e2 := z6h (ixB (lfAt l k).1) d
     generalize atP (l.take k) d p = o at hnx hwk ⊢
     have hol := z7V o
     repeat' (first | ((try conv => whnf); first | (refine Exists.intro l.length (And.intro hlen ?_)) | (refine i_at (zgd hlt) ?_) | (refine Exists.intro _ (And.intro e1.symm ?_)) | (refine Exists.intro _ (And.intro e1u.symm ?_)) | (refine And.intro (show _ ≤ (64 : Int) from by omega) ?_) | (refine Exists.intro _ (And.intro e2.symm ?_)) | (refine And.intro (by rw [List.length_append]; simp; omega) ?_) | (refine And.intro (by kernel_rfl) ?_) | (refine stpQ ?_)) | ((try conv => whnf); first | (refine cb_d (fun h => ?_) (fun h => ?_)) | (refine cb_n (fun h => ?_) (fun h => ?_)) | (refine cb (fun h => ?_) (fun h => ?_))))
     all_goals first
      | (exfalso; omega)
      | (rename_i hc
         have hc2 : ixB (lfAt l k).1 / 2 ^ d = p := by omega
         refine ⟨k + 1, by omega, by omega, ?_⟩
         rw [hnx, if_pos hc2]
         (refine z02 (by rfl) ?_ ?_) <;> (repeat' (first | (exact eqA) | (refine shE ?_) | (refine And.intro ?_ ?_)))
         rw [zej]; rfl)
      | (rename_i hc
         have hc2 : ¬ (ixB (lfAt l k).1 / 2 ^ d = p) := by omega
         refine ⟨k + 1, by omega, by omega, ?_⟩
         rw [hnx, if_neg hc2, List.append_nil]
         (refine z02 (by rfl) ?_ ?_) <;> (repeat' (first | (exact eqA) | (refine shE ?_) | (refine And.intro ?_ ?_))))
    ·have hke : k = l.length := by omega
     rw [hke, List.take_length]
     repeat ((try conv => whnf); first | (refine Exists.intro l.length (And.intro hlen ?_)) | (refine stpQ ?_))
     (refine z02 (by rfl) ?_ ?_) <;> (repeat' (first | (exact eqA) | (refine shE ?_) | (refine And.intro ?_ ?_)))
   ·by_cases hE : atP l d p = []
    ·have hlt : 8 - d < (empJ w 8).length := by omega
     have he := zei (w := w) (j := 8) (i := 8 - d) (by omega) (by omega)
     have hg := z1o hlt
     rw [he, show 8 - (8 - d) = d by omega] at hg
     have e3 : 8 - (d : Int) = ((8 - d : Nat) : Int) := by omega
     rw [z3Z d hE, hE, e3]
     generalize empJ w 8 = em at heml hlt hg hem ⊢
     repeat ((try conv => whnf); first | (refine Exists.intro 0 (And.intro rfl ?_)) | (refine i_at hg ?_) | (refine stpQ ?_))
     (refine z00 (by rfl) ?_ ?_ (by rfl)) <;> (repeat' (first | (exact eqA) | (refine shE ?_) | (refine And.intro ?_ ?_)))
    ·have hpos : 0 < (atP l d p).length := List.length_pos_iff.2 hE
     cases d with
     | zero =>
       have c1 := z7U (atP l 0 p) w hokA hw
       rw [show z0A l w 0 p = cutB (z17 (atP l 0 p)) w from rfl]
       generalize cutB (z17 (atP l 0 p)) w = res at c1 ⊢
       generalize atP l 0 p = o at c1 hpos hlA hA24 ⊢
       have hlo := z0B o
       repeat ((try conv => whnf); first | (refine Exists.intro o.length (And.intro hlA ?_)) | (refine stpQ ?_))
       refine z0l 2 ⟨[(3, .int .i64 (w : Int)), (13, .ref 1)], [(1, some (.row 2 (lvE o)))], 2⟩ Nat (fun k => ⟨[(3, .int .i64 (w : Int)), (11, .ref 1), (13, .ref 2), (14, .int .i64 (k : Int))], [(1, some (.row 3 (spE o))), (2, some (.row 2 (lvE (o.take k))))], 3⟩) (fun k => k ≤ o.length) (fun k => o.length - k) 0 (by omega) ?_ ?_ ?_
       ·(refine z02 (by rfl) ?_ ?_) <;> (repeat' (first | (exact eqA) | (refine shE ?_) | (refine And.intro ?_ ?_))) <;> first | rfl | decide
       ·intro k hk
        by_cases hlt : k < o.length
        ·have hnx : lvE (o.take (k + 1)) = lvE (o.take k) ++ lvE [lfAt o k] := by rw [z1n o k hlt, z2C]
         have hkl : (o.take k).length = k := by rw [List.length_take]; omega
         have hol := z0B (o.take k)
         generalize lvE (o.take k) = q at hnx hol ⊢
         repeat ((try conv => whnf); first | (refine Exists.intro o.length (And.intro hlA ?_)) | (refine i_lt (by omega) ?_) | (refine Exists.intro _ (And.intro (zgd hlt) ?_)) | (refine And.intro (by rw [List.length_append]; simp; omega) ?_) | (refine stpQ ?_))
         refine ⟨k + 1, by omega, by omega, ?_⟩
         rw [hnx]
         (refine z02 (by rfl) ?_ ?_) <;> (repeat' (first | (exact eqA) | (refine shE ?_) | (refine And.intro ?_ ?_)))
         rfl
        ·have hke : k = o.length := by omega
         rw [hke, List.take_length]
         repeat ((try conv => whnf); first | (refine Exists.intro o.length (And.intro hlA ?_)) | (refine stpQ ?_))
         (refine z02 (by rfl) ?_ ?_) <;> (repeat' (first | (exact eqA) | (refine shE ?_) | (refine And.intro ?_ ?_)))
       ·repeat ((try conv => whnf); first | (refine ccA ([]) (c1) ?_) | (refine stpQ ?_))
        (refine z00 (by rfl) ?_ ?_ (by rfl)) <;> (repeat' (first | (exact eqA) | (refine shE ?_) | (refine And.intro ?_ ?_)))
     | succ d =>
       have hpw : 2 ^ (8 - d) = 2 * 2 ^ (8 - (d + 1)) := by
        rw [show 8 - d = (8 - (d + 1)) + 1 by omega, Nat.pow_succ]; omega
       have hsm : 2 ^ (8 - d) ≤ 2 ^ 8 := Nat.pow_le_pow_right (by decide) (by omega)
       have i1 := z7W w hw d (2 * p) (atP l (d + 1) p) hokA (by omega) (by omega)
       have i2 := z7W w hw d (2 * p + 1) (atP l (d + 1) p) hokA (by omega) (by omega)
       rw [z62 l w d p (.inl rfl)] at i1
       rw [z62 l w d p (.inr rfl)] at i2
       have n1 := z3e (l := l) hw.2 d (2 * p)
       have n2 := z3e (l := l) hw.2 d (2 * p + 1)
       have c1 := z4K 3 [z0A l w d (2 * p), z0A l w d (2 * p + 1)] w (by omega) (z2I (by omega) (by omega)) hw
       rw [show z0A l w (d + 1) p = z2H 3 [z0A l w d (2 * p), z0A l w d (2 * p + 1)] w from by rw [z0A, if_neg hE]]
       have e3 : IntKind.i64.wrap (8 - ((d + 1 : Nat) : Int) + 1) = 8 - (d : Int) := by rw [wrap_i64 (by omega) (by omega)]; omega
       generalize atP l (d + 1) p = o at hpos hlA i1 i2 ⊢
       generalize z0A l w d (2 * p) = x1 at i1 c1 n1 ⊢
       generalize z0A l w d (2 * p + 1) = x2 at i2 c1 n2 ⊢
       repeat ((try conv => whnf); first | (refine Exists.intro o.length (And.intro hlA ?_)) | (refine Exists.intro _ (And.intro e3.symm ?_)) | (refine z6b (by omega) ?_) | (refine ccA ([]) (i1) ?_) | (refine ccA ([]) (i2) ?_) | (refine ccA ([]) (c1) ?_) | (refine And.intro (by kernel_rfl) ?_) | (refine stpQ ?_))
       (refine z00 (by rfl) ?_ ?_ (by rfl)) <;> (repeat' (first | (exact eqA) | (refine shE ?_) | (refine And.intro ?_ ?_)))
theorem z6i (l m : List Bs) (hl : (l.length : Int) ≤ 100000000) (hm : (m.length : Int) ≤ 100000000) : CT Tryz.prog 50 [] [.sl 1 (strE l), .sl 1 (strE m)] (.bool (decide (l = m))) [] := by
 have hll := z0H l
 have hlm := z0H m
 refine z01 z0v 1 rfl Tryz.func50 rfl rfl rfl ?_
 by_cases hn : l.length = m.length
 ·repeat ((try conv => whnf); first | (refine Exists.intro l.length (And.intro hll ?_)) | (refine Exists.intro m.length (And.intro hlm ?_)) | (refine stpQ ?_))
  refine z0K Nat (fun k => ⟨[(0, .sl 1 (strE l)), (1, .sl 1 (strE m)), (5, .int .i64 (k : Int))], [], 2⟩) (fun k => k ≤ l.length ∧ l.take k = m.take k) (fun k => l.length - k) 0 ⟨by omega, rfl⟩ ?_ ?_
  ·(refine z02 (by rfl) ?_ ?_) <;> repeat' (first | (exact eqA) | (refine shE ?_) | (refine And.intro ?_ ?_))
  ·intro k hkk
   have hk := hkk.1
   have hp := hkk.2
   by_cases hlt : k < l.length
   ·have hlt2 : k < m.length := by omega
    by_cases hq : pAt l k = pAt m k
    ·have hnx : l.take (k + 1) = m.take (k + 1) := by
      rw [List.take_add_one, List.take_add_one, hp, List.getElem?_eq_getElem hlt, List.getElem?_eq_getElem hlt2]
      simp only [pAt, List.getD, List.getElem?_eq_getElem hlt, List.getElem?_eq_getElem hlt2, Option.getD_some] at hq
      rw [hq]
     repeat ((try conv => whnf); first | (refine Exists.intro l.length (And.intro hll ?_)) | (refine i_at (z1o hlt) ?_) | (refine i_at (z1o hlt2) ?_) | (refine z1g hq ?_) | (refine And.intro (by kernel_rfl) ?_) | (refine stpQ ?_))
     refine ⟨k + 1, ⟨by omega, hnx⟩, by omega, ?_⟩
     (refine z02 (by rfl) ?_ ?_) <;> repeat' (first | (exact eqA) | (refine shE ?_) | (refine And.intro ?_ ?_))
    ·have hne : ¬ l = m := fun h0 => hq (by rw [h0])
     rw [decide_eq_false hne]
     repeat ((try conv => whnf); first | (refine Exists.intro l.length (And.intro hll ?_)) | (refine i_at (z1o hlt) ?_) | (refine i_at (z1o hlt2) ?_) | (refine z2M hq ?_) | (refine And.intro (by kernel_rfl) ?_) | (refine stpQ ?_))
     (refine z00 (by rfl) ?_ ?_ (by rfl)) <;> repeat' (first | (exact eqA) | (refine shE ?_) | (refine And.intro ?_ ?_))
   ·have he : l = m := by
     rw [List.take_of_length_le (by omega), List.take_of_length_le (by omega)] at hp; exact hp
    rw [decide_eq_true he]
    repeat ((try conv => whnf); first | (refine Exists.intro l.length (And.intro hll ?_)) | (refine stpQ ?_))
    (refine z00 (by rfl) ?_ ?_ (by rfl)) <;> repeat' (first | (exact eqA) | (refine shE ?_) | (refine And.intro ?_ ?_))
 ·have hne : ¬ l = m := fun h0 => hn (by rw [h0])
  rw [decide_eq_false hne]
  repeat ((try conv => whnf); first | (refine Exists.intro l.length (And.intro hll ?_)) | (refine Exists.intro m.length (And.intro hlm ?_)) | (refine stpQ ?_))
  (refine z00 (by rfl) ?_ ?_ (by rfl)) <;> repeat' (first | (exact eqA) | (refine shE ?_) | (refine And.intro ?_ ?_))
theorem z6j (l m : List Lf) (s u : List Bs) (hl : (l.length : Int) ≤ 1000000) (hm : (m.length : Int) ≤ 1000000) (hs : (s.length : Int) ≤ 1000000) (hu : (u.length : Int) ≤ 1000000) :
 CT Tryz.prog 16 [] [.agg [.sl 2 (lvE l), .sl 1 (strE s)], .agg [.sl 2 (lvE m), .sl 1 (strE u)]] (.bool (decide (l = m) && decide (s = u))) [] := by
 have c1 := z4Y l m (by omega) (by omega)
 have c2 := z6i s u (by omega) (by omega)
 generalize decide (l = m) = b1 at c1 ⊢
 generalize decide (s = u) = b2 at c2 ⊢
 refine z01 z0v 1 rfl Tryz.func16 rfl rfl rfl ?_
 cases b1
 ·repeat ((try conv => whnf); first | (refine ccA ([]) (c1) ?_) | (refine And.intro (by kernel_rfl) ?_) | (refine stpQ ?_))
  (refine z00 (by rfl) ?_ ?_ (by rfl)) <;> (repeat' (first | (exact eqA) | (refine shE ?_) | (refine And.intro ?_ ?_))) <;> rfl
 ·repeat ((try conv => whnf); first | (refine ccA ([]) (c1) ?_) | (refine ccA ([]) (c2) ?_) | (refine And.intro (by kernel_rfl) ?_) | (refine stpQ ?_))
  (refine z00 (by rfl) ?_ ?_ (by rfl)) <;> (repeat' (first | (exact eqA) | (refine shE ?_) | (refine And.intro ?_ ?_))) <;> (rw [Bool.true_and])
end Go.Proofs.YtfjbinbpgdiafaaGreatDoor
namespace Go.Proofs.YtfjbinbpgdiafaaGreatDoor
set_option maxRecDepth 100000
set_option maxHeartbeats 4000000
set_option linter.unusedVariables false
set_option linter.unusedSimpArgs false
set_option linter.unusedSectionVars false
open Go.RowKit Pl
attribute [local irreducible] z0r z0s z0z AnsP LeP
structure PfSz (nm : Bs) (l : List Lf) (s : List Bs) : Prop where
 nm : nm.length ≤ 20
 len : l.length ≤ 30
 lv : ∀ x ∈ l, x.1.length ≤ 20 ∧ x.2.length ≤ 20
 sl : s.length ≤ 30
 sw : ∀ x ∈ s, x.length ≤ 40
theorem PfSz.at {nm : Bs} {l : List Lf} {s : List Bs} (h : PfSz nm l s) (k : Nat) : (lfAt l k).1.length ≤ 20 ∧ (lfAt l k).2.length ≤ 20 := by
 unfold lfAt
 rcases Nat.lt_or_ge k l.length with hk | hk
 ·simp only [List.getD, List.getElem?_eq_getElem hk, Option.getD_some]
  exact h.lv _ (List.getElem_mem hk)
 ·simp [List.getD, List.getElem?_eq_none hk]
theorem PfSz.fit {nm : Bs} {l : List Lf} {s : List Bs} (h : PfSz nm l s) : Fit l := fun i => by have := h.at i; omega
theorem PfSz.nms {nm : Bs} {l : List Lf} {s : List Bs} (h : PfSz nm l s) (k : Nat) : ((lfAt l k).1.length : Int) ≤ 100000000 := by have := h.at k; omega
def zel (nm : Bs) (l : List Lf) (s : List Bs) (w : Int) : List Bs := if z2r nm l s w = true then z1O nm l s w.toNat else []
def zfu (nm : Bs) (l : List Lf) (s : List Bs) (w : Int) : Bs := if z2r nm l s w = true then zcp nm l s w.toNat else []
def ixTo (nm : Bs) (l : List Lf) (k : Nat) : Prop := ∀ j, j < k → ixB (lfAt l j).1 = ixB nm
theorem zcq {nm : Bs} {l : List Lf} (h : ixTo nm l l.length) : (z0q l (ixB nm : Int)).length = l.length := by
 unfold z0q
 rw [List.filter_eq_self.2 fun x hx => by
  obtain ⟨k, hk, rfl⟩ := List.getElem_of_mem hx
  have := h k hk
  rw [z5T hk] at this
  simp [this]]
theorem zcr {nm : Bs} {l : List Lf} {k : Nat} (hk : k < l.length) (h : ¬ ixB (lfAt l k).1 = ixB nm) : ¬ (z0q l (ixB nm : Int)).length = l.length := by
 intro hl
 unfold z0q at hl
 have h1 := List.length_filter_eq_length_iff.1 hl l[k] (List.getElem_mem hk)
 rw [z5T hk] at h
 simp at h1
 omega
theorem z77 (nm : Bs) (l : List Lf) (s : List Bs) (w : Int) (h : PfSz nm l s) :
 CT Tryz.prog 105 [] [.str nm, .agg [.sl 2 (lvE l), .sl 1 (strE s)], .int .i64 w] (.bool (z2r nm l s w)) [] := by
 have a1 := h.nm
 have a2 := h.len
 have a3 := h.sl
 have hlen := z0H s
 have hll := z0B l
 have c1 := z5V nm (by omega)
 have c2 := z1s l (by omega) h.fit
 have c3 := c_wide s w (by omega)
 have c5 := z1E nm (by omega)
 have e : z2r nm l s w = (z0C nm && (z0b l && (decide (s.length ≤ 8) && (z7B s w && decide ((z0q l (ixB nm : Int)).length = l.length))))) := by
  unfold z2r z7B
  generalize decide ((z0q l (ixB nm : Int)).length = l.length) = b6
  generalize (s.all fun x => decide ((x.length : Int) = w)) = b5
  generalize inB w 1 32 = b4
  generalize decide (s.length ≤ 8) = b3
  generalize z0b l = b2
  generalize z0C nm = b1
  cases b1 <;> cases b2 <;> cases b3 <;> cases b4 <;> cases b5 <;> rfl
 rw [e]
 clear e
 obtain ⟨iy, ix, b6, hiy, hix0, hb6, hb1, hb2⟩ : ∃ (iy : Nat → Nat) (ix : Nat) (b6 : Bool), (∀ j, ixB (lfAt l j).1 = iy j) ∧ ixB nm = ix ∧ decide ((z0q l (ixB nm : Int)).length = l.length) = b6 ∧ ((∀ j, j < l.length → iy j = ix) → b6 = true) ∧ (∀ k, k < l.length → ¬ iy k = ix → b6 = false) :=
  ⟨_, _, _, fun _ => rfl, rfl, rfl, fun hp => decide_eq_true (zcq hp), fun k hk hq => decide_eq_false (zcr hk hq)⟩
 have hix : ∀ k, k < l.length → CT Tryz.prog 12 [] [.str (lfAt l k).1] (.int .i64 (iy k : Int)) [] := fun k _ => hiy k ▸ z1E (lfAt l k).1 (h.nms k)
 rw [hb6]
 rw [hix0] at c5
 clear hiy hix0 hb6
 generalize z7B s w = b3 at c3 ⊢
 generalize z0b l = b2 at c2 ⊢
 generalize z0C nm = b1 at c1 ⊢
 refine z01 z0v 1 rfl Tryz.func105 rfl rfl rfl ?_
 cases b1
 ·repeat ((try conv => whnf); first | (refine ccA ([]) (c1) ?_) | (refine stpQ ?_))
  (refine z00 (by rfl) ?_ ?_ (by rfl)) <;> (repeat' (first | (exact eqA) | (refine shE ?_) | (refine And.intro ?_ ?_))) <;> rfl
 cases b2
 ·repeat ((try conv => whnf); first | (refine ccA ([]) (c1) ?_) | (refine ccA ([]) (c2) ?_) | (refine stpQ ?_))
  (refine z00 (by rfl) ?_ ?_ (by rfl)) <;> (repeat' (first | (exact eqA) | (refine shE ?_) | (refine And.intro ?_ ?_))) <;> rfl
 by_cases h8 : s.length ≤ 8
 ·rw [decide_eq_true h8]
  cases b3
  ·repeat ((try conv => whnf); first | (refine ccA ([]) (c1) ?_) | (refine ccA ([]) (c2) ?_) | (refine ccA ([]) (c3) ?_) | (refine Exists.intro s.length (And.intro hlen ?_)) | (refine stpQ ?_))
   (refine z00 (by rfl) ?_ ?_ (by rfl)) <;> (repeat' (first | (exact eqA) | (refine shE ?_) | (refine And.intro ?_ ?_))) <;> rfl
  repeat ((try conv => whnf); first | (refine ccA ([]) (c1) ?_) | (refine ccA ([]) (c2) ?_) | (refine ccA ([]) (c3) ?_) | (refine ccA ([]) (c5) ?_) | (refine Exists.intro s.length (And.intro hlen ?_)) | (refine stpQ ?_))
  refine z0K Nat (fun k => ⟨[(4, .ptr 1 0 0), (7, .int .i64 (ix : Int)), (8, .int .i64 (k : Int))], [(1, some (.box [.sl 2 (lvE l), .sl 1 (strE s)]))], 2⟩) (fun k => k ≤ l.length ∧ ∀ j, j < k → iy j = ix) (fun k => l.length - k) 0 ⟨by omega, fun j hj => by omega⟩ ?_ ?_
  ·(refine z02 (by rfl) ?_ ?_) <;> (repeat' (first | (exact eqA) | (refine shE ?_) | (refine And.intro ?_ ?_))) <;> first | rfl | decide
  ·intro k hkk
   have hk := hkk.1
   have hp := hkk.2
   by_cases hlt : k < l.length
   ·have c6 := hix k hlt
    by_cases hq : iy k = ix
    ·have hq2 : ((iy k : Nat) : Int) = ((ix : Nat) : Int) := by omega
     repeat ((try conv => whnf); first | (refine Exists.intro l.length (And.intro hll ?_)) | (refine i_at (z1f hlt) ?_) | (refine ccA ([]) (c6) ?_) | (refine z1g hq2 ?_) | (refine stpQ ?_))
     refine ⟨k + 1, ⟨by omega, fun j hj => ?_⟩, by omega, ?_⟩
     ·by_cases hjk : j = k
      ·rw [hjk]; exact hq
      ·exact hp j (by omega)
     ·(refine z02 (by rfl) ?_ ?_) <;> (repeat' (first | (exact eqA) | (refine shE ?_) | (refine And.intro ?_ ?_)))
    ·have hq2 : ¬ ((iy k : Nat) : Int) = ((ix : Nat) : Int) := by omega
     rw [hb2 k hlt hq]
     repeat ((try conv => whnf); first | (refine Exists.intro l.length (And.intro hll ?_)) | (refine i_at (z1f hlt) ?_) | (refine ccA ([]) (c6) ?_) | (refine z2M hq2 ?_) | (refine stpQ ?_))
     (refine z00 (by rfl) ?_ ?_ (by rfl)) <;> (repeat' (first | (exact eqA) | (refine shE ?_) | (refine And.intro ?_ ?_))) <;> rfl
   ·have hke : k = l.length := by omega
    rw [hke] at hp
    rw [hb1 hp]
    repeat ((try conv => whnf); first | (refine Exists.intro l.length (And.intro hll ?_)) | (refine stpQ ?_))
    (refine z00 (by rfl) ?_ ?_ (by rfl)) <;> (repeat' (first | (exact eqA) | (refine shE ?_) | (refine And.intro ?_ ?_))) <;> rfl
 ·rw [decide_eq_false h8]
  repeat ((try conv => whnf); first | (refine ccA ([]) (c1) ?_) | (refine ccA ([]) (c2) ?_) | (refine Exists.intro s.length (And.intro hlen ?_)) | (refine stpQ ?_))
  (refine z00 (by rfl) ?_ ?_ (by rfl)) <;> (repeat' (first | (exact eqA) | (refine shE ?_) | (refine And.intro ?_ ?_))) <;> rfl
theorem zfv (ix j : Nat) (hix : ix < 256) (hj : j < 8) : CT Tryz.prog 40 [] [.int .i64 (ix : Int), .int .i64 (7 - (j : Int))] (.int .i64 ((bitB ix j : Nat) : Int)) [] := by
 have c1 : CT Tryz.prog 39 [] [.int .i64 (7 - (j : Int)), .int .i64 0, .int .i64 7] (.bool true) [] := by
  have := z13 (7 - (j : Int)) 0 7
  rwa [z0W.2 (by omega)] at this
 have e1 : IntKind.i64.wrap (7 - (7 - (j : Int))) = ((j : Nat) : Int) := by rw [wrap_i64 (by omega) (by omega)]; omega
 have e1u := z4s (show j ≤ 8 by omega)
 have e2 := z6h ix j
 have e3 := zhd (ix / 2 ^ j) (zeg hix hj).2.2
 unfold bitB
 refine z01 z0v 1 rfl Tryz.func40 rfl rfl rfl ?_
 repeat ((try conv => whnf); first | (refine ccA ([]) (c1) ?_) | (refine Exists.intro _ (And.intro e1.symm ?_)) | (refine Exists.intro _ (And.intro e1u.symm ?_)) | (refine And.intro (show _ ≤ (64 : Int) from by omega) ?_) | (refine Exists.intro _ (And.intro e2.symm ?_)) | (refine Exists.intro _ (And.intro e3.symm ?_)) | (refine stpQ ?_))
 (refine z00 (by rfl) ?_ ?_ (by rfl)) <;> (repeat' (first | (exact eqA) | (refine shE ?_) | (refine And.intro ?_ ?_)))
end Go.Proofs.YtfjbinbpgdiafaaGreatDoor
namespace Go.Proofs.YtfjbinbpgdiafaaGreatDoor
set_option linter.unusedVariables false
set_option linter.unusedSimpArgs false
set_option linter.unusedSectionVars false
open Go.RowKit Pl
attribute [local irreducible] z0r z0s z0z AnsP LeP
set_option maxRecDepth 100000 in
set_option maxHeartbeats 8000000 in
theorem z7X (nm : Bs) (l : List Lf) (s : List Bs) (w : Nat) (hz : PfSz nm l s) (h : z2r nm l s (w : Int) = true) :
 CT Tryz.prog 42 [] [.str nm, .agg [.sl 2 (lvE l), .sl 1 (strE s)], .int .i64 (w : Int)] (.ref 1) [.row 1 (strE (z1O nm l s w))] := by
 obtain ⟨h1, h2, h3, h4, h5, h6⟩ := z7S h
 have hnl := z0D h1
 have h24 := (z0n h2).1
 have hw : 1 ≤ w ∧ w ≤ 32 := by omega
 have c1 := z77 nm l s (w : Int) hz
 rw [h] at c1
 have c2 := z4r l h2
 have hbl := z2T h2
 have c4 := z1E nm (by omega)
 have hix := zdN nm
 have hslen := z0H s
 have hR0 : FdAt (z1O nm l s w, zcp nm l s w) (ixB nm) w [z17 l] 0 (cutB (z17 l) w) (s.drop 0) := rfl
 have hR1 : (z1O nm l s w).length = s.length + 1 := z4J nm l s w
 generalize z1O nm l s w = RT at hR0 hR1 ⊢
 generalize zcp nm l s w = RL at hR0
 generalize z17 l = t0 at c2 hbl hR0
 generalize ixB nm = ix at c4 hix hR0
 refine z01 z0v 1 rfl Tryz.func42 rfl rfl rfl ?_
 repeat ((try conv => whnf); first | (refine ccA ([]) (c1) ?_) | (refine ccA ([]) (c2) ?_) | (refine ccA ([]) (c4) ?_) | (refine stpQ ?_))
 refine z0l 0 ⟨[(10, .ref 1)], [(1, some (.row 1 (strE RT)))], 2⟩ (Nat × List Bs) (fun ⟨k, A⟩ => ⟨[(2, .int .i64 (w : Int)), (4, .ptr 1 0 0), (7, .int .i64 (ix : Int)), (10, .ref 2), (11, .int .i64 (k : Int))], [(1, some (.box [.sl 2 (lvE l), .sl 1 (strE s)])), (2, some (.row 1 (strE A)))], 3⟩) (fun ⟨k, A⟩ => k ≤ s.length ∧ A.length = k + 1 ∧ (∀ t ∈ A, t.length ≤ 12301) ∧ FdAt (RT, RL) ix w A k (cutB (pAt A k) w) (s.drop k)) (fun ⟨k, A⟩ => s.length - k) (0, [t0]) ⟨by simp, rfl, (by intro t ht; rw [List.mem_singleton.1 ht]; exact hbl), hR0⟩ ?_ ?_ ?_
 ·(refine z02 (by rfl) ?_ ?_) <;> (repeat' (first | (exact eqA) | (refine shE ?_) | (refine And.intro ?_ ?_))) <;> first | rfl | decide
 ·intro x hx
  obtain ⟨k, T⟩ := x
  have hk : k ≤ s.length := hx.1
  have hT : T.length = k + 1 := hx.2.1
  have hsm : ∀ t ∈ T, t.length ≤ 12301 := hx.2.2.1
  have hat : FdAt (RT, RL) ix w T k (cutB (pAt T k) w) (s.drop k) := hx.2.2.2
  clear hx
  have hTl := z0H T
  by_cases hlt : k < s.length
  ·have hkT : k < T.length := by omega
   rw [zfr hlt] at hat
   have hst := hat.step
   have hpT : (pAt T k).length ≤ 12301 := by
    simp only [pAt, List.getD, List.getElem?_eq_getElem hkT, Option.getD_some]; exact hsm _ (List.getElem_mem hkT)
   have hpl : (pAt s k).length ≤ 200 := by
    have : pAt s k ∈ s := by simp only [pAt, List.getD, List.getElem?_eq_getElem hlt, Option.getD_some]; exact List.getElem_mem hlt
    have := h5 _ this; omega
   have c5 := z7T (pAt T k) w (by omega) hw
   have hcl := z4l (t := pAt T k) hw.2
   generalize cutB (pAt T k) w = h0 at hst c5 hcl
   have hpo := zeh (ix := ix) (j := k) (show h0.length ≤ 200 by omega) hpl
   have c6 := zfv ix k hix (by omega)
   have c7 := z3u 3 (z4m ix k h0 (pAt s k)) (by omega) hpo
   have htl := z3s (k := 3) hpo
   have e1 : IntKind.i64.wrap (7 - (k : Int)) = 7 - (k : Int) := wrap_i64 (by omega) (by omega)
   by_cases hb : bitB ix k = 1
   ·have hb2 : ((bitB ix k : Nat) : Int) = 1 := by omega
    have hpr : z4m ix k h0 (pAt s k) = [pAt s k, h0] := by unfold z4m; rw [if_pos hb]
    rw [hpr] at c7 hst htl
    generalize tagB 3 [pAt s k, h0] = tg at c7 hst htl
    repeat ((try conv => whnf); first | (refine Exists.intro s.length (And.intro hslen ?_)) | (refine i_lt (by omega) ?_) | (refine Exists.intro _ (And.intro (z1o hkT) ?_)) | (refine i_at (z1o hlt) ?_) | (refine ccA ([]) (c5) ?_) | (refine Exists.intro _ (And.intro e1.symm ?_)) | (refine ccA ([]) (c6) ?_) | (refine z0h hb2 ?_) | (refine ccA ([]) (c7) ?_) | (refine And.intro (by rw [List.length_append]; simp; omega) ?_) | (refine stpQ ?_))
    have hlast : pAt (T ++ [tg]) (k + 1) = tg := by rw [pAt, List.getD, ← hT, List.getElem?_concat_length]; rfl
    refine ⟨(k + 1, T ++ [tg]), ⟨by show k + 1 ≤ _; omega, by simp [hT], (by
     intro t ht
     rcases List.mem_append.1 ht with ht | ht
     ·exact hsm t ht
     ·rw [List.mem_singleton.1 ht]; exact htl), by show FdAt _ _ _ (T ++ [tg]) (k + 1) (cutB (pAt (T ++ [tg]) (k + 1)) w) _; rw [hlast]; exact hst⟩, (by show s.length - (k + 1) < s.length - k; omega), ?_⟩
    (refine z02 (by rfl) ?_ ?_) <;> (repeat' (first | (exact eqA) | (refine shE ?_) | (refine And.intro ?_ ?_)))
    rw [z3t]; rfl
   ·have hb2 : ¬ ((bitB ix k : Nat) : Int) = 1 := by omega
    have hpr : z4m ix k h0 (pAt s k) = [h0, pAt s k] := by unfold z4m; rw [if_neg hb]
    rw [hpr] at c7 hst htl
    generalize tagB 3 [h0, pAt s k] = tg at c7 hst htl
    repeat ((try conv => whnf); first | (refine Exists.intro s.length (And.intro hslen ?_)) | (refine i_lt (by omega) ?_) | (refine Exists.intro _ (And.intro (z1o hkT) ?_)) | (refine i_at (z1o hlt) ?_) | (refine ccA ([]) (c5) ?_) | (refine Exists.intro _ (And.intro e1.symm ?_)) | (refine ccA ([]) (c6) ?_) | (refine z0c hb2 ?_) | (refine ccA ([]) (c7) ?_) | (refine And.intro (by rw [List.length_append]; simp; omega) ?_) | (refine stpQ ?_))
    have hlast : pAt (T ++ [tg]) (k + 1) = tg := by rw [pAt, List.getD, ← hT, List.getElem?_concat_length]; rfl
    refine ⟨(k + 1, T ++ [tg]), ⟨by show k + 1 ≤ _; omega, by simp [hT], (by
     intro t ht
     rcases List.mem_append.1 ht with ht | ht
     ·exact hsm t ht
     ·rw [List.mem_singleton.1 ht]; exact htl), by show FdAt _ _ _ (T ++ [tg]) (k + 1) (cutB (pAt (T ++ [tg]) (k + 1)) w) _; rw [hlast]; exact hst⟩, (by show s.length - (k + 1) < s.length - k; omega), ?_⟩
    (refine z02 (by rfl) ?_ ?_) <;> (repeat' (first | (exact eqA) | (refine shE ?_) | (refine And.intro ?_ ?_)))
    rw [z3t]; rfl
  ·have hke : k = s.length := by omega
   rw [hke, List.drop_length] at hat
   have hd := hat.done
   have hRT : RT = T := (Prod.mk.inj hd).1
   rw [hRT, hke]
   repeat ((try conv => whnf); first | (refine Exists.intro s.length (And.intro hslen ?_)) | (refine stpQ ?_))
   (refine z02 (by rfl) ?_ ?_) <;> (repeat' (first | (exact eqA) | (refine shE ?_) | (refine And.intro ?_ ?_)))
 ·repeat ((try conv => whnf); first | (refine stpQ ?_))
  (refine z00 (by rfl) ?_ ?_ (by rfl)) <;> (repeat' (first | (exact eqA) | (refine shE ?_) | (refine And.intro ?_ ?_)))
end Go.Proofs.YtfjbinbpgdiafaaGreatDoor
namespace Go.Proofs.YtfjbinbpgdiafaaGreatDoor
set_option maxRecDepth 100000
set_option maxHeartbeats 2000000
set_option linter.unusedVariables false
set_option linter.unusedSimpArgs false
set_option linter.unusedSectionVars false
open Go.RowKit Pl
attribute [local irreducible] z0r z0s z0z AnsP LeP
theorem zem (nm : Bs) (l : List Lf) (s : List Bs) (w : Int) (h : PfSz nm l s) :
 CT Tryz.prog 42 [] [.str nm, .agg [.sl 2 (lvE l), .sl 1 (strE s)], .int .i64 w] (.ref 1) [.row 1 (strE (zel nm l s w))] := by
 unfold zel
 by_cases hg : z2r nm l s w = true
 ·rw [if_pos hg]
  obtain ⟨n, rfl⟩ : ∃ n : Nat, w = n := ⟨w.toNat, by have := (z7S hg).2.2.2.1; omega⟩
  exact z7X nm l s n h hg
 ·rw [if_neg hg]
  have c1 := z77 nm l s w h
  rw [show z2r nm l s w = false by simpa using hg] at c1
  refine z01 z0v 1 rfl Tryz.func42 rfl rfl rfl ?_
  repeat ((try conv => whnf); first | (refine ccA ([]) (c1) ?_) | (refine stpQ ?_))
  (refine z00 (by rfl) ?_ ?_ (by rfl)) <;> (repeat' (first | (exact eqA) | (refine shE ?_) | (refine And.intro ?_ ?_))) <;> first | rfl | decide
theorem zfw (nm : Bs) (l : List Lf) (s : List Bs) (w : Int) (hz : PfSz nm l s) :
 CT Tryz.prog 11 [] [.str nm, .agg [.sl 2 (lvE l), .sl 1 (strE s)], .int .i64 w] (.str (zfu nm l s w)) [] := by
 have c1 := zem nm l s w hz
 unfold zfu
 unfold zel at c1
 by_cases hg : z2r nm l s w = true
 ·rw [if_pos hg] at c1 ⊢
  obtain ⟨n, rfl⟩ : ∃ n : Nat, w = n := ⟨w.toNat, by have := (z7S hg).2.2.2.1; omega⟩
  rw [Int.toNat_natCast] at c1 ⊢
  obtain ⟨h1, h2, h3, h4, h5, h6⟩ := z7S hg
  have hl := z4J nm l s n
  have hla := zaa nm l s n
  have e : zcp nm l s n = cutB (pAt (z1O nm l s n) s.length) n := by rw [hla]; exact (z8M _ _ _ _ _ _ rfl).symm
  have hsm : (pAt (z1O nm l s n) s.length).length ≤ 12301 := by
   have hm : pAt (z1O nm l s n) s.length ∈ z1O nm l s n := by
    simp only [pAt, List.getD, List.getElem?_eq_getElem (show s.length < (z1O nm l s n).length by omega), Option.getD_some]
    exact List.getElem_mem _
   rcases List.mem_cons.1 hm with hm | hm
   ·rw [hm]; exact z2T h2
   ·exact z95 (l := []) (by rw [z4l (by omega)]; omega) (by omega) (fun x hx => by have := h5 x hx; omega) _ hm
  have c2 := z7T (pAt (z1O nm l s n) s.length) n (by omega) (by omega)
  rw [e]
  have hlt : s.length < (z1O nm l s n).length := by omega
  generalize z1O nm l s n = t at c1 c2 hl hlt ⊢
  have htl := z0H t
  refine z01 z0v 1 rfl Tryz.func11 rfl rfl rfl ?_
  repeat ((try conv => whnf); first | (refine z2B ([]) (c1) (by ((repeat' (first | (exact trivial) | (exact rfl) | (refine And.intro ?_ ?_))); first | done | fail)) (by ((repeat' (first | (exact trivial) | (exact rfl) | (refine And.intro ?_ ?_))); first | done | fail)) (by decide) (by rfl) (by first | exact .inl rfl | (refine .inr ⟨by simp [own2, own1, own0], fun e he => ?_⟩; simp only [List.mem_cons, List.not_mem_nil, or_false] at he <;> first | exact he.elim | (subst he; (first | exact z16 _ | exact z1a _)) | (rcases he with rfl | rfl <;> (first | exact z16 _ | exact z1a _)))) ?_) | (refine Exists.intro (s.length + 1) (And.intro (by rw [htl, hl]) ?_)) | (refine i_lt (i := s.length) (by omega) ?_) | (refine Exists.intro _ (And.intro (z1o hlt) ?_)) | (refine ccA ([]) (c2) ?_) | (refine stpQ ?_))
  (refine z00 (by rfl) ?_ ?_ (by rfl)) <;> (repeat' (first | (exact eqA) | (refine shE ?_) | (refine And.intro ?_ ?_)))
 ·rw [if_neg hg] at c1 ⊢
  refine z01 z0v 1 rfl Tryz.func11 rfl rfl rfl ?_
  repeat ((try conv => whnf); first | (refine z2B ([]) (c1) (by ((repeat' (first | (exact trivial) | (exact rfl) | (refine And.intro ?_ ?_))); first | done | fail)) (by ((repeat' (first | (exact trivial) | (exact rfl) | (refine And.intro ?_ ?_))); first | done | fail)) (by decide) (by rfl) (by first | exact .inl rfl | (refine .inr ⟨by simp [own2, own1, own0], fun e he => ?_⟩; simp only [List.mem_cons, List.not_mem_nil, or_false] at he <;> first | exact he.elim | (subst he; (first | exact z16 _ | exact z1a _)) | (rcases he with rfl | rfl <;> (first | exact z16 _ | exact z1a _)))) ?_) | (refine Exists.intro 0 (And.intro rfl ?_)) | (refine stpQ ?_))
  (refine z00 (by rfl) ?_ ?_ (by rfl)) <;> (repeat' (first | (exact eqA) | (refine shE ?_) | (refine And.intro ?_ ?_))) <;> rfl
end Go.Proofs.YtfjbinbpgdiafaaGreatDoor
