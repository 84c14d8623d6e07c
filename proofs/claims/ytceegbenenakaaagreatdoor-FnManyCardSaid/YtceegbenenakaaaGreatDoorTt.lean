/- Functions by content: texts with a purpose, cut digests, hashes of what is empty, buckets. Functions by content: the program's tree: places and sides. Functions by content: the program's proofs. Functions by content: the program's proofs: written, judged, led up. Functions by content: the reference's tree. Functions by content: the reference's places and root. Functions by content: proofs of both sides, whatever they hold. -/
import Derived.Test.YtceegbenenakaaaGreatDoorHb
import Derived.Test.YtceegbenenakaaaGreatDoorGg
import Derived.Test.YtceegbenenakaaaGreatDoorPlainM
namespace Go.Proofs.YtceegbenenakaaaGreatDoor
set_option maxRecDepth 100000
set_option maxHeartbeats 2000000
set_option linter.unusedVariables false
set_option linter.unusedSimpArgs false
set_option linter.unusedSectionVars false
open Go.RowKit Pl
attribute [local irreducible] z0s z0x z0C AnsP LeP
def z1D (ps : List Bs) : Prop := ps.length ≤ 60 ∧ ∀ p ∈ ps, p.length ≤ 200
def pAt (ps : List Bs) (k : Nat) : Bs := ps.getD k []
theorem zbp {ps : List Bs} (h : z1D ps) (k : Nat) : (pAt ps k).length ≤ 200 := by
 unfold pAt
 rcases Nat.lt_or_ge k ps.length with hk | hk
 ·simp only [List.getD, List.getElem?_eq_getElem hk, Option.getD_some]; exact h.2 _ (List.getElem_mem hk)
 ·simp [List.getD, List.getElem?_eq_none hk]
theorem z16 {ps : List Bs} {k : Nat} (h : k < ps.length) : (strE ps)[k]? = some [.str (pAt ps k)] := by
 simp [strE, pAt, List.getD, List.getElem?_eq_getElem h]
def z2k (k : Nat) (ps : List Bs) (i : Nat) : Bs := UInt8.ofNat k :: (ps.take i).flatMap z0c
theorem z3C {k : Nat} {ps : List Bs} {i : Nat} (h : i < ps.length) : z2k k ps (i + 1) = z2k k ps i ++ z0c (pAt ps i) := by
 have : ps.take (i + 1) = ps.take i ++ [pAt ps i] := by
  rw [List.take_add_one, List.getElem?_eq_getElem h]; simp [pAt, List.getD, List.getElem?_eq_getElem h]
 rw [z2k, this]; simp [z2k]
theorem z2u {k : Nat} {ps : List Bs} (h : z1D ps) : ∀ i, (z2k k ps i).length ≤ 1 + 205 * i
 | 0 => by simp [z2k]
 | i + 1 => by
   rcases Nat.lt_or_ge i ps.length with hi | hi
   ·rw [z3C hi, List.length_append]
    have h1 := z2u (k := k) h i
    have h2 := zbp h i
    have h3 := z1E (l := pAt ps i) (by omega)
    omega
   ·have h1 := z2u (k := k) h i
    have : z2k k ps (i + 1) = z2k k ps i := by unfold z2k; rw [List.take_of_length_le (by omega), List.take_of_length_le hi]
    rw [this]; omega
theorem z4N (k : Nat) (ps : List Bs) : z2k k ps ps.length = tagB k ps := by rw [z2k, List.take_length]; rfl
theorem z48 {k : Nat} {ps : List Bs} (h : z1D ps) : (tagB k ps).length ≤ 12301 := by
 have h1 := z2u (k := k) h ps.length
 rw [z4N] at h1
 have := h.1; omega
theorem z7m (k : Nat) (ps : List Bs) (hk : 1 ≤ k ∧ k ≤ 8) (hp : z1D ps) : CT Tryz.prog 114 [] [.int .i64 (k : Int), .sl 1 (strE ps)] (.tup [.str (tagB k ps), .bool true]) [] := by
 have hlen := z0g ps
 have hl60 := hp.1
 have c1 : CT Tryz.prog 85 [] [.int .i64 (k : Int), .int .i64 1, .int .i64 8] (.bool true) [] := by
  have := c_in (k : Int) 1 8
  rwa [z1g.2 (by omega)] at this
 rw [← z4N]
 refine z08 z0v 1 rfl Tryz.func114 rfl rfl rfl ?_
 repeat ((try conv => whnf); first | (refine ccA ([]) (c1) ?_) | (refine Exists.intro ps.length (And.intro hlen ?_)) | (refine w_u8 ?_) | (refine stpQ ?_))
 refine z0l 0 ⟨[(6, .ref 1)], [(1, some (.row 1 (z0j (z2k k ps ps.length))))], 2⟩ Nat (fun i => ⟨[(6, .ref 1), (20, .sl 1 (strE ps)), (21, .int .i64 (ps.length : Int)), (22, .int .i64 (i : Int))], [(1, some (.row 1 (z0j (z2k k ps i))))], 2⟩) (fun i => i ≤ ps.length) (fun i => ps.length - i) 0 (by omega) ?_ ?_ ?_
 ·(refine z00 (by rfl) ?_ ?_) <;> (repeat' (first | (exact eqA) | (refine shE ?_) | (refine And.intro ?_ ?_))) <;> first | rfl | decide
 ·intro i hi
  by_cases hlt : i < ps.length
  ·have hnx := z3C (k := k) hlt
   have hw := z2u (k := k) hp i
   have hpl := zbp hp i
   have cs := z1Q (pAt ps i) (by omega)
   have hsl := z1E (l := pAt ps i) (by omega)
   generalize z2k k ps i = o at hnx hw ⊢
   have hbl := z0w o
   have hb2 := z0w (z0c (pAt ps i))
   repeat ((try conv => whnf); first | (refine i_at (z16 hlt) ?_) | (refine ccA ([]) (cs) ?_) | (refine And.intro (by rw [List.length_append, hbl, hb2]; omega) ?_) | (refine stpQ ?_))
   refine ⟨i + 1, by omega, by omega, ?_⟩
   rw [hnx]
   (refine z00 (by rfl) ?_ ?_) <;> (repeat' (first | (exact eqA) | (refine shE ?_) | (refine And.intro ?_ ?_)))
   simp [z0j]
  ·have hie : i = ps.length := by omega
   rw [hie]
   repeat ((try conv => whnf); first | (refine stpQ ?_))
   (refine z00 (by rfl) ?_ ?_) <;> (repeat' (first | (exact eqA) | (refine shE ?_) | (refine And.intro ?_ ?_)))
 ·repeat ((try conv => whnf); first | (refine Exists.intro (z2k k ps ps.length) (And.intro rfl ?_)) | (refine stpQ ?_))
  (refine z01 (by rfl) ?_ ?_ (by rfl)) <;> (repeat' (first | (exact eqA) | (refine shE ?_) | (refine And.intro ?_ ?_)))
theorem z9k (t : Bs) (w : Nat) (ht : (t.length : Int) ≤ 100000000) (hw : 1 ≤ w ∧ w ≤ 32) : CT Tryz.prog 87 [] [.str t, .int .i64 (w : Int)] (.str (cutB t w)) [] := by
 have c1 := z3j (w : Int)
 rw [z1g.2 (by omega)] at c1
 have c2 := z7e t ht
 have hl := z18 t
 unfold cutB
 generalize z1R t = d at c2 hl ⊢
 refine z08 z0v 1 rfl Tryz.func87 rfl rfl rfl ?_
 repeat ((try conv => whnf); first | (refine ccA ([]) (c1) ?_) | (refine ccA ([]) (c2) ?_) | (refine stpQ ?_))
 (refine z01 (by rfl) ?_ ?_ (by rfl)) <;> (repeat' (first | (exact eqA) | (refine shE ?_) | (refine And.intro ?_ ?_)))
theorem zbq (k : Nat) (ps : List Bs) (w : Nat) (hk : 1 ≤ k ∧ k ≤ 8) (hp : z1D ps) (hw : 1 ≤ w ∧ w ≤ 32) : CT Tryz.prog 91 [] [.int .i64 (k : Int), .sl 1 (strE ps), .int .i64 (w : Int)] (.str (z1H k ps w)) [] := by
 have c1 := z7m k ps hk hp
 have hl := z48 (k := k) hp
 have c2 := z9k (tagB k ps) w (by omega) hw
 unfold z1H
 generalize tagB k ps = t at c1 c2 hl ⊢
 refine z08 z0v 1 rfl Tryz.func91 rfl rfl rfl ?_
 repeat ((try conv => whnf); first | (refine ccA ([]) (c1) ?_) | (refine ccA ([]) (c2) ?_) | (refine stpQ ?_))
 (refine z01 (by rfl) ?_ ?_ (by rfl)) <;> (repeat' (first | (exact eqA) | (refine shE ?_) | (refine And.intro ?_ ?_)))
theorem z3k (k : Nat) (ps : List Bs) (w : Nat) (hk : 1 ≤ k ∧ k ≤ 8) (hp : z1D ps) (hw : 1 ≤ w ∧ w ≤ 32) : CT Tryz.prog 40 [] [.int .i64 (k : Int), .int .i64 (w : Int), .sl 1 (strE ps)] (.str (z1H k ps w)) [] := by
 have c1 := zbq k ps w hk hp hw
 refine z08 z0v 1 rfl Tryz.func40 rfl rfl rfl ?_
 repeat ((try conv => whnf); first | (refine ccA ([]) (c1) ?_) | (refine stpQ ?_))
 (refine z01 (by rfl) ?_ ?_ (by rfl)) <;> (repeat' (first | (exact eqA) | (refine shE ?_) | (refine And.intro ?_ ?_)))
theorem z3l : z1D [] := ⟨by simp, fun p h => by cases h⟩
theorem z3m {a b : Bs} (ha : a.length ≤ 200) (hb : b.length ≤ 200) : z1D [a, b] := ⟨by simp, fun p h => by
 rcases List.mem_cons.1 h with rfl | h
 ·exact ha
 ·rw [List.mem_singleton.1 h]; exact hb⟩
theorem z86 (d w : Nat) (hd : d ≤ 8) (hw : 1 ≤ w ∧ w ≤ 32) : CT Tryz.prog 89 [] [.int .i64 (8 - (d : Int)), .int .i64 (w : Int)] (.str (emB w d)) [] := by
 have c1 := z3k 1 [] w (by omega) z3l hw
 refine z08 z0v 1 rfl Tryz.func89 rfl rfl rfl ?_
 repeat ((try conv => whnf); first | (refine ccA ([]) (c1) ?_) | (refine stpQ ?_))
 refine z0l 0 ⟨[(5, .str (emB w d))], [], 2⟩ Nat (fun j => ⟨[(0, .int .i64 (8 - (d : Int))), (1, .int .i64 (w : Int)), (5, .str (emB w j)), (6, .int .i64 (8 - (j : Int)))], [], 2⟩) (fun j => j ≤ d) (fun j => d - j) 0 (by omega) ?_ ?_ ?_
 ·(refine z00 (by rfl) ?_ ?_) <;> (repeat' (first | (exact eqA) | (refine shE ?_) | (refine And.intro ?_ ?_))) <;> first | rfl | decide
 ·intro j hj
  by_cases hlt : j < d
  ·have he := z84 hw.2 j
   have c2 := z3k 3 [emB w j, emB w j] w (by omega) (z3m (by omega) (by omega)) hw
   have hnx : emB w (j + 1) = z1H 3 [emB w j, emB w j] w := rfl
   have e1 : IntKind.i64.wrap (8 - (j : Int) - 1) = 8 - ((j + 1 : Nat) : Int) := by rw [wrap_i64 (by omega) (by omega)]; omega
   generalize emB w j = o at he c2 hnx ⊢
   repeat ((try conv => whnf); first | (refine ccA ([]) (c2) ?_) | (refine Exists.intro _ (And.intro e1.symm ?_)) | (refine stpQ ?_))
   refine ⟨j + 1, by omega, by omega, ?_⟩
   rw [hnx]
   (refine z00 (by rfl) ?_ ?_) <;> (repeat' (first | (exact eqA) | (refine shE ?_) | (refine And.intro ?_ ?_)))
  ·have hje : j = d := by omega
   rw [hje]
   repeat ((try conv => whnf); first | (refine stpQ ?_))
   (refine z00 (by rfl) ?_ ?_) <;> (repeat' (first | (exact eqA) | (refine shE ?_) | (refine And.intro ?_ ?_)))
 ·repeat ((try conv => whnf); first | (refine stpQ ?_))
  (refine z01 (by rfl) ?_ ?_ (by rfl)) <;> (repeat' (first | (exact eqA) | (refine shE ?_) | (refine And.intro ?_ ?_)))
theorem z4O {l : List Lf} {k : Nat} (h : k < l.length) : z1w (l.take (k + 1)) = z1w (l.take k) ++ [(lfAt l k).1, (lfAt l k).2] := by
 rw [z15 l k h]; simp [z1w]
theorem z3D (l : List Lf) : (z1w l).length = 2 * l.length := by
 induction l with
 | nil => rfl
 | cons x l ih => simp only [z1w, List.flatMap_cons, List.length_append, List.length_cons] at ih ⊢; simp at ih ⊢; omega
theorem z2v {l : List Lf} (h : leavesOk l = true) : z1D (z1w l) := by
 obtain ⟨h1, h2, _⟩ := z0z h
 refine ⟨by rw [z3D]; omega, fun p hp => ?_⟩
 simp only [z1w, List.mem_flatMap] at hp
 obtain ⟨x, hx, hp⟩ := hp
 have := h2 x hx
 have a := z1m this.1
 have b := z1n this.2
 rcases List.mem_cons.1 hp with rfl | hp
 ·omega
 ·rw [List.mem_singleton.1 hp]; omega
theorem z9l (a b : List Bs) : strE (a ++ b) = strE a ++ strE b := by simp [strE]
theorem z2w (l : List Lf) (h : leavesOk l = true) : CT Tryz.prog 88 [] [.sl 2 (lvE l)] (.str (z0q l)) [] := by
 have hlen := z0F l
 have h24 := (z0z h).1
 have c1 := z7m (if l = [] then 1 else 2) (z1w l) (by split <;> omega) (z2v h)
 have e : z0q l = tagB (if l = [] then 1 else 2) (z1w l) := by
  unfold z0q
  split
  ·rename_i h0; subst h0; rfl
  ·rfl
 rw [e]
 refine z08 z0v 1 rfl Tryz.func88 rfl rfl rfl ?_
 repeat ((try conv => whnf); first | (refine Exists.intro l.length (And.intro hlen ?_)) | (refine stpQ ?_))
 refine z0l 0 ⟨[(3, .int .i64 ((if l = [] then 1 else 2 : Nat) : Int)), (4, .ref 1)], [(1, some (.row 1 (strE (z1w l))))], 2⟩ Nat (fun k => ⟨[(3, .int .i64 ((if l.take k = [] then 1 else 2 : Nat) : Int)), (4, .ref 1), (9, .sl 2 (lvE l)), (10, .int .i64 (l.length : Int)), (11, .int .i64 (k : Int))], [(1, some (.row 1 (strE (z1w (l.take k)))))], 2⟩) (fun k => k ≤ l.length) (fun k => l.length - k) 0 (by omega) ?_ ?_ ?_
 ·(refine z00 (by rfl) ?_ ?_) <;> (repeat' (first | (exact eqA) | (refine shE ?_) | (refine And.intro ?_ ?_))) <;> first | rfl | decide
 ·intro k hk
  by_cases hlt : k < l.length
  ·have hnx := z4O hlt
   have hw := z3D (l.take k)
   have hne : ¬ (l.take (k + 1) = []) := fun h0 => by
    have := congrArg List.length h0
    rw [List.length_take, List.length_nil] at this; omega
   have hkl : (l.take k).length = k := by rw [List.length_take]; omega
   generalize z1w (l.take k) = o at hnx hw ⊢
   have hol := z0g o
   repeat ((try conv => whnf); first | (refine i_at (z11 hlt) ?_) | (refine And.intro (by simp [z0g]; omega) ?_) | (refine stpQ ?_))
   refine ⟨k + 1, by omega, by omega, ?_⟩
   rw [hnx, if_neg hne]
   (refine z00 (by rfl) ?_ ?_) <;> (repeat' (first | (exact eqA) | (refine shE ?_) | (refine And.intro ?_ ?_)))
   rw [z9l]; rfl
  ·have hke : k = l.length := by omega
   rw [hke, List.take_length]
   repeat ((try conv => whnf); first | (refine stpQ ?_))
   (refine z00 (by rfl) ?_ ?_) <;> (repeat' (first | (exact eqA) | (refine shE ?_) | (refine And.intro ?_ ?_)))
 ·generalize (if l = [] then 1 else 2 : Nat) = kk at c1 ⊢
  repeat ((try conv => whnf); first | (refine ccA ([]) (c1) ?_) | (refine stpQ ?_))
  (refine z01 (by rfl) ?_ ?_ (by rfl)) <;> (repeat' (first | (exact eqA) | (refine shE ?_) | (refine And.intro ?_ ?_)))
end Go.Proofs.YtceegbenenakaaaGreatDoor
namespace Go.Proofs.YtceegbenenakaaaGreatDoor
set_option maxRecDepth 100000
set_option maxHeartbeats 8000000
set_option linter.unusedVariables false
set_option linter.unusedSimpArgs false
set_option linter.unusedSectionVars false
open Go.RowKit Pl
attribute [local irreducible] z0s z0x z0C AnsP LeP
def ex3 : List (Nat × Ty) := [
 (61, ⟨3, 56, [.val nilV, .val nilV, .int .i64 0], .struct [(0, 24), (1, 28), (2, 3)], false⟩),
 (126, ⟨3, 40, [.str [], .str [], .int .i64 0], .struct [(0, 71), (2, 3)], false⟩),
 (94, tySl 126),
 (3, zck)]
theorem zbr : ∀ p ∈ ex3, TyOk Tryz.prog p.1 p.2 := by
 simp only [ex3, List.forall_mem_cons]
 repeat' (refine And.intro ?_ ?_)
 all_goals first
  | exact (fun _ h => by cases h)
  | exact ⟨⟨_, _, rfl, rfl, rfl, rfl, rfl⟩, ⟨_, rfl, rfl⟩, rfl, rfl, fun h => (Bool.false_ne_true h).elim⟩
def ttL3 : List (Nat × Ty) := ttL ++ ex3
def tt3 : TT := lk ttL3
theorem z7n : TtOk Tryz.prog tt3 := fun t y h => by
 have hm : (t, y) ∈ ttL3 := z0X h
 rcases List.mem_append.1 hm with h | h
 ·exact z5s (t, y) h
 ·exact zbr (t, y) h
def ixE (l : List Lf) : List (List T) := l.map fun x => [.int .i64 (ixB x.1 : Int)]
theorem ze4 (l : List Lf) : (ixE l).length = l.length := by simp [ixE]
theorem ixE_at {l : List Lf} {k : Nat} (h : k < l.length) : (ixE l)[k]? = some [.int .i64 (ixB (lfAt l k).1 : Int)] := by
 rw [z68 h]; simp [ixE, List.getElem?_eq_getElem h]
theorem zcG {l : List Lf} {k : Nat} (h : k < l.length) : ixE (l.take (k + 1)) = ixE (l.take k) ++ [[.int .i64 (ixB (lfAt l k).1 : Int)]] := by
 rw [z15 l k h]; simp [ixE]
theorem z6i {l : List Lf} (h : leavesOk l = true) (k : Nat) : ((lfAt l k).1.length : Int) ≤ 100000000 := by
 obtain ⟨_, h2, _⟩ := z0z h
 unfold lfAt
 rcases Nat.lt_or_ge k l.length with hk | hk
 ·simp only [List.getD, List.getElem?_eq_getElem hk, Option.getD_some]
  have := z1m (h2 _ (List.getElem_mem hk)).1
  omega
 ·simp [List.getD, List.getElem?_eq_none hk]
theorem za3 (l : List Lf) (w : Nat) (h : leavesOk l = true) : CT Tryz.prog 33 [] [.sl 2 (lvE l), .int .i64 (w : Int)] (.agg [.sl 2 (lvE l), .ref 1, .int .i64 (w : Int)]) [.row 1 (ixE l)] := by
 have hlen := z0F l
 have h24 := (z0z h).1
 refine z08 z7n 1 rfl Tryz.func33 rfl rfl rfl ?_
 repeat ((try conv => whnf); first | (refine Exists.intro l.length (And.intro hlen ?_)) | (refine stpQ ?_))
 refine z0l 0 ⟨[(4, .ptr 1 0 0), (5, .ptr 2 0 0)], [(1, some (.box [.val nilV, .val nilV, .int .i64 0])), (2, some (.box [.sl 2 (lvE l), .ref 3, .int .i64 (w : Int)])), (3, some (.row 1 (ixE l)))], 4⟩ Nat (fun k => ⟨[(4, .ptr 1 0 0), (5, .ptr 2 0 0), (11, .sl 2 (lvE l)), (12, .int .i64 (l.length : Int)), (13, .int .i64 (k : Int))], [(1, some (.box [.val nilV, .val nilV, .int .i64 0])), (2, some (.box [.sl 2 (lvE l), .ref 3, .int .i64 (w : Int)])), (3, some (.row 1 (ixE (l.take k))))], 4⟩) (fun k => k ≤ l.length) (fun k => l.length - k) 0 (by omega) ?_ ?_ ?_
 ·(refine z00 (by rfl) ?_ ?_) <;> (repeat' (first | (exact eqA) | (refine shE ?_) | (refine And.intro ?_ ?_))) <;> first | rfl | decide
 ·intro k hk
  by_cases hlt : k < l.length
  ·have hnx := zcG hlt
   have hw := ze4 (l.take k)
   have hkl : (l.take k).length = k := by rw [List.length_take]; omega
   have c1 := z3i (lfAt l k).1 (z6i h k)
   generalize ixE (l.take k) = o at hnx hw ⊢
   repeat ((try conv => whnf); first | (refine i_at (z11 hlt) ?_) | (refine ccA ([]) (c1) ?_) | (refine And.intro (by rw [List.length_append]; simp; omega) ?_) | (refine And.intro (by kernel_rfl) ?_) | (refine stpQ ?_))
   refine ⟨k + 1, by omega, by omega, ?_⟩
   rw [hnx]
   (refine z00 (by rfl) ?_ ?_) <;> (repeat' (first | (exact eqA) | (refine shE ?_) | (refine And.intro ?_ ?_))) <;> rfl
  ·have hke : k = l.length := by omega
   rw [hke, List.take_length]
   repeat ((try conv => whnf); first | (refine stpQ ?_))
   (refine z00 (by rfl) ?_ ?_) <;> (repeat' (first | (exact eqA) | (refine shE ?_) | (refine And.intro ?_ ?_)))
 ·repeat ((try conv => whnf); first | (refine stpQ ?_))
  (refine z01 (by rfl) ?_ ?_ (by rfl)) <;> (repeat' (first | (exact eqA) | (refine shE ?_) | (refine And.intro ?_ ?_)))
theorem z9m {l : List Lf} {k d p : Nat} (h : k < l.length) : atP (l.take (k + 1)) d p = atP (l.take k) d p ++ (if ixB (lfAt l k).1 / 2 ^ d = p then [lfAt l k] else []) := by
 unfold atP
 rw [z1P h]
 by_cases he : ixB (lfAt l k).1 / 2 ^ d = p <;> simp [he]
theorem zde {l : List Lf} {d p : Nat} (h : leavesOk l = true) : leavesOk (atP l d p) = true := by
 obtain ⟨h1, h2, h3⟩ := z0z h
 exact z72 (Nat.le_trans (List.length_filter_le _ _) h1) (fun x hx => h2 x (List.mem_filter.1 hx).1) (h3.filter _)
theorem zbs (a d : Nat) : ((a : Nat) : Int) / 2 ^ ((d : Nat) : Int).toNat = ((a / 2 ^ d : Nat) : Int) := by rw [Int.toNat_natCast]; simp
theorem z2i {l : List Lf} (h : leavesOk l = true) : (z0q l).length ≤ 12301 := by
 unfold z0q
 split
 ·exact z48 z3l
 ·exact z48 (z2v h)
theorem zbt (l : List Lf) (w : Nat) (h : leavesOk l = true) (hw : 1 ≤ w ∧ w ≤ 32) : ∀ (d p : Nat), d ≤ 8 → p < 2 ^ (8 - d) → CT Tryz.prog 37 [] [.agg [.sl 2 (lvE l), .sl 1 (ixE l), .int .i64 (w : Int)], .int .i64 (8 - (d : Int)), .int .i64 (p : Int)] (.str (z0f l w d p)) []
 | d, p, hd, hp => by
   have hlen := z0F l
   have h24 := (z0z h).1
   have e1 : IntKind.i64.wrap (8 - (8 - (d : Int))) = ((d : Nat) : Int) := by rw [wrap_i64 (by omega) (by omega)]; omega
   have hokA := zde (d := d) (p := p) h
   have hlA := z0F (atP l d p)
   refine z08 z7n 1 rfl Tryz.func37 rfl rfl rfl ?_
   repeat ((try conv => whnf); first | (refine Exists.intro l.length (And.intro hlen ?_)) | (refine stpQ ?_))
   refine z0l 0 ⟨[(1, .int .i64 (8 - (d : Int))), (2, .int .i64 (p : Int)), (3, .ptr 1 0 0), (7, .ref 2)], [(1, some (.box [.sl 2 (lvE l), .sl 1 (ixE l), .int .i64 (w : Int)])), (2, some (.row 2 (lvE (atP l d p))))], 3⟩ Nat (fun k => ⟨[(1, .int .i64 (8 - (d : Int))), (2, .int .i64 (p : Int)), (3, .ptr 1 0 0), (7, .ref 2), (11, .sl 2 (lvE l)), (12, .int .i64 (l.length : Int)), (13, .int .i64 (k : Int))], [(1, some (.box [.sl 2 (lvE l), .sl 1 (ixE l), .int .i64 (w : Int)])), (2, some (.row 2 (lvE (atP (l.take k) d p))))], 3⟩) (fun k => k ≤ l.length) (fun k => l.length - k) 0 (by omega) ?_ ?_ ?_
   ·(refine z00 (by rfl) ?_ ?_) <;> (repeat' (first | (exact eqA) | (refine shE ?_) | (refine And.intro ?_ ?_))) <;> first | rfl | decide
   ·intro k hk
    by_cases hlt : k < l.length
    ·have hnx := z9m (d := d) (p := p) hlt
     have hwk : (atP (l.take k) d p).length ≤ k := Nat.le_trans (List.length_filter_le _ _) (by rw [List.length_take]; omega)
     have e2 := zbs (ixB (lfAt l k).1) d
     generalize atP (l.take k) d p = o at hnx hwk ⊢
     have hol := z0F o
     repeat' (first | ((try conv => whnf); first | (refine i_at (z11 hlt) ?_) | (refine i_at (ixE_at hlt) ?_) | (refine Exists.intro _ (And.intro e1.symm ?_)) | (refine And.intro (show _ ≤ (64 : Int) from by omega) ?_) | (refine Exists.intro _ (And.intro e2.symm ?_)) | (refine And.intro (by simp [z0F]; omega) ?_) | (refine And.intro (by kernel_rfl) ?_) | (refine stpQ ?_)) | ((try conv => whnf); first | (refine cb_d (fun h => ?_) (fun h => ?_)) | (refine cb_n (fun h => ?_) (fun h => ?_)) | (refine cb (fun h => ?_) (fun h => ?_))))
     all_goals first
      | (exfalso; omega)
      | (rename_i hc
         have hc2 : ixB (lfAt l k).1 / 2 ^ d = p := by omega
         refine ⟨k + 1, by omega, by omega, ?_⟩
         rw [hnx, if_pos hc2]
         (refine z00 (by rfl) ?_ ?_) <;> (repeat' (first | (exact eqA) | (refine shE ?_) | (refine And.intro ?_ ?_)))
         rw [z2B]; rfl)
      | (rename_i hc
         have hc2 : ¬ (ixB (lfAt l k).1 / 2 ^ d = p) := by omega
         refine ⟨k + 1, by omega, by omega, ?_⟩
         rw [hnx, if_neg hc2, List.append_nil]
         (refine z00 (by rfl) ?_ ?_) <;> (repeat' (first | (exact eqA) | (refine shE ?_) | (refine And.intro ?_ ?_))))
    ·have hke : k = l.length := by omega
     rw [hke, List.take_length]
     repeat ((try conv => whnf); first | (refine stpQ ?_))
     (refine z00 (by rfl) ?_ ?_) <;> (repeat' (first | (exact eqA) | (refine shE ?_) | (refine And.intro ?_ ?_)))
   ·cases d with
    | zero =>
      have c1 := z2w (atP l 0 p) hokA
      have c2 := z9k (z0q (atP l 0 p)) w (by have := z2i hokA; omega) hw
      rw [show z0f l w 0 p = cutB (z0q (atP l 0 p)) w from rfl]
      generalize atP l 0 p = o at c1 c2 ⊢
      repeat ((try conv => whnf); first | (refine ccA ([]) (c1) ?_) | (refine ccA ([]) (c2) ?_) | (refine And.intro (by kernel_rfl) ?_) | (refine stpQ ?_))
      (refine z01 (by rfl) ?_ ?_ (by rfl)) <;> (repeat' (first | (exact eqA) | (refine shE ?_) | (refine And.intro ?_ ?_)))
    | succ d =>
      by_cases hE : atP l (d + 1) p = []
      ·have c1 := z86 (d + 1) w hd hw
       rw [show z0f l w (d + 1) p = emB w (d + 1) from by rw [z0f, if_pos hE], hE]
       repeat ((try conv => whnf); first | (refine ccA ([]) (c1) ?_) | (refine And.intro (by kernel_rfl) ?_) | (refine stpQ ?_))
       (refine z01 (by rfl) ?_ ?_ (by rfl)) <;> (repeat' (first | (exact eqA) | (refine shE ?_) | (refine And.intro ?_ ?_)))
      ·have hpos : 0 < (atP l (d + 1) p).length := List.length_pos_iff.2 hE
       have hpw : 2 ^ (8 - d) = 2 * 2 ^ (8 - (d + 1)) := by
        rw [show 8 - d = (8 - (d + 1)) + 1 by omega, Nat.pow_succ]; omega
       have hsm : 2 ^ (8 - d) ≤ 2 ^ 8 := Nat.pow_le_pow_right (by decide) (by omega)
       have i1 := zbt l w h hw d (2 * p) (by omega) (by omega)
       have i2 : CT Tryz.prog 37 [] [.agg [.sl 2 (lvE l), .sl 1 (ixE l), .int .i64 (w : Int)], .int .i64 (8 - (d : Int)), .int .i64 ((2 * p + 1 : Nat) : Int)] (.str (z0f l w d (2 * p + 1))) [] := zbt l w h hw d (2 * p + 1) (by omega) (by omega)
       have n1 := z1T (l := l) hw.2 d (2 * p)
       have n2 := z1T (l := l) hw.2 d (2 * p + 1)
       have c1 := z3k 3 [z0f l w d (2 * p), z0f l w d (2 * p + 1)] w (by omega) (z3m (by omega) (by omega)) hw
       rw [show z0f l w (d + 1) p = z1H 3 [z0f l w d (2 * p), z0f l w d (2 * p + 1)] w from by rw [z0f, if_neg hE]]
       have e3 : IntKind.i64.wrap (8 - ((d + 1 : Nat) : Int) + 1) = 8 - (d : Int) := by rw [wrap_i64 (by omega) (by omega)]; omega
       generalize atP l (d + 1) p = o at hpos hlA ⊢
       generalize z0f l w d (2 * p) = x1 at i1 c1 n1 ⊢
       generalize z0f l w d (2 * p + 1) = x2 at i2 c1 n2 ⊢
       repeat ((try conv => whnf); first | (refine Exists.intro o.length (And.intro hlA ?_)) | (refine Exists.intro _ (And.intro e3.symm ?_)) | (refine z4J (by omega) ?_) | (refine ccA ([]) (i1) ?_) | (refine ccA ([]) (i2) ?_) | (refine ccA ([]) (c1) ?_) | (refine And.intro (by kernel_rfl) ?_) | (refine stpQ ?_))
       (refine z01 (by rfl) ?_ ?_ (by rfl)) <;> (repeat' (first | (exact eqA) | (refine shE ?_) | (refine And.intro ?_ ?_)))
end Go.Proofs.YtceegbenenakaaaGreatDoor
namespace Go.Proofs.YtceegbenenakaaaGreatDoor
set_option maxRecDepth 100000
set_option maxHeartbeats 1000000
set_option linter.unusedVariables false
set_option linter.unusedSimpArgs false
set_option linter.unusedSectionVars false
open Go.RowKit Pl
attribute [local irreducible] z0s z0x z0C AnsP LeP
def z7o (s : List Bs) (w : Int) (k : Nat) : Bool := (s.take k).all fun x => decide ((x.length : Int) = w)
theorem z87 {s : List Bs} {w : Int} {k : Nat} (h : k < s.length) : z7o s w (k + 1) = (z7o s w k && decide (((pAt s k).length : Int) = w)) := by
 have : s.take (k + 1) = s.take k ++ [pAt s k] := by
  rw [List.take_add_one, List.getElem?_eq_getElem h]; simp [pAt, List.getD, List.getElem?_eq_getElem h]
 simp [z7o, this]
theorem za4 {s : List Bs} {w : Int} {k : Nat} (h : k < s.length) (hne : ¬ ((pAt s k).length : Int) = w) : (s.all fun x => decide ((x.length : Int) = w)) = false := by
 rw [List.all_eq_false]
 refine ⟨pAt s k, ?_, by simpa using hne⟩
 simp [pAt, List.getD, List.getElem?_eq_getElem h]
theorem z4P (s : List Bs) (n w : Int) (hs : (s.length : Int) ≤ 100000000) : CT Tryz.prog 38 [] [.sl 1 (strE s), .int .i64 n, .int .i64 w] (.bool ((s.all fun x => decide ((x.length : Int) = w)) && decide ((s.length : Int) = n))) [] := by
 have hlen := z0g s
 refine z08 z0v 1 rfl Tryz.func38 rfl rfl rfl ?_
 repeat ((try conv => whnf); first | (refine Exists.intro s.length (And.intro hlen ?_)) | (refine stpQ ?_))
 refine z0P Nat (fun k => ⟨[(0, .sl 1 (strE s)), (1, .int .i64 n), (2, .int .i64 w), (9, .sl 1 (strE s)), (10, .int .i64 (s.length : Int)), (11, .int .i64 (k : Int))], [], 2⟩) (fun k => k ≤ s.length ∧ z7o s w k = true) (fun k => s.length - k) 0 ⟨by omega, rfl⟩ ?_ ?_
 ·(refine z00 (by rfl) ?_ ?_) <;> repeat' (first | (exact eqA) | (refine shE ?_) | (refine And.intro ?_ ?_))
 ·intro k hkk
  have hk := hkk.1
  have hp := hkk.2
  by_cases hlt : k < s.length
  ·by_cases hq : ((pAt s k).length : Int) = w
   ·have hnx := z87 (w := w) hlt
    rw [hp, decide_eq_true hq] at hnx
    repeat ((try conv => whnf); first | (refine i_at (z16 hlt) ?_) | (refine z2T hq ?_) | (refine stpQ ?_))
    refine ⟨k + 1, ⟨by omega, hnx⟩, by omega, ?_⟩
    (refine z00 (by rfl) ?_ ?_) <;> repeat' (first | (exact eqA) | (refine shE ?_) | (refine And.intro ?_ ?_))
   ·rw [za4 hlt hq]
    repeat ((try conv => whnf); first | (refine i_at (z16 hlt) ?_) | (refine z4A hq ?_) | (refine stpQ ?_))
    (refine z01 (by rfl) ?_ ?_ (by rfl)) <;> (repeat' (first | (exact eqA) | (refine shE ?_) | (refine And.intro ?_ ?_))) <;> rfl
  ·have hke : k = s.length := by omega
   have hall : (s.all fun x => decide ((x.length : Int) = w)) = true := by rw [hke, z7o, List.take_length] at hp; exact hp
   rw [hall]
   repeat ((try conv => whnf); first | (refine Exists.intro s.length (And.intro hlen ?_)) | (refine stpQ ?_))
   (refine z01 (by rfl) ?_ ?_ (by rfl)) <;> (repeat' (first | (exact eqA) | (refine shE ?_) | (refine And.intro ?_ ?_))) <;> (rw [Bool.true_and])
def z2x (s : List Bs) (k : Nat) : Bs := (s.take k).flatten
theorem z4Q {s : List Bs} {k : Nat} (h : k < s.length) : z2x s (k + 1) = z2x s k ++ pAt s k := by
 have : s.take (k + 1) = s.take k ++ [pAt s k] := by
  rw [List.take_add_one, List.getElem?_eq_getElem h]; simp [pAt, List.getD, List.getElem?_eq_getElem h]
 simp [z2x, this]
theorem z5C {s : List Bs} (h : ∀ x ∈ s, x.length ≤ 200) : ∀ k, (z2x s k).length ≤ 200 * k
 | 0 => by simp [z2x]
 | k + 1 => by
   have ih := z5C h k
   rcases Nat.lt_or_ge k s.length with hk | hk
   ·rw [z4Q hk, List.length_append]
    have : (pAt s k).length ≤ 200 := by simp only [pAt, List.getD, List.getElem?_eq_getElem hk, Option.getD_some]; exact h _ (List.getElem_mem hk)
    omega
   ·have : z2x s (k + 1) = z2x s k := by unfold z2x; rw [List.take_of_length_le (by omega), List.take_of_length_le hk]
    rw [this]; omega
theorem zcH (s : List Bs) (hs : (s.length : Int) ≤ 1000000) (h : ∀ x ∈ s, x.length ≤ 200) : CT Tryz.prog 46 [] [.sl 1 (strE s)] (.str s.flatten) [] := by
 have hlen := z0g s
 refine z08 z0v 1 rfl Tryz.func46 rfl rfl rfl ?_
 repeat ((try conv => whnf); first | (refine Exists.intro s.length (And.intro hlen ?_)) | (refine stpQ ?_))
 refine z0l 0 ⟨[(3, .str s.flatten)], [], 2⟩ Nat (fun k => ⟨[(3, .str (z2x s k)), (6, .sl 1 (strE s)), (7, .int .i64 (s.length : Int)), (8, .int .i64 (k : Int))], [], 2⟩) (fun k => k ≤ s.length) (fun k => s.length - k) 0 (by omega) ?_ ?_ ?_
 ·(refine z00 (by rfl) ?_ ?_) <;> (repeat' (first | (exact eqA) | (refine shE ?_) | (refine And.intro ?_ ?_))) <;> rfl
 ·intro k hk
  by_cases hlt : k < s.length
  ·have hnx := z4Q hlt
   have hj := z5C h k
   have hp : (pAt s k).length ≤ 200 := by simp only [pAt, List.getD, List.getElem?_eq_getElem hlt, Option.getD_some]; exact h _ (List.getElem_mem hlt)
   generalize z2x s k = o at hnx hj ⊢
   repeat ((try conv => whnf); first | (refine i_at (z16 hlt) ?_) | (refine stpQ ?_))
   refine ⟨k + 1, by omega, by omega, ?_⟩
   rw [hnx]
   (refine z00 (by rfl) ?_ ?_) <;> (repeat' (first | (exact eqA) | (refine shE ?_) | (refine And.intro ?_ ?_)))
  ·have hke : k = s.length := by omega
   rw [hke, z2x, List.take_length]
   repeat ((try conv => whnf); first | (refine stpQ ?_))
   (refine z00 (by rfl) ?_ ?_) <;> (repeat' (first | (exact eqA) | (refine shE ?_) | (refine And.intro ?_ ?_)))
 ·repeat ((try conv => whnf); first | (refine stpQ ?_))
  (refine z01 (by rfl) ?_ ?_ (by rfl)) <;> (repeat' (first | (exact eqA) | (refine shE ?_) | (refine And.intro ?_ ?_)))
end Go.Proofs.YtceegbenenakaaaGreatDoor
namespace Go.Proofs.YtceegbenenakaaaGreatDoor
set_option linter.unusedVariables false
set_option linter.unusedSimpArgs false
set_option linter.unusedSectionVars false
open Go.RowKit Pl
attribute [local irreducible] z0s z0x z0C AnsP LeP
theorem z4R {l : List Lf} (h : leavesOk l = true) : Sml l := by
 obtain ⟨h1, h2, _⟩ := z0z h
 refine ⟨by omega, fun i => ?_⟩
 rcases Nat.lt_or_ge i l.length with hl | hl
 ·have := h2 _ (List.getElem_mem hl)
  have a := z1m this.1
  have b := z1n this.2
  rw [z7S hl]; omega
 ·simp [lfAt, List.getD, List.getElem?_eq_none hl]
def pfGood (nm : Bs) (l : List Lf) (s : List Bs) (w : Int) : Bool :=
 z0H nm && (leavesOk l && (decide (s.length ≤ 8) && (inB w 1 32 && ((s.all fun x => decide ((x.length : Int) = w)) && decide ((z0h l (ixB nm : Int)).length = l.length)))))
def FdAt (R : List Bs × Bs) (ix w : Nat) (T : List Bs) (j : Nat) (h : Bs) (rest : List Bs) : Prop := R = (T ++ (z85 ix w j h rest).1, (z85 ix w j h rest).2)
theorem FdAt.step {R : List Bs × Bs} {ix w : Nat} {T : List Bs} {j : Nat} {h s : Bs} {rest : List Bs} (hR : FdAt R ix w T j h (s :: rest)) : FdAt R ix w (T ++ [tagB 3 (za2 ix j h s)]) (j + 1) (cutB (tagB 3 (za2 ix j h s)) w) rest := by
 unfold FdAt at hR ⊢; rw [hR]; simp [z85]
theorem FdAt.done {R : List Bs × Bs} {ix w : Nat} {T : List Bs} {j : Nat} {h : Bs} (hR : FdAt R ix w T j h []) : R = (T, h) := by
 unfold FdAt at hR; rw [hR]; simp [z85]
end Go.Proofs.YtceegbenenakaaaGreatDoor
namespace Go.Proofs.YtceegbenenakaaaGreatDoor
set_option maxRecDepth 100000
set_option maxHeartbeats 4000000
set_option linter.unusedVariables false
set_option linter.unusedSimpArgs false
set_option linter.unusedSectionVars false
open Go.RowKit Pl
attribute [local irreducible] z0s z0x z0C AnsP LeP
theorem zbw (t : Bs) (w : Nat) (ht : (t.length : Int) ≤ 100000000) (hw : 1 ≤ w ∧ w ≤ 32) : CT Tryz.prog 99 [] [.str t, .int .i64 (w : Int)] (.str (cutB t w)) [] := by
 have c1 := z3z (w : Int) 1 32
 rw [z1g.2 (by omega)] at c1
 have c2 := z9c t ht
 have hl := z18 t
 unfold cutB
 generalize z1R t = d at c2 hl ⊢
 refine z08 z0v 1 rfl Tryz.func99 rfl rfl rfl ?_
 repeat ((try conv => whnf); first | (refine ccA ([]) (c1) ?_) | (refine ccA ([]) (c2) ?_) | (refine stpQ ?_))
 (refine z01 (by rfl) ?_ ?_ (by rfl)) <;> (repeat' (first | (exact eqA) | (refine shE ?_) | (refine And.intro ?_ ?_)))
theorem z3F (k : Nat) (ps : List Bs) (hk : 1 ≤ k ∧ k ≤ 8) (hp : z1D ps) : CT Tryz.prog 100 [] [.int .i64 (k : Int), .sl 1 (strE ps)] (.tup [.str (tagB k ps), .bool true]) [] := by
 have hlen := z0g ps
 have hl60 := hp.1
 have c1 : CT Tryz.prog 68 [] [.int .i64 (k : Int), .int .i64 1, .int .i64 8] (.bool true) [] := by
  have := z3z (k : Int) 1 8
  rwa [z1g.2 (by omega)] at this
 rw [← z4N]
 refine z08 z0v 1 rfl Tryz.func100 rfl rfl rfl ?_
 repeat ((try conv => whnf); first | (refine ccA ([]) (c1) ?_) | (refine Exists.intro ps.length (And.intro hlen ?_)) | (refine w_u8 ?_) | (refine Exists.intro [UInt8.ofNat k] (And.intro rfl ?_)) | (refine stpQ ?_))
 refine z0l 0 ⟨[(6, .str (z2k k ps ps.length))], [], 2⟩ Nat (fun i => ⟨[(1, .sl 1 (strE ps)), (6, .str (z2k k ps i)), (7, .int .i64 (i : Int))], [], 2⟩) (fun i => i ≤ ps.length) (fun i => ps.length - i) 0 (by omega) ?_ ?_ ?_
 ·(refine z00 (by rfl) ?_ ?_) <;> (repeat' (first | (exact eqA) | (refine shE ?_) | (refine And.intro ?_ ?_))) <;> first | rfl | decide
 ·intro i hi
  by_cases hlt : i < ps.length
  ·have hnx := z3C (k := k) hlt
   have hw := z2u (k := k) hp i
   have hpl := zbp hp i
   have cs := c_sVar (pAt ps i).length (by omega)
   have hvl := z1r (n := (pAt ps i).length) (by omega)
   generalize z2k k ps i = o at hnx hw ⊢
   have hsh : z0c (pAt ps i) = z0e (pAt ps i).length ++ pAt ps i := rfl
   rw [hsh] at hnx
   generalize z0e (pAt ps i).length = v at cs hvl hnx
   repeat ((try conv => whnf); first | (refine Exists.intro ps.length (And.intro hlen ?_)) | (refine i_at (z16 hlt) ?_) | (refine ccA ([]) (cs) ?_) | (refine And.intro (by rw [List.length_append]; omega) ?_) | (refine And.intro (by kernel_rfl) ?_) | (refine stpQ ?_))
   refine ⟨i + 1, by omega, by omega, ?_⟩
   rw [hnx]
   (refine z00 (by rfl) ?_ ?_) <;> (repeat' (first | (exact eqA) | (refine shE ?_) | (refine And.intro ?_ ?_)))
   rw [List.append_assoc]
  ·have hie : i = ps.length := by omega
   rw [hie]
   repeat ((try conv => whnf); first | (refine Exists.intro ps.length (And.intro hlen ?_)) | (refine stpQ ?_))
   (refine z00 (by rfl) ?_ ?_) <;> (repeat' (first | (exact eqA) | (refine shE ?_) | (refine And.intro ?_ ?_)))
 ·repeat ((try conv => whnf); first | (refine stpQ ?_))
  (refine z01 (by rfl) ?_ ?_ (by rfl)) <;> (repeat' (first | (exact eqA) | (refine shE ?_) | (refine And.intro ?_ ?_)))
theorem z3G (k : Nat) (ps : List Bs) (w : Nat) (hk : 1 ≤ k ∧ k ≤ 8) (hp : z1D ps) (hw : 1 ≤ w ∧ w ≤ 32) : CT Tryz.prog 61 [] [.int .i64 (k : Int), .sl 1 (strE ps), .int .i64 (w : Int)] (.str (z1H k ps w)) [] := by
 have c1 := z3F k ps hk hp
 have hl := z48 (k := k) hp
 have c2 := zbw (tagB k ps) w (by omega) hw
 unfold z1H
 generalize tagB k ps = t at c1 c2 hl ⊢
 refine z08 z0v 1 rfl Tryz.func61 rfl rfl rfl ?_
 repeat ((try conv => whnf); first | (refine ccA ([]) (c1) ?_) | (refine ccA ([]) (c2) ?_) | (refine stpQ ?_))
 (refine z01 (by rfl) ?_ ?_ (by rfl)) <;> (repeat' (first | (exact eqA) | (refine shE ?_) | (refine And.intro ?_ ?_)))
def empJ (w j : Nat) : List Bs := (List.range 9).map fun i => if 8 - j ≤ i then emB w (8 - i) else []
theorem z9n (w j : Nat) : (empJ w j).length = 9 := by simp [empJ]
theorem zbx {w j i : Nat} (hi : i < 9) (hj : 8 - j ≤ i) : pAt (empJ w j) i = emB w (8 - i) := by
 simp only [pAt, empJ, List.getD, List.getElem?_map, List.getElem?_range hi, Option.map_some, Option.getD_some, if_pos hj]
theorem zcI (w j : Nat) (hj : j < 8) : (empJ w j).set (7 - j) (emB w (j + 1)) = empJ w (j + 1) := by
 apply List.ext_getElem?
 intro i
 rw [List.getElem?_set]
 by_cases hi : i < 9
 ·simp only [empJ, List.getElem?_map, List.getElem?_range hi, Option.map_some, List.length_map, List.length_range]
  by_cases h1 : 7 - j = i
  ·subst h1
   have e1 : 8 - (7 - j) = j + 1 := by omega
   have e2 : 8 - (j + 1) ≤ 7 - j := by omega
   rw [if_pos rfl, if_pos hi, e1, if_pos e2]
  ·rw [if_neg h1]
   by_cases h2 : 8 - j ≤ i
   ·rw [if_pos h2, if_pos (by omega)]
   ·rw [if_neg h2, if_neg (by omega)]
 ·have h1 : ¬ (7 - j = i) := by omega
  rw [if_neg h1]
  simp [empJ, hi]
theorem zcJ (l : List Bs) (i : Nat) (x : Bs) : (strE l).set i [.str x] = strE (l.set i x) := by simp [strE, List.map_set]
theorem zby (w : Nat) (hw : 1 ≤ w ∧ w ≤ 32) : CT Tryz.prog 71 [] [.int .i64 (w : Int)] (.ref 1) [.row 1 (strE (empJ w 8))] := by
 have c1 := z3G 1 [] w (by omega) z3l hw
 refine z08 z0v 1 rfl Tryz.func71 rfl rfl rfl ?_
 repeat ((try conv => whnf); first | (refine ccA ([]) (c1) ?_) | (refine Exists.intro 9 (And.intro rfl ?_)) | (refine i_lt (i := 8) (by simp) ?_) | (refine Exists.intro _ (And.intro rfl ?_)) | (refine And.intro (by kernel_rfl) ?_) | (refine stpQ ?_))
 refine z0l 0 ⟨[(3, .ref 1)], [(1, some (.row 1 (strE (empJ w 8))))], 2⟩ Nat (fun j => ⟨[(0, .int .i64 (w : Int)), (3, .ref 1), (4, .int .i64 (7 - (j : Int)))], [(1, some (.row 1 (strE (empJ w j))))], 2⟩) (fun j => j ≤ 8) (fun j => 8 - j) 0 (by omega) ?_ ?_ ?_
 ·(refine z00 (by rfl) ?_ ?_) <;> (repeat' (first | (exact eqA) | (refine shE ?_) | (refine And.intro ?_ ?_))) <;> first | rfl | decide
 ·intro j hj
  by_cases hlt : j < 8
  ·have hst := zcI w j hlt
   have hl := z9n w j
   have he := zbx (w := w) (j := j) (i := 7 - j + 1) (by omega) (by omega)
   have e8 : 8 - (7 - j + 1) = j := by omega
   rw [e8] at he
   have hel := z84 hw.2 j
   have c2 := z3G 3 [emB w j, emB w j] w (by omega) (z3m (by omega) (by omega)) hw
   have hnx : emB w (j + 1) = z1H 3 [emB w j, emB w j] w := rfl
   have e7 : 7 - (j : Int) = ((7 - j : Nat) : Int) := by omega
   have e4 : IntKind.i64.wrap (((7 - j : Nat) : Int) - 1) = 7 - ((j + 1 : Nat) : Int) := by rw [wrap_i64 (by omega) (by omega)]; omega
   rw [hnx] at hst
   generalize emB w j = o at he hel c2 hst
   generalize empJ w j = em at hst hl he ⊢
   have hml := z0g em
   have hlt2 : 7 - j + 1 < em.length := by omega
   have hg := z16 hlt2
   rw [he] at hg
   have hlt3 : 7 - j < em.length := by omega
   have hg3 := z16 hlt3
   rw [e7]
   repeat ((try conv => whnf); first | (refine i_lt (by omega) ?_) | (refine Exists.intro _ (And.intro hg ?_)) | (refine ccA ([]) (c2) ?_) | (refine Exists.intro _ (And.intro hg3 ?_)) | (refine Exists.intro _ (And.intro e4.symm ?_)) | (refine And.intro (by kernel_rfl) ?_) | (refine stpQ ?_))
   refine ⟨j + 1, by omega, by omega, ?_⟩
   rw [← hst]
   (refine z00 (by rfl) ?_ ?_) <;> (repeat' (first | (exact eqA) | (refine shE ?_) | (refine And.intro ?_ ?_)))
   rw [← zcJ]; rfl
  ·have hje : j = 8 := by omega
   rw [hje]
   repeat ((try conv => whnf); first | (refine And.intro (by kernel_rfl) ?_) | (refine stpQ ?_))
   (refine z00 (by rfl) ?_ ?_) <;> (repeat' (first | (exact eqA) | (refine shE ?_) | (refine And.intro ?_ ?_)))
 ·repeat ((try conv => whnf); first | (refine stpQ ?_))
  (refine z01 (by rfl) ?_ ?_ (by rfl)) <;> (repeat' (first | (exact eqA) | (refine shE ?_) | (refine And.intro ?_ ?_)))
theorem z6k (l : List Lf) (h : leavesOk l = true) : CT Tryz.prog 98 [] [.sl 2 (lvE l)] (.tup [.str (z0q l), .bool true]) [] := by
 have hlen := z0F l
 have h24 := (z0z h).1
 have c0 := z2f l (by omega) (by
  intro i
  have h1 := z6i h i
  obtain ⟨_, h2, _⟩ := z0z h
  unfold lfAt at h1 ⊢
  rcases Nat.lt_or_ge i l.length with hk | hk
  ·simp only [List.getD, List.getElem?_eq_getElem hk, Option.getD_some] at h1 ⊢
   have := z1n (h2 _ (List.getElem_mem hk)).2
   omega
  ·simp [List.getD, List.getElem?_eq_none hk])
 rw [h] at c0
 have c1 := z3F 1 [] (by omega) z3l
 have c2 := z3F 2 (z1w l) (by omega) (z2v h)
 refine z08 z0v 1 rfl Tryz.func98 rfl rfl rfl ?_
 by_cases h0 : l = []
 ·subst h0
  unfold z0q
  rw [if_pos rfl]
  repeat ((try conv => whnf); first | (refine ccA ([]) (c0) ?_) | (refine ccA ([]) (c1) ?_) | (refine Exists.intro 0 (And.intro rfl ?_)) | (refine stpQ ?_))
  (refine z01 (by rfl) ?_ ?_ (by rfl)) <;> (repeat' (first | (exact eqA) | (refine shE ?_) | (refine And.intro ?_ ?_)))
 ·have hpos : 0 < l.length := List.length_pos_iff.2 h0
  unfold z0q
  rw [if_neg h0]
  repeat ((try conv => whnf); first | (refine ccA ([]) (c0) ?_) | (refine Exists.intro l.length (And.intro hlen ?_)) | (refine stpQ ?_))
  refine z0l 0 ⟨[(4, .ref 1)], [(1, some (.row 1 (strE (z1w l))))], 2⟩ Nat (fun k => ⟨[(0, .sl 2 (lvE l)), (4, .ref 1), (5, .int .i64 (k : Int))], [(1, some (.row 1 (strE (z1w (l.take k)))))], 2⟩) (fun k => k ≤ l.length) (fun k => l.length - k) 0 (by omega) ?_ ?_ ?_
  ·(refine z00 (by rfl) ?_ ?_) <;> (repeat' (first | (exact eqA) | (refine shE ?_) | (refine And.intro ?_ ?_))) <;> first | rfl | decide
  ·intro k hk
   by_cases hlt : k < l.length
   ·have hnx := z4O hlt
    have hw := z3D (l.take k)
    have hkl : (l.take k).length = k := by rw [List.length_take]; omega
    generalize z1w (l.take k) = o at hnx hw ⊢
    have hol := z0g o
    repeat ((try conv => whnf); first | (refine Exists.intro l.length (And.intro hlen ?_)) | (refine i_at (z11 hlt) ?_) | (refine And.intro (by simp [z0g]; omega) ?_) | (refine And.intro (by kernel_rfl) ?_) | (refine stpQ ?_))
    refine ⟨k + 1, by omega, by omega, ?_⟩
    rw [hnx]
    (refine z00 (by rfl) ?_ ?_) <;> (repeat' (first | (exact eqA) | (refine shE ?_) | (refine And.intro ?_ ?_)))
    rw [z9l]; rfl
   ·have hke : k = l.length := by omega
    rw [hke, List.take_length]
    repeat ((try conv => whnf); first | (refine Exists.intro l.length (And.intro hlen ?_)) | (refine stpQ ?_))
    (refine z00 (by rfl) ?_ ?_) <;> (repeat' (first | (exact eqA) | (refine shE ?_) | (refine And.intro ?_ ?_)))
  ·repeat ((try conv => whnf); first | (refine ccA ([]) (c2) ?_) | (refine stpQ ?_))
   (refine z01 (by rfl) ?_ ?_ (by rfl)) <;> (repeat' (first | (exact eqA) | (refine shE ?_) | (refine And.intro ?_ ?_)))
theorem z6l (l : List Lf) (w : Nat) (h : leavesOk l = true) (hw : 1 ≤ w ∧ w ≤ 32) : CT Tryz.prog 60 [] [.sl 2 (lvE l), .int .i64 (w : Int)] (.str (cutB (z0q l) w)) [] := by
 have c1 := z6k l h
 have hl := z2i h
 have c2 := zbw (z0q l) w (by omega) hw
 generalize z0q l = t at c1 c2 hl ⊢
 refine z08 z0v 1 rfl Tryz.func60 rfl rfl rfl ?_
 repeat ((try conv => whnf); first | (refine ccA ([]) (c1) ?_) | (refine ccA ([]) (c2) ?_) | (refine stpQ ?_))
 (refine z01 (by rfl) ?_ ?_ (by rfl)) <;> (repeat' (first | (exact eqA) | (refine shE ?_) | (refine And.intro ?_ ?_)))
def spE (l : List Lf) : List (List T) := l.map fun x => [.str x.1, .str x.2, .int .i64 (ixB x.1 : Int)]
theorem z6m (l : List Lf) : (spE l).length = l.length := by simp [spE]
theorem zbz (a b : List Lf) : spE (a ++ b) = spE a ++ spE b := by simp [spE]
theorem zdf {l : List Lf} {k : Nat} (h : k < l.length) : (spE l)[k]? = some [.str (lfAt l k).1, .str (lfAt l k).2, .int .i64 (ixB (lfAt l k).1 : Int)] := by
 rw [z68 h]; simp [spE, List.getElem?_eq_getElem h]
theorem ze5 (l : List Lf) (h : leavesOk l = true) : CT Tryz.prog 70 [] [.sl 2 (lvE l)] (.ref 1) [.row 3 (spE l)] := by
 have hlen := z0F l
 have h24 := (z0z h).1
 refine z08 z7n 1 rfl Tryz.func70 rfl rfl rfl ?_
 repeat ((try conv => whnf); first | (refine stpQ ?_))
 refine z0l 0 ⟨[(3, .ref 1)], [(1, some (.row 3 (spE l)))], 2⟩ Nat (fun k => ⟨[(0, .sl 2 (lvE l)), (3, .ref 1), (4, .int .i64 (k : Int))], [(1, some (.row 3 (spE (l.take k))))], 2⟩) (fun k => k ≤ l.length) (fun k => l.length - k) 0 (by omega) ?_ ?_ ?_
 ·(refine z00 (by rfl) ?_ ?_) <;> (repeat' (first | (exact eqA) | (refine shE ?_) | (refine And.intro ?_ ?_))) <;> first | rfl | decide
 ·intro k hk
  by_cases hlt : k < l.length
  ·have hnx : spE (l.take (k + 1)) = spE (l.take k) ++ spE [lfAt l k] := by rw [z15 l k hlt, zbz]
   have hol := z6m (l.take k)
   have hkl : (l.take k).length = k := by rw [List.length_take]; omega
   have c1 := za1 (lfAt l k).1 (z6i h k)
   generalize spE (l.take k) = o at hnx hol ⊢
   repeat ((try conv => whnf); first | (refine Exists.intro l.length (And.intro hlen ?_)) | (refine i_at (z11 hlt) ?_) | (refine ccA ([]) (c1) ?_) | (refine And.intro (by rw [List.length_append]; simp; omega) ?_) | (refine And.intro (by kernel_rfl) ?_) | (refine stpQ ?_))
   refine ⟨k + 1, by omega, by omega, ?_⟩
   rw [hnx]
   (refine z00 (by rfl) ?_ ?_) <;> (repeat' (first | (exact eqA) | (refine shE ?_) | (refine And.intro ?_ ?_)))
   rfl
  ·have hke : k = l.length := by omega
   rw [hke, List.take_length]
   repeat ((try conv => whnf); first | (refine Exists.intro l.length (And.intro hlen ?_)) | (refine stpQ ?_))
   (refine z00 (by rfl) ?_ ?_) <;> (repeat' (first | (exact eqA) | (refine shE ?_) | (refine And.intro ?_ ?_)))
 ·repeat ((try conv => whnf); first | (refine stpQ ?_))
  (refine z01 (by rfl) ?_ ?_ (by rfl)) <;> (repeat' (first | (exact eqA) | (refine shE ?_) | (refine And.intro ?_ ?_)))
end Go.Proofs.YtceegbenenakaaaGreatDoor
namespace Go.Proofs.YtceegbenenakaaaGreatDoor
set_option maxRecDepth 100000
set_option maxHeartbeats 8000000
set_option linter.unusedVariables false
set_option linter.unusedSimpArgs false
set_option linter.unusedSectionVars false
open Go.RowKit Pl
attribute [local irreducible] z0s z0x z0C AnsP LeP
theorem zbA {d : Nat} (h : d ≤ 8) : IntKind.u64.wrap ((d : Nat) : Int) = ((d : Nat) : Int) := by rw [IntKind.wrap_u64]; omega
theorem z8b (w : Nat) (hw : 1 ≤ w ∧ w ≤ 32) : ∀ (d p : Nat) (l : List Lf), leavesOk l = true → d ≤ 8 → p < 2 ^ (8 - d) → CT Tryz.prog 73 [] [.sl 3 (spE l), .int .i64 (8 - (d : Int)), .int .i64 (p : Int), .int .i64 (w : Int), .sl 1 (strE (empJ w 8))] (.str (z0f l w d p)) []
 | d, p, l, h, hd, hp => by
   have hlen := z6m l
   have h24 := (z0z h).1
   have e1 : IntKind.i64.wrap (8 - (8 - (d : Int))) = ((d : Nat) : Int) := by rw [wrap_i64 (by omega) (by omega)]; omega
   have e1u := zbA hd
   have hokA := zde (d := d) (p := p) h
   have hlA := z6m (atP l d p)
   have hA24 := (z0z hokA).1
   have hem := z9n w 8
   have heml := z0g (empJ w 8)
   refine z08 z7n 1 rfl Tryz.func73 rfl rfl rfl ?_
   repeat ((try conv => whnf); first | (refine stpQ ?_))
   refine z0l 0 ⟨[(1, .int .i64 (8 - (d : Int))), (2, .int .i64 (p : Int)), (3, .int .i64 (w : Int)), (4, .sl 1 (strE (empJ w 8))), (11, .ref 1)], [(1, some (.row 3 (spE (atP l d p))))], 2⟩ Nat (fun k => ⟨[(0, .sl 3 (spE l)), (1, .int .i64 (8 - (d : Int))), (2, .int .i64 (p : Int)), (3, .int .i64 (w : Int)), (4, .sl 1 (strE (empJ w 8))), (11, .ref 1), (12, .int .i64 (k : Int))], [(1, some (.row 3 (spE (atP (l.take k) d p))))], 2⟩) (fun k => k ≤ l.length) (fun k => l.length - k) 0 (by omega) ?_ ?_ ?_
   ·(refine z00 (by rfl) ?_ ?_) <;> (repeat' (first | (exact eqA) | (refine shE ?_) | (refine And.intro ?_ ?_))) <;> first | rfl | decide
   ·intro k hk
    by_cases hlt : k < l.length
    ·have hnx := z9m (d := d) (p := p) hlt
     have hwk : (atP (l.take k) d p).length ≤ k := Nat.le_trans (List.length_filter_le _ _) (by rw [List.length_take]; omega)
     have e2 := zbs (ixB (lfAt l k).1) d
     generalize atP (l.take k) d p = o at hnx hwk ⊢
     have hol := z6m o
     repeat' (first | ((try conv => whnf); first | (refine Exists.intro l.length (And.intro hlen ?_)) | (refine i_at (zdf hlt) ?_) | (refine Exists.intro _ (And.intro e1.symm ?_)) | (refine Exists.intro _ (And.intro e1u.symm ?_)) | (refine And.intro (show _ ≤ (64 : Int) from by omega) ?_) | (refine Exists.intro _ (And.intro e2.symm ?_)) | (refine And.intro (by rw [List.length_append]; simp; omega) ?_) | (refine And.intro (by kernel_rfl) ?_) | (refine stpQ ?_)) | ((try conv => whnf); first | (refine cb_d (fun h => ?_) (fun h => ?_)) | (refine cb_n (fun h => ?_) (fun h => ?_)) | (refine cb (fun h => ?_) (fun h => ?_))))
     all_goals first
      | (exfalso; omega)
      | (rename_i hc
         have hc2 : ixB (lfAt l k).1 / 2 ^ d = p := by omega
         refine ⟨k + 1, by omega, by omega, ?_⟩
         rw [hnx, if_pos hc2]
         (refine z00 (by rfl) ?_ ?_) <;> (repeat' (first | (exact eqA) | (refine shE ?_) | (refine And.intro ?_ ?_)))
         rw [zbz]; rfl)
      | (rename_i hc
         have hc2 : ¬ (ixB (lfAt l k).1 / 2 ^ d = p) := by omega
         refine ⟨k + 1, by omega, by omega, ?_⟩
         rw [hnx, if_neg hc2, List.append_nil]
         (refine z00 (by rfl) ?_ ?_) <;> (repeat' (first | (exact eqA) | (refine shE ?_) | (refine And.intro ?_ ?_))))
    ·have hke : k = l.length := by omega
     rw [hke, List.take_length]
     repeat ((try conv => whnf); first | (refine Exists.intro l.length (And.intro hlen ?_)) | (refine stpQ ?_))
     (refine z00 (by rfl) ?_ ?_) <;> (repeat' (first | (exact eqA) | (refine shE ?_) | (refine And.intro ?_ ?_)))
   ·by_cases hE : atP l d p = []
    ·have hlt : 8 - d < (empJ w 8).length := by omega
     have he := zbx (w := w) (j := 8) (i := 8 - d) (by omega) (by omega)
     have hg := z16 hlt
     rw [he, show 8 - (8 - d) = d by omega] at hg
     have e3 : 8 - (d : Int) = ((8 - d : Nat) : Int) := by omega
     rw [z2Z d hE, hE, e3]
     generalize empJ w 8 = em at heml hlt hg hem ⊢
     repeat ((try conv => whnf); first | (refine Exists.intro 0 (And.intro rfl ?_)) | (refine i_at hg ?_) | (refine stpQ ?_))
     (refine z01 (by rfl) ?_ ?_ (by rfl)) <;> (repeat' (first | (exact eqA) | (refine shE ?_) | (refine And.intro ?_ ?_)))
    ·have hpos : 0 < (atP l d p).length := List.length_pos_iff.2 hE
     cases d with
     | zero =>
       have c1 := z6l (atP l 0 p) w hokA hw
       rw [show z0f l w 0 p = cutB (z0q (atP l 0 p)) w from rfl]
       generalize cutB (z0q (atP l 0 p)) w = res at c1 ⊢
       generalize atP l 0 p = o at c1 hpos hlA hA24 ⊢
       have hlo := z0F o
       repeat ((try conv => whnf); first | (refine Exists.intro o.length (And.intro hlA ?_)) | (refine stpQ ?_))
       refine z0l 2 ⟨[(3, .int .i64 (w : Int)), (13, .ref 1)], [(1, some (.row 2 (lvE o)))], 2⟩ Nat (fun k => ⟨[(3, .int .i64 (w : Int)), (11, .ref 1), (13, .ref 2), (14, .int .i64 (k : Int))], [(1, some (.row 3 (spE o))), (2, some (.row 2 (lvE (o.take k))))], 3⟩) (fun k => k ≤ o.length) (fun k => o.length - k) 0 (by omega) ?_ ?_ ?_
       ·(refine z00 (by rfl) ?_ ?_) <;> (repeat' (first | (exact eqA) | (refine shE ?_) | (refine And.intro ?_ ?_))) <;> first | rfl | decide
       ·intro k hk
        by_cases hlt : k < o.length
        ·have hnx : lvE (o.take (k + 1)) = lvE (o.take k) ++ lvE [lfAt o k] := by rw [z15 o k hlt, z2B]
         have hkl : (o.take k).length = k := by rw [List.length_take]; omega
         have hol := z0F (o.take k)
         generalize lvE (o.take k) = q at hnx hol ⊢
         repeat ((try conv => whnf); first | (refine Exists.intro o.length (And.intro hlA ?_)) | (refine i_lt (by omega) ?_) | (refine Exists.intro _ (And.intro (zdf hlt) ?_)) | (refine And.intro (by rw [List.length_append]; simp; omega) ?_) | (refine stpQ ?_))
         refine ⟨k + 1, by omega, by omega, ?_⟩
         rw [hnx]
         (refine z00 (by rfl) ?_ ?_) <;> (repeat' (first | (exact eqA) | (refine shE ?_) | (refine And.intro ?_ ?_)))
         rfl
        ·have hke : k = o.length := by omega
         rw [hke, List.take_length]
         repeat ((try conv => whnf); first | (refine Exists.intro o.length (And.intro hlA ?_)) | (refine stpQ ?_))
         (refine z00 (by rfl) ?_ ?_) <;> (repeat' (first | (exact eqA) | (refine shE ?_) | (refine And.intro ?_ ?_)))
       ·repeat ((try conv => whnf); first | (refine ccA ([]) (c1) ?_) | (refine stpQ ?_))
        (refine z01 (by rfl) ?_ ?_ (by rfl)) <;> (repeat' (first | (exact eqA) | (refine shE ?_) | (refine And.intro ?_ ?_)))
     | succ d =>
       have hpw : 2 ^ (8 - d) = 2 * 2 ^ (8 - (d + 1)) := by
        rw [show 8 - d = (8 - (d + 1)) + 1 by omega, Nat.pow_succ]; omega
       have hsm : 2 ^ (8 - d) ≤ 2 ^ 8 := Nat.pow_le_pow_right (by decide) (by omega)
       have i1 := z8b w hw d (2 * p) (atP l (d + 1) p) hokA (by omega) (by omega)
       have i2 := z8b w hw d (2 * p + 1) (atP l (d + 1) p) hokA (by omega) (by omega)
       rw [z4M l w d p (.inl rfl)] at i1
       rw [z4M l w d p (.inr rfl)] at i2
       have n1 := z1T (l := l) hw.2 d (2 * p)
       have n2 := z1T (l := l) hw.2 d (2 * p + 1)
       have c1 := z3G 3 [z0f l w d (2 * p), z0f l w d (2 * p + 1)] w (by omega) (z3m (by omega) (by omega)) hw
       rw [show z0f l w (d + 1) p = z1H 3 [z0f l w d (2 * p), z0f l w d (2 * p + 1)] w from by rw [z0f, if_neg hE]]
       have e3 : IntKind.i64.wrap (8 - ((d + 1 : Nat) : Int) + 1) = 8 - (d : Int) := by rw [wrap_i64 (by omega) (by omega)]; omega
       generalize atP l (d + 1) p = o at hpos hlA i1 i2 ⊢
       generalize z0f l w d (2 * p) = x1 at i1 c1 n1 ⊢
       generalize z0f l w d (2 * p + 1) = x2 at i2 c1 n2 ⊢
       repeat ((try conv => whnf); first | (refine Exists.intro o.length (And.intro hlA ?_)) | (refine Exists.intro _ (And.intro e3.symm ?_)) | (refine z4J (by omega) ?_) | (refine ccA ([]) (i1) ?_) | (refine ccA ([]) (i2) ?_) | (refine ccA ([]) (c1) ?_) | (refine And.intro (by kernel_rfl) ?_) | (refine stpQ ?_))
       (refine z01 (by rfl) ?_ ?_ (by rfl)) <;> (repeat' (first | (exact eqA) | (refine shE ?_) | (refine And.intro ?_ ?_)))
theorem zbB (l : List Lf) (w : Nat) (h : leavesOk l = true) (hw : 1 ≤ w ∧ w ≤ 32) : CT Tryz.prog 15 [] [.sl 2 (lvE l), .int .i64 (w : Int)] (.str (z0f l w 8 0)) [] := by
 have h24 := (z0z h).1
 have c1 : CT Tryz.prog 52 [] [.sl 2 (lvE l), .int .i64 0, .int .i64 0, .int .i64 (w : Int)] (.str (z0f l w 8 0)) [] := by
  have c0 := z2f l (by omega) (by
   intro i
   have h1 := z6i h i
   obtain ⟨_, h2, _⟩ := z0z h
   unfold lfAt at h1 ⊢
   rcases Nat.lt_or_ge i l.length with hk | hk
   ·simp only [List.getD, List.getElem?_eq_getElem hk, Option.getD_some] at h1 ⊢
    have := z1n (h2 _ (List.getElem_mem hk)).2
    omega
   ·simp [List.getD, List.getElem?_eq_none hk])
  rw [h] at c0
  have c2 : CT Tryz.prog 68 [] [.int .i64 0, .int .i64 0, .int .i64 8] (.bool true) [] := z3z 0 0 8
  have c3 : CT Tryz.prog 68 [] [.int .i64 (w : Int), .int .i64 1, .int .i64 32] (.bool true) [] := by
   have := z3z (w : Int) 1 32
   rwa [z1g.2 (by omega)] at this
  have c4 := ze5 l h
  have c5 := zby w hw
  have c6 : CT Tryz.prog 73 [] [.sl 3 (spE l), .int .i64 0, .int .i64 0, .int .i64 (w : Int), .sl 1 (strE (empJ w 8))] (.str (z0f l w 8 0)) [] := z8b w hw 8 0 l h (by omega) (by decide)
  generalize z0f l w 8 0 = res at c6 ⊢
  generalize empJ w 8 = em at c5 c6
  refine z08 z7n 1 rfl Tryz.func52 rfl rfl rfl ?_
  repeat ((try conv => whnf); first | (refine ccA ([]) (c0) ?_) | (refine ccA ([]) (c2) ?_) | (refine ccA ([]) (c3) ?_) | (refine ccA ([]) (c4) ?_) | (refine ccA ([]) (c5) ?_) | (refine ccA ([]) (c6) ?_) | (refine And.intro (by kernel_rfl) ?_) | (refine stpQ ?_))
  (refine z01 (by rfl) ?_ ?_ (by rfl)) <;> (repeat' (first | (exact eqA) | (refine shE ?_) | (refine And.intro ?_ ?_)))
 generalize z0f l w 8 0 = res at c1 ⊢
 refine z08 z0v 1 rfl Tryz.func15 rfl rfl rfl ?_
 repeat ((try conv => whnf); first | (refine ccA ([]) (c1) ?_) | (refine stpQ ?_))
 (refine z01 (by rfl) ?_ ?_ (by rfl)) <;> (repeat' (first | (exact eqA) | (refine shE ?_) | (refine And.intro ?_ ?_)))
theorem z4V (l m : List Bs) (hl : (l.length : Int) ≤ 100000000) (hm : (m.length : Int) ≤ 100000000) : CT Tryz.prog 53 [] [.sl 1 (strE l), .sl 1 (strE m)] (.bool (decide (l = m))) [] := by
 have hll := z0g l
 have hlm := z0g m
 refine z08 z0v 1 rfl Tryz.func53 rfl rfl rfl ?_
 by_cases hn : l.length = m.length
 ·repeat ((try conv => whnf); first | (refine Exists.intro l.length (And.intro hll ?_)) | (refine Exists.intro m.length (And.intro hlm ?_)) | (refine stpQ ?_))
  refine z0P Nat (fun k => ⟨[(0, .sl 1 (strE l)), (1, .sl 1 (strE m)), (5, .int .i64 (k : Int))], [], 2⟩) (fun k => k ≤ l.length ∧ l.take k = m.take k) (fun k => l.length - k) 0 ⟨by omega, rfl⟩ ?_ ?_
  ·(refine z00 (by rfl) ?_ ?_) <;> repeat' (first | (exact eqA) | (refine shE ?_) | (refine And.intro ?_ ?_))
  ·intro k hkk
   have hk := hkk.1
   have hp := hkk.2
   by_cases hlt : k < l.length
   ·have hlt2 : k < m.length := by omega
    by_cases hq : pAt l k = pAt m k
    ·have hnx : l.take (k + 1) = m.take (k + 1) := by
      rw [List.take_add_one, List.take_add_one, hp, List.getElem?_eq_getElem hlt, List.getElem?_eq_getElem hlt2]
      simp only [pAt, List.getD, List.getElem?_eq_getElem hlt, List.getElem?_eq_getElem hlt2, Option.getD_some] at hq
      rw [hq]
     repeat ((try conv => whnf); first | (refine Exists.intro l.length (And.intro hll ?_)) | (refine i_at (z16 hlt) ?_) | (refine i_at (z16 hlt2) ?_) | (refine z2T hq ?_) | (refine And.intro (by kernel_rfl) ?_) | (refine stpQ ?_))
     refine ⟨k + 1, ⟨by omega, hnx⟩, by omega, ?_⟩
     (refine z00 (by rfl) ?_ ?_) <;> repeat' (first | (exact eqA) | (refine shE ?_) | (refine And.intro ?_ ?_))
    ·have hne : ¬ l = m := fun h0 => hq (by rw [h0])
     rw [decide_eq_false hne]
     repeat ((try conv => whnf); first | (refine Exists.intro l.length (And.intro hll ?_)) | (refine i_at (z16 hlt) ?_) | (refine i_at (z16 hlt2) ?_) | (refine z4A hq ?_) | (refine And.intro (by kernel_rfl) ?_) | (refine stpQ ?_))
     (refine z01 (by rfl) ?_ ?_ (by rfl)) <;> repeat' (first | (exact eqA) | (refine shE ?_) | (refine And.intro ?_ ?_))
   ·have he : l = m := by
     rw [List.take_of_length_le (by omega), List.take_of_length_le (by omega)] at hp; exact hp
    rw [decide_eq_true he]
    repeat ((try conv => whnf); first | (refine Exists.intro l.length (And.intro hll ?_)) | (refine stpQ ?_))
    (refine z01 (by rfl) ?_ ?_ (by rfl)) <;> repeat' (first | (exact eqA) | (refine shE ?_) | (refine And.intro ?_ ?_))
 ·have hne : ¬ l = m := fun h0 => hn (by rw [h0])
  rw [decide_eq_false hne]
  repeat ((try conv => whnf); first | (refine Exists.intro l.length (And.intro hll ?_)) | (refine Exists.intro m.length (And.intro hlm ?_)) | (refine stpQ ?_))
  (refine z01 (by rfl) ?_ ?_ (by rfl)) <;> repeat' (first | (exact eqA) | (refine shE ?_) | (refine And.intro ?_ ?_))
end Go.Proofs.YtceegbenenakaaaGreatDoor
namespace Go.Proofs.YtceegbenenakaaaGreatDoor
set_option linter.unusedVariables false
set_option linter.unusedSimpArgs false
set_option linter.unusedSectionVars false
open Go.RowKit Pl
attribute [local irreducible] z0s z0x z0C AnsP LeP
structure PfSz (nm : Bs) (l : List Lf) (s : List Bs) : Prop where
 nm : nm.length ≤ 20
 len : l.length ≤ 30
 lv : ∀ x ∈ l, x.1.length ≤ 20 ∧ x.2.length ≤ 20
 sl : s.length ≤ 30
 sw : ∀ x ∈ s, x.length ≤ 40
theorem PfSz.at {nm : Bs} {l : List Lf} {s : List Bs} (h : PfSz nm l s) (k : Nat) : (lfAt l k).1.length ≤ 20 ∧ (lfAt l k).2.length ≤ 20 := by
 unfold lfAt
 rcases Nat.lt_or_ge k l.length with hk | hk
 ·simp only [List.getD, List.getElem?_eq_getElem hk, Option.getD_some]
  exact h.lv _ (List.getElem_mem hk)
 ·simp [List.getD, List.getElem?_eq_none hk]
theorem PfSz.fit {nm : Bs} {l : List Lf} {s : List Bs} (h : PfSz nm l s) : Fit l := fun i => by have := h.at i; omega
end Go.Proofs.YtceegbenenakaaaGreatDoor
