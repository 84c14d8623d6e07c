/- Functions by content: disks, framed records, the texts of a log. Functions by content: the records of a file, the texts of a log. -/
import Derived.Test.YthbdlnogojcnmaaGreatDoorXt
import Derived.Test.YthbdlnogojcnmaaGreatDoorCap
import Derived.Test.YthbdlnogojcnmaaGreatDoorOld
import Derived.Test.YthbdlnogojcnmaaGreatDoorFb
import Derived.Test.YthbdlnogojcnmaaGreatDoorVd
namespace Go.Proofs.YthbdlnogojcnmaaGreatDoor
set_option maxRecDepth 100000
set_option maxHeartbeats 4000000
set_option linter.unusedVariables false
set_option linter.unusedSimpArgs false
set_option linter.unusedSectionVars false
open Go.RowKit Pl
attribute [local irreducible] z0p z0r z0y AnsP LeP
def flE (l : List Fl) : List (List T) := l.map fun f => [.str f.1, .str f.2.1, .int .i64 f.2.2]
theorem z1W (l : List Fl) : (flE l).length = l.length := by simp [flE]
theorem z2k {l : List Fl} {k : Nat} (h : k < l.length) : (flE l)[k]? = some [.str (flAt l k).1, .str (flAt l k).2.1, .int .i64 (flAt l k).2.2] := by
 rw [ze1 h]; simp [flE, List.getElem?_eq_getElem h]
def z9Z (l : List Fl) : Prop := (l.length : Int) ≤ 100000000 ∧ ∀ k, ((flAt l k).1.length : Int) ≤ 100000000 ∧ ((flAt l k).2.1.length : Int) ≤ 100000000
theorem z2q (s : Bs) (h : (s.length : Int) ≤ 1000000000) : CT Tryz.prog 174 [] [.str s] (.bool (inB (s.length : Int) 1 8)) [] := by
 have c1 := c_in (s.length : Int) 1 8
 generalize inB (s.length : Int) 1 8 = b at c1 ⊢
 refine z01 z0l 1 rfl Tryz.func174 rfl rfl rfl ?_
 repeat ((try conv => whnf); first | (refine ccA ([]) (c1) ?_) | (refine stpQ ?_))
 (refine z00 (by rfl) ?_ ?_ (by rfl)) <;> (repeat' (first | (exact eqA) | (refine shE ?_) | (refine And.intro ?_ ?_)))
theorem z6a (s : Bs) (h : (s.length : Int) ≤ 1000000000) : CT Tryz.prog 169 [] [.str s] (.bool (inB (s.length : Int) 1 8)) [] := by
 have c1 := z21 (s.length : Int) 1 8
 generalize inB (s.length : Int) 1 8 = b at c1 ⊢
 refine z01 z0l 1 rfl Tryz.func169 rfl rfl rfl ?_
 repeat ((try conv => whnf); first | (refine ccA ([]) (c1) ?_) | (refine stpQ ?_))
 (refine z00 (by rfl) ?_ ?_ (by rfl)) <;> (repeat' (first | (exact eqA) | (refine shE ?_) | (refine And.intro ?_ ?_)))
theorem zbu (k : Nat) : (k == 0) = !decide ((k : Int) > 0) := by cases k <;> simp <;> omega
theorem z2Q (l : List Fl) (hf : z9Z l) : CT Tryz.prog 137 [] [.agg [.sl 3 (flE l)]] (.bool (z1b l)) [] := by
 have hlen := z1W l
 have hl := hf.1
 refine z01 z0l 1 rfl Tryz.func137 rfl rfl rfl ?_
 repeat ((try conv => whnf); first | (refine stpQ ?_))
 refine z0P Nat (fun k => ⟨[(1, .ptr 1 0 0), (6, .sl 3 (flE l)), (7, .int .i64 ((flE l).length : Int)), (8, .int .i64 (k : Int))], [(1, some (.box [.sl 3 (flE l)]))], 2⟩) (fun k => k ≤ l.length ∧ ∀ j, j < k → z29 l j = true) (fun k => l.length - k) 0 ⟨by omega, fun j hj => by omega⟩ ?_ ?_
 ·(refine z04 (by rfl) ?_ ?_) <;> repeat' (first | (exact eqA) | (refine shE ?_) | (refine And.intro ?_ ?_))
 ·intro k hx
  have hk : k ≤ l.length := hx.1
  have hp : ∀ j, j < k → z29 l j = true := hx.2
  clear hx
  have hz := zbu k
  have hfk := hf.2 k
  have c1 := z2q (flAt l k).1 (by omega)
  have c2 := c_in (flAt l k).2.2 0 ((flAt l k).2.1.length : Int)
  repeat ((try conv => whnf); first | (refine stpQ ?_))
  ((try conv => whnf); first | (refine cb_d (fun h => ?_) (fun h => ?_)) | (refine cb_n (fun h => ?_) (fun h => ?_)) | (refine cb (fun h => ?_) (fun h => ?_)))
  ·have hlt : k < l.length := by omega
   have next : z29 l k = true → ∀ j, j < k + 1 → z29 l j = true := fun hx j hj => by
    by_cases hjk : j = k
    ·subst hjk; exact hx
    ·exact hp j (by omega)
   repeat' (first | ((try conv => whnf); first | (refine i_at (z2k hlt) ?_) | (refine i_at (z2k (show k - 1 < l.length by omega)) ?_) | (refine ccA ([]) (c1) ?_) | (refine ccA ([]) (c2) ?_) | (refine stpQ ?_)) | ((try conv => whnf); first | (refine cb_d (fun h => ?_) (fun h => ?_)) | (refine cb_n (fun h => ?_) (fun h => ?_)) | (refine cb (fun h => ?_) (fun h => ?_))))
   all_goals first
    | (refine ⟨k + 1, ⟨by omega, next (by (simp_all [z29, ltB]); first | done | omega | fail)⟩, by omega, ?_⟩
       (refine z04 (by rfl) ?_ ?_) <;> repeat' (first | (exact eqA) | (refine shE ?_) | (refine And.intro ?_ ?_)))
    | (rw [z3q hlt (by (simp_all [z29, ltB]); first | done | omega | fail)]
       (refine z00 (by rfl) ?_ ?_ (by rfl)) <;> repeat' (first | (exact eqA) | (refine shE ?_) | (refine And.intro ?_ ?_)))
    | (rw [z3q hlt (by (simp_all [z29, ltB]); first | done | omega | fail)]
       (refine z00 (by rfl) ?_ ?_ (by rfl)) <;> repeat' (first | (exact eqA) | (refine shE ?_) | (refine And.intro ?_ ?_)))
  ·have hke : k = l.length := by omega
   repeat ((try conv => whnf); first | (refine stpQ ?_))
   by_cases h30 : l.length ≤ 30
   ·rw [z2j h30 (fun j hj => hp j (by omega))]
    (refine z00 (by rfl) ?_ ?_ (by rfl)) <;> repeat' (first | (exact eqA) | (refine shE ?_) | (refine And.intro ?_ ?_))
    simp; omega
   ·rw [z62 (by omega)]
    (refine z00 (by rfl) ?_ ?_ (by rfl)) <;> repeat' (first | (exact eqA) | (refine shE ?_) | (refine And.intro ?_ ?_))
    simp; omega
theorem z3k (l : List Fl) (hf : z9Z l) : CT Tryz.prog 150 [] [.agg [.sl 3 (flE l)]] (.bool (z1b l)) [] := by
 have hlen := z1W l
 have hl := hf.1
 refine z01 z0l 1 rfl Tryz.func150 rfl rfl rfl ?_
 repeat ((try conv => whnf); first | (refine stpQ ?_))
 ((try conv => whnf); first | (refine cb_d (fun h => ?_) (fun h => ?_)) | (refine cb_n (fun h => ?_) (fun h => ?_)) | (refine cb (fun h => ?_) (fun h => ?_)))
 ·have h30 : 30 < l.length := by omega
  repeat ((try conv => whnf); first | (refine stpQ ?_))
  rw [z62 h30]
  (refine z00 (by rfl) ?_ ?_ (by rfl)) <;> repeat' (first | (exact eqA) | (refine shE ?_) | (refine And.intro ?_ ?_))
 have h30 : l.length ≤ 30 := by omega
 repeat ((try conv => whnf); first | (refine stpQ ?_))
 refine z0P Nat (fun k => ⟨[(1, .ptr 1 0 0), (3, .int .i64 (k : Int))], [(1, some (.box [.sl 3 (flE l)]))], 2⟩) (fun k => k ≤ l.length ∧ ∀ j, j < k → z29 l j = true) (fun k => l.length - k) 0 ⟨by omega, fun j hj => by omega⟩ ?_ ?_
 ·(refine z04 (by rfl) ?_ ?_) <;> repeat' (first | (exact eqA) | (refine shE ?_) | (refine And.intro ?_ ?_))
 ·intro k hx
  have hk : k ≤ l.length := hx.1
  have hp : ∀ j, j < k → z29 l j = true := hx.2
  clear hx
  have hz := zbu k
  have hfk := hf.2 k
  have c1 := z6a (flAt l k).1 (by omega)
  have c2 := z21 (flAt l k).2.2 0 ((flAt l k).2.1.length : Int)
  repeat ((try conv => whnf); first | (refine stpQ ?_))
  ((try conv => whnf); first | (refine cb_d (fun h => ?_) (fun h => ?_)) | (refine cb_n (fun h => ?_) (fun h => ?_)) | (refine cb (fun h => ?_) (fun h => ?_)))
  ·have hlt : k < l.length := by omega
   have next : z29 l k = true → ∀ j, j < k + 1 → z29 l j = true := fun hx j hj => by
    by_cases hjk : j = k
    ·subst hjk; exact hx
    ·exact hp j (by omega)
   repeat' (first | ((try conv => whnf); first | (refine i_at (z2k hlt) ?_) | (refine i_at (z2k (show k - 1 < l.length by omega)) ?_) | (refine ccA ([]) (c1) ?_) | (refine ccA ([]) (c2) ?_) | (refine stpQ ?_)) | ((try conv => whnf); first | (refine cb_d (fun h => ?_) (fun h => ?_)) | (refine cb_n (fun h => ?_) (fun h => ?_)) | (refine cb (fun h => ?_) (fun h => ?_))))
   all_goals first
    | (refine ⟨k + 1, ⟨by omega, next (by (simp_all [z29, ltB]); first | done | omega | fail)⟩, by omega, ?_⟩
       (refine z04 (by rfl) ?_ ?_) <;> repeat' (first | (exact eqA) | (refine shE ?_) | (refine And.intro ?_ ?_)))
    | (rw [z3q hlt (by (simp_all [z29, ltB]); first | done | omega | fail)]
       (refine z00 (by rfl) ?_ ?_ (by rfl)) <;> repeat' (first | (exact eqA) | (refine shE ?_) | (refine And.intro ?_ ?_)))
    | (rw [z3q hlt (by (simp_all [z29, ltB]); first | done | omega | fail)]
       (refine z00 (by rfl) ?_ ?_ (by rfl)) <;> repeat' (first | (exact eqA) | (refine shE ?_) | (refine And.intro ?_ ?_)))
  ·have hke : k = l.length := by omega
   repeat ((try conv => whnf); first | (refine stpQ ?_))
   rw [z2j h30 (fun j hj => hp j (by omega))]
   (refine z00 (by rfl) ?_ ?_ (by rfl)) <;> repeat' (first | (exact eqA) | (refine shE ?_) | (refine And.intro ?_ ?_))
theorem z5h (l : List Fl) (n : Bs) (hl : (l.length : Int) ≤ 100000000) : CT Tryz.prog 173 [] [.agg [.sl 3 (flE l)], .str n] (.int .i64 (ixI (z1F l n))) [] := by
 have hlen := z1W l
 refine z01 z0l 1 rfl Tryz.func173 rfl rfl rfl ?_
 repeat ((try conv => whnf); first | (refine stpQ ?_))
 refine z0P Nat (fun k => ⟨[(1, .str n), (8, .sl 3 (flE l)), (9, .int .i64 ((flE l).length : Int)), (10, .int .i64 (k : Int))], [], 1⟩) (fun k => k ≤ l.length ∧ ∀ j, j < k → (flAt l j).1 ≠ n) (fun k => l.length - k) 0 ⟨by omega, fun j hj => by omega⟩ ?_ ?_
 ·(refine z04 (by rfl) ?_ ?_) <;> repeat' (first | (exact eqA) | (refine shE ?_) | (refine And.intro ?_ ?_))
 ·intro k hx
  have hk : k ≤ l.length := hx.1
  have hp : ∀ j, j < k → (flAt l j).1 ≠ n := hx.2
  clear hx
  by_cases hlt : k < l.length
  ·have hlt2 : (k : Int) < ((flE l).length : Int) := by omega
   by_cases he : (flAt l k).1 = n
   ·rw [z7K hlt hp he]
    repeat ((try conv => whnf); first | (refine i_at (z2k hlt) ?_) | (refine z0g he ?_) | (refine stpQ ?_))
    (refine z00 (by rfl) ?_ ?_ (by rfl)) <;> (repeat' (first | (exact eqA) | (refine shE ?_) | (refine And.intro ?_ ?_))) <;> rfl
   ·repeat ((try conv => whnf); first | (refine i_at (z2k hlt) ?_) | (refine z0b he ?_) | (refine stpQ ?_))
    refine ⟨k + 1, ⟨by omega, fun j hj => ?_⟩, by omega, ?_⟩
    ·by_cases hjk : j = k
     ·subst hjk; exact he
     ·exact hp j (by omega)
    ·(refine z04 (by rfl) ?_ ?_) <;> repeat' (first | (exact eqA) | (refine shE ?_) | (refine And.intro ?_ ?_))
  ·rw [ze2 (fun j hj => hp j (by omega))]
   repeat ((try conv => whnf); first | (refine stpQ ?_))
   (refine z00 (by rfl) ?_ ?_ (by rfl)) <;> (repeat' (first | (exact eqA) | (refine shE ?_) | (refine And.intro ?_ ?_))) <;> rfl
theorem za0 (l : List Fl) (n : Bs) (hl : (l.length : Int) ≤ 100000000) : CT Tryz.prog 170 [] [.agg [.sl 3 (flE l)], .str n] (.int .i64 (ixI (z1F l n))) [] := by
 have hlen := z1W l
 refine z01 z0l 1 rfl Tryz.func170 rfl rfl rfl ?_
 repeat ((try conv => whnf); first | (refine stpQ ?_))
 refine z0P Nat (fun k => ⟨[(1, .str n), (2, .ptr 1 0 0), (5, .int .i64 (k : Int))], [(1, some (.box [.sl 3 (flE l)]))], 2⟩) (fun k => k ≤ l.length ∧ ∀ j, j < k → (flAt l j).1 ≠ n) (fun k => l.length - k) 0 ⟨by omega, fun j hj => by omega⟩ ?_ ?_
 ·(refine z04 (by rfl) ?_ ?_) <;> repeat' (first | (exact eqA) | (refine shE ?_) | (refine And.intro ?_ ?_))
 ·intro k hx
  have hk : k ≤ l.length := hx.1
  have hp : ∀ j, j < k → (flAt l j).1 ≠ n := hx.2
  clear hx
  by_cases hlt : k < l.length
  ·have hlt2 : (k : Int) < ((flE l).length : Int) := by omega
   by_cases he : (flAt l k).1 = n
   ·rw [z7K hlt hp he]
    repeat ((try conv => whnf); first | (refine i_at (z2k hlt) ?_) | (refine z0g he ?_) | (refine stpQ ?_))
    (refine z00 (by rfl) ?_ ?_ (by rfl)) <;> (repeat' (first | (exact eqA) | (refine shE ?_) | (refine And.intro ?_ ?_))) <;> rfl
   ·repeat ((try conv => whnf); first | (refine i_at (z2k hlt) ?_) | (refine z0b he ?_) | (refine stpQ ?_))
    refine ⟨k + 1, ⟨by omega, fun j hj => ?_⟩, by omega, ?_⟩
    ·by_cases hjk : j = k
     ·subst hjk; exact he
     ·exact hp j (by omega)
    ·(refine z04 (by rfl) ?_ ?_) <;> repeat' (first | (exact eqA) | (refine shE ?_) | (refine And.intro ?_ ?_))
  ·rw [ze2 (fun j hj => hp j (by omega))]
   repeat ((try conv => whnf); first | (refine stpQ ?_))
   (refine z00 (by rfl) ?_ ?_ (by rfl)) <;> (repeat' (first | (exact eqA) | (refine shE ?_) | (refine And.intro ?_ ?_))) <;> rfl
def fgT : Option Bs → T
 | some t => .tup [.str t, .bool true]
 | none => .tup [.str [], .bool false]
theorem zfB (l : List Fl) (n : Bs) (hl : (l.length : Int) ≤ 100000000) : CT Tryz.prog 136 [] [.agg [.sl 3 (flE l)], .str n] (fgT (z1G l n)) [] := by
 have c1 := z5h l n hl
 unfold z1G
 have hlt := @ze3 l n
 generalize z1F l n = o at c1 hlt ⊢
 cases o with
 | none =>
   show CT _ _ _ _ (.tup [.str [], .bool false]) []
   have c1 : CT Tryz.prog 173 [] [.agg [.sl 3 (flE l)], .str n] (.int .i64 (-1)) [] := c1
   refine z01 z0l 1 rfl Tryz.func136 rfl rfl rfl ?_
   repeat ((try conv => whnf); first | (refine ccA ([]) (c1) ?_) | (refine stpQ ?_))
   (refine z00 (by rfl) ?_ ?_ (by rfl)) <;> repeat' (first | (exact eqA) | (refine shE ?_) | (refine And.intro ?_ ?_))
 | some k =>
   have h := hlt rfl
   show CT _ _ _ _ (.tup [.str (flAt l k).2.1, .bool true]) []
   have c1 : CT Tryz.prog 173 [] [.agg [.sl 3 (flE l)], .str n] (.int .i64 (k : Int)) [] := c1
   refine z01 z0l 1 rfl Tryz.func136 rfl rfl rfl ?_
   repeat ((try conv => whnf); first | (refine ccA ([]) (c1) ?_) | (refine i_at (z2k h) ?_) | (refine stpQ ?_))
   (refine z00 (by rfl) ?_ ?_ (by rfl)) <;> repeat' (first | (exact eqA) | (refine shE ?_) | (refine And.intro ?_ ?_))
theorem zee (l : List Fl) (n : Bs) (hl : (l.length : Int) ≤ 100000000) : CT Tryz.prog 151 [] [.agg [.sl 3 (flE l)], .str n] (fgT (z1G l n)) [] := by
 have c1 := za0 l n hl
 unfold z1G
 have hlt := @ze3 l n
 generalize z1F l n = o at c1 hlt ⊢
 cases o with
 | none =>
   show CT _ _ _ _ (.tup [.str [], .bool false]) []
   have c1 : CT Tryz.prog 170 [] [.agg [.sl 3 (flE l)], .str n] (.int .i64 (-1)) [] := c1
   refine z01 z0l 1 rfl Tryz.func151 rfl rfl rfl ?_
   repeat ((try conv => whnf); first | (refine ccA ([]) (c1) ?_) | (refine stpQ ?_))
   (refine z00 (by rfl) ?_ ?_ (by rfl)) <;> repeat' (first | (exact eqA) | (refine shE ?_) | (refine And.intro ?_ ?_))
 | some k =>
   have h := hlt rfl
   show CT _ _ _ _ (.tup [.str (flAt l k).2.1, .bool true]) []
   have c1 : CT Tryz.prog 170 [] [.agg [.sl 3 (flE l)], .str n] (.int .i64 (k : Int)) [] := c1
   refine z01 z0l 1 rfl Tryz.func151 rfl rfl rfl ?_
   repeat ((try conv => whnf); first | (refine ccA ([]) (c1) ?_) | (refine i_at (z2k h) ?_) | (refine stpQ ?_))
   (refine z00 (by rfl) ?_ ?_ (by rfl)) <;> repeat' (first | (exact eqA) | (refine shE ?_) | (refine And.intro ?_ ?_))
theorem zgf (s : Bs) (hs : (s.length : Int) ≤ 1000000000) : CT Tryz.prog 176 [] [.str s] (.int .u32 ((z1U s : Nat) : Int)) [] :=
 z2D ⟨_, Tryz.func176, rfl, rfl⟩ rfl (fun X => z1q X _ _) fun w => by
  have h := zed (bs s) w (by rw [z0K]; exact hs)
  rw [z0O] at h
  exact h.mono fun e w' ⟨h1, h2⟩ => ⟨h1, h2 ▸ Below.refl _ _⟩
theorem c_sSum (s : Bs) (hs : (s.length : Int) ≤ 1000000000) : CT Tryz.prog 202 [] [.str s] (.int .u32 ((z1U s : Nat) : Int)) [] :=
 z2D ⟨_, Tryz.func202, rfl, rfl⟩ rfl (fun X => z1q X _ _) fun w => by
  have h := zcn (bs s) w (by rw [z0K]; exact hs)
  rw [z0O] at h
  exact h.mono fun e w' ⟨h1, h2⟩ => ⟨h1, h2 ▸ Below.refl _ _⟩
theorem zef (x : Nat) (hx : (x : Int) ≤ 4294967295) : CT Tryz.prog 163 [] [.int .u32 (x : Int)] (.str (z1Z x)) [] :=
 z2D ⟨_, Tryz.func163, rfl, rfl⟩ rfl (fun X => z2w X _) fun w => z6x x w hx
theorem zh6 (x : Nat) (hx : (x : Int) ≤ 4294967295) : CT Tryz.prog 201 [] [.int .u32 (x : Int)] (.str (z1Z x)) [] :=
 z2D ⟨_, Tryz.func201, rfl, rfl⟩ rfl (fun X => z2w X _) fun w => z69 x w hx
theorem zbv (t : Bs) (ht : (t.length : Int) ≤ 100000000) : CT Tryz.prog 185 [] [.str t] (.tup [.str (if 1 ≤ t.length ∧ t.length ≤ 9000 then z0N t else []), .bool (decide (1 ≤ t.length ∧ t.length ≤ 9000))]) [] := by
 have c0 := z21 (t.length : Int) 1 9000
 by_cases h : 1 ≤ t.length ∧ t.length ≤ 9000
 ·rw [z1h.2 ⟨by omega, by omega⟩] at c0
  rw [if_pos h, decide_eq_true h]
  have c1 := z4h t.length (by omega)
  have c2 := c_sSum t (by omega)
  have hsl := z7z t
  have c3 := zh6 (z1U t) (by omega)
  have hv := z0z (n := t.length) (by omega)
  have hfl := z2A (z1U t)
  unfold z0N
  generalize z03 t.length = v at c1 hv ⊢
  generalize z1U t = s at c2 c3 hfl hsl ⊢
  generalize z1Z s = f at c3 hfl ⊢
  refine z01 z0l 1 rfl Tryz.func185 rfl rfl rfl ?_
  repeat ((try conv => whnf); first | (refine ccA ([]) (c0) ?_) | (refine ccA ([]) (c1) ?_) | (refine ccA ([]) (c2) ?_) | (refine ccA ([]) (c3) ?_) | (refine And.intro (by simp only [List.length_append]; omega) ?_) | (refine stpQ ?_))
  (refine z00 (by rfl) ?_ ?_ (by rfl)) <;> repeat' (first | (exact eqA) | (refine shE ?_) | (refine And.intro ?_ ?_))
 ·have hn : inB (t.length : Int) 1 9000 = false := by
   cases hb : inB (t.length : Int) 1 9000
   ·rfl
   ·rw [z1h] at hb; omega
  rw [hn] at c0
  rw [if_neg h, decide_eq_false h]
  refine z01 z0l 1 rfl Tryz.func185 rfl rfl rfl ?_
  repeat ((try conv => whnf); first | (refine ccA ([]) (c0) ?_) | (refine stpQ ?_))
  (refine z00 (by rfl) ?_ ?_ (by rfl)) <;> repeat' (first | (exact eqA) | (refine shE ?_) | (refine And.intro ?_ ?_))
end Go.Proofs.YthbdlnogojcnmaaGreatDoor
namespace Go.Proofs.YthbdlnogojcnmaaGreatDoor
set_option maxRecDepth 100000
set_option maxHeartbeats 4000000
set_option linter.unusedVariables false
set_option linter.unusedSimpArgs false
set_option linter.unusedSectionVars false
open Go.RowKit Pl
attribute [local irreducible] z0p z0r z0y AnsP LeP
theorem z6b {n lo hi : Int} (h : ¬ (lo ≤ n ∧ n ≤ hi)) : inB n lo hi = false := by
 cases hb : inB n lo hi
 ·rfl
 ·exact absurd (z1h.1 hb) h
theorem z1H {n lo hi : Int} (h : lo ≤ n ∧ n ≤ hi) : inB n lo hi = true := z1h.2 h
theorem z8T (a b : List Bs) : strE (a ++ b) = strE a ++ strE b := by simp [strE]
theorem cut2 (f : Bs) (q : Nat) : (f.take (q + 4)).drop q = (f.drop q).take 4 := by rw [List.drop_take]; congr 1; omega
theorem cut3 (f : Bs) (q n : Nat) : (f.take (q + 4 + n)).drop (q + 4) = (f.drop (q + 4)).take n := by rw [List.drop_take]; congr 1; omega
theorem cut4 (f : Bs) (p e : Nat) : (f.take e).drop p = (f.drop p).take (e - p) := by rw [List.drop_take]
theorem zeg (f : Bs) (hf : (f.length : Int) ≤ 100000000) : CT Tryz.prog 138 [] [.str f] (.tup [.sl 1 (strE (z0R f).1), .int .i64 ((z0R f).2 : Int)]) [] := by
 by_cases hlong : 20000 < f.length
 ·have e : z0R f = ([], 0) := by rw [z0R, if_pos hlong]
  rw [e]
  refine z01 z0l 1 rfl Tryz.func138 rfl rfl rfl ?_
  repeat ((try conv => whnf); first | (refine stpQ ?_))
  (refine z00 (by rfl) ?_ ?_ (by rfl)) <;> (repeat' (first | (exact eqA) | (refine shE ?_) | (refine And.intro ?_ ?_))) <;> rfl
 have hR0 : UfAt (z0R f) f (f.length + 1) [] 0 := by
  unfold UfAt
  rw [z0R, if_neg hlong]; simp
 generalize z0R f = R at hR0 ⊢
 have hn0 : ¬ (f.length : Int) > 20000 := by omega
 refine z01 z0l 1 rfl Tryz.func138 rfl rfl rfl ?_
 repeat ((try conv => whnf); first | (refine stpQ ?_))
 refine z22 (Nat × Nat × List Bs) (fun x => ⟨[(0, .str f), (4, .ref 1), (5, .int .i64 (x.2.1 : Int))], [(1, some (.row 1 (strE x.2.2)))], 2⟩) (fun x => x.2.1 ≤ f.length ∧ f.length < x.2.1 + x.1 ∧ x.2.2.length ≤ x.2.1 ∧ UfAt R f x.1 x.2.2 x.2.1) (fun x => f.length - x.2.1) (f.length + 1, 0, []) ⟨by simp, by simp, by simp, hR0⟩ ?_ ?_
 ·(refine z04 (by rfl) ?_ ?_) <;> (repeat' (first | (exact eqA) | (refine shE ?_) | (refine And.intro ?_ ?_))) <;> first | rfl | decide
 ·intro Q1 hQ1 x hx
  obtain ⟨k, p, o⟩ := x
  have hp : p ≤ f.length := hx.1
  have hk : f.length < p + k := hx.2.1
  have ho : o.length ≤ p := hx.2.2.1
  have hat : UfAt R f k o p := hx.2.2.2
  clear hx hR0
  have hol := z1k o
  obtain ⟨k, rfl⟩ : ∃ m, k = m + 1 := ⟨k - 1, by omega⟩
  have c1 := z8G f p (by omega) hp
  cases hr : z0u f p with
  | none =>
    rw [hr] at c1
    have hst := hat.stop hr
    repeat ((try conv => whnf); first | (refine ccA ([]) (c1) ?_) | (refine stpQ ?_))
    refine hQ1 _ _ ?_
    (try conv => whnf)
    rw [hst]
    (refine z00 (by rfl) ?_ ?_ (by rfl)) <;> (repeat' (first | (exact eqA) | (refine shE ?_) | (refine And.intro ?_ ?_)))
  | some y =>
    obtain ⟨n, q⟩ := y
    rw [hr] at c1
    have hb := z0U hr
    have c2 := c_in (n : Int) 1 9000
    have e1 : IntKind.i64.wrap ((n : Int) + 4) = ((n + 4 : Nat) : Int) := by rw [wrap_i64 (by omega) (by omega)]; omega
    have e2 : IntKind.i64.wrap ((f.length : Int) - (q : Int)) = ((f.length - q : Nat) : Int) := by rw [wrap_i64 (by omega) (by omega)]; omega
    by_cases hin : 1 ≤ n ∧ n ≤ 9000
    ·rw [z1H (by omega)] at c2
     by_cases hfit : n + 4 ≤ f.length - q
     ·have hfit2 : ¬ ((n + 4 : Nat) : Int) > ((f.length - q : Nat) : Int) := by omega
      have c3 := zgf ((f.drop (q + 4)).take n) (by rw [List.length_take]; omega)
      have hsl := z7z ((f.drop (q + 4)).take n)
      have c4 := zef (z1U ((f.drop (q + 4)).take n)) hsl
      have h2 := cut2 f q
      have h3 := cut3 f q n
      by_cases hs : (f.drop q).take 4 = z1Z (z1U ((f.drop (q + 4)).take n))
      ·have hnx := hat.step hr ⟨hin.1, hin.2, hfit, hs⟩
       rw [← h2] at hs
       rw [← h3] at hs c3 c4 hnx
       generalize z1U ((f.take (q + 4 + n)).drop (q + 4)) = sm at c3 c4 hs
       repeat ((try conv => whnf); first | (refine ccA ([]) (c1) ?_) | (refine Exists.intro _ (And.intro e1.symm ?_)) | (refine Exists.intro _ (And.intro e2.symm ?_)) | (refine ccA ([]) (c2) ?_) | (refine ccA ([]) (c3) ?_) | (refine ccA ([]) (c4) ?_) | (refine z0G hs ?_) | (refine And.intro (by simp only [List.length_append, List.length_cons, List.length_nil, List.length_set, List.length_replicate]; omega) ?_) | (refine stpQ ?_))
       refine ⟨(k, q + 4 + n, o ++ [(f.take (q + 4 + n)).drop (q + 4)]), ⟨by show q + 4 + n ≤ f.length; omega, by show f.length < q + 4 + n + k; omega, by show (o ++ [_]).length ≤ q + 4 + n; simp; omega, hnx⟩, by show f.length - (q + 4 + n) < f.length - p; omega, ?_⟩
       (refine z04 (by rfl) ?_ ?_) <;> (repeat' (first | (exact eqA) | (refine shE ?_) | (refine And.intro ?_ ?_)))
       all_goals first
        | exact (z8T o [_]).symm
        | rfl
      ·have hst := hat.bad hr (fun c => hs c.2.2.2)
       rw [← h2] at hs
       rw [← h3] at hs c3 c4
       generalize z1U ((f.take (q + 4 + n)).drop (q + 4)) = sm at c3 c4 hs
       repeat ((try conv => whnf); first | (refine ccA ([]) (c1) ?_) | (refine Exists.intro _ (And.intro e1.symm ?_)) | (refine Exists.intro _ (And.intro e2.symm ?_)) | (refine ccA ([]) (c2) ?_) | (refine ccA ([]) (c3) ?_) | (refine ccA ([]) (c4) ?_) | (refine z2K hs ?_) | (refine stpQ ?_))
       refine hQ1 _ _ ?_
       (try conv => whnf)
       rw [hst]
       (refine z00 (by rfl) ?_ ?_ (by rfl)) <;> (repeat' (first | (exact eqA) | (refine shE ?_) | (refine And.intro ?_ ?_)))
     ·have hfit2 : ((n + 4 : Nat) : Int) > ((f.length - q : Nat) : Int) := by omega
      have hst := hat.bad hr (fun c => hfit c.2.2.1)
      repeat ((try conv => whnf); first | (refine ccA ([]) (c1) ?_) | (refine Exists.intro _ (And.intro e1.symm ?_)) | (refine Exists.intro _ (And.intro e2.symm ?_)) | (refine ccA ([]) (c2) ?_) | (refine stpQ ?_))
      refine hQ1 _ _ ?_
      (try conv => whnf)
      rw [hst]
      (refine z00 (by rfl) ?_ ?_ (by rfl)) <;> (repeat' (first | (exact eqA) | (refine shE ?_) | (refine And.intro ?_ ?_)))
    ·rw [z6b (by omega)] at c2
     have hst := hat.bad hr (fun c => hin ⟨c.1, c.2.1⟩)
     repeat ((try conv => whnf); first | (refine ccA ([]) (c1) ?_) | (refine ccA ([]) (c2) ?_) | (refine stpQ ?_))
     refine hQ1 _ _ ?_
     (try conv => whnf)
     rw [hst]
     (refine z00 (by rfl) ?_ ?_ (by rfl)) <;> (repeat' (first | (exact eqA) | (refine shE ?_) | (refine And.intro ?_ ?_)))
theorem z70 (f : Bs) (hf : (f.length : Int) ≤ 100000000) : CT Tryz.prog 152 [] [.str f] (.tup [.sl 1 (strE (z0R f).1), .int .i64 ((z0R f).2 : Int)]) [] := by
 by_cases hlong : 20000 < f.length
 ·have e : z0R f = ([], 0) := by rw [z0R, if_pos hlong]
  rw [e]
  refine z01 z0l 1 rfl Tryz.func152 rfl rfl rfl ?_
  repeat ((try conv => whnf); first | (refine stpQ ?_))
  (refine z00 (by rfl) ?_ ?_ (by rfl)) <;> (repeat' (first | (exact eqA) | (refine shE ?_) | (refine And.intro ?_ ?_))) <;> rfl
 have hR0 : UfAt (z0R f) f (f.length + 1) [] 0 := by
  unfold UfAt
  rw [z0R, if_neg hlong]; simp
 generalize z0R f = R at hR0 ⊢
 have hn0 : ¬ (f.length : Int) > 20000 := by omega
 refine z01 z0l 1 rfl Tryz.func152 rfl rfl rfl ?_
 repeat ((try conv => whnf); first | (refine stpQ ?_))
 refine z22 (Nat × Nat × List Bs) (fun x => ⟨[(0, .str f), (4, .ref 1), (5, .int .i64 (x.2.1 : Int))], [(1, some (.row 1 (strE x.2.2)))], 2⟩) (fun x => x.2.1 ≤ f.length ∧ f.length < x.2.1 + x.1 ∧ x.2.2.length ≤ x.2.1 ∧ UfAt R f x.1 x.2.2 x.2.1) (fun x => f.length - x.2.1) (f.length + 1, 0, []) ⟨by simp, by simp, by simp, hR0⟩ ?_ ?_
 ·(refine z04 (by rfl) ?_ ?_) <;> (repeat' (first | (exact eqA) | (refine shE ?_) | (refine And.intro ?_ ?_))) <;> first | rfl | decide
 ·intro Q1 hQ1 x hx
  obtain ⟨k, p, o⟩ := x
  have hp : p ≤ f.length := hx.1
  have hk : f.length < p + k := hx.2.1
  have ho : o.length ≤ p := hx.2.2.1
  have hat : UfAt R f k o p := hx.2.2.2
  clear hx hR0
  have hol := z1k o
  obtain ⟨k, rfl⟩ : ∃ m, k = m + 1 := ⟨k - 1, by omega⟩
  by_cases hpl : p < f.length
  ·have hpl2 : (p : Int) < (f.length : Int) := by omega
   have c1 := zco f p (by omega) hp
   cases hr : z0u f p with
   | none =>
     rw [hr] at c1
     have hst := hat.stop hr
     repeat ((try conv => whnf); first | (refine ccA ([]) (c1) ?_) | (refine stpQ ?_))
     refine hQ1 _ _ ?_
     (try conv => whnf)
     rw [hst]
     (refine z00 (by rfl) ?_ ?_ (by rfl)) <;> (repeat' (first | (exact eqA) | (refine shE ?_) | (refine And.intro ?_ ?_)))
   | some y =>
     obtain ⟨n, q⟩ := y
     rw [hr] at c1
     have hb := z0U hr
     have e2 : IntKind.i64.wrap ((f.length : Int) - (q : Int)) = ((f.length - q : Nat) : Int) := by rw [wrap_i64 (by omega) (by omega)]; omega
     have e3 : IntKind.i64.wrap (((f.length - q : Nat) : Int) - 4) = ((f.length - q : Nat) : Int) - 4 := by rw [wrap_i64 (by omega) (by omega)]
     by_cases hfit : n + 4 ≤ f.length - q
     ·have hfit2 : ¬ (n : Int) > ((f.length - q : Nat) : Int) - 4 := by omega
      have h3 := cut3 f q n
      have h4 := cut4 f p (q + 4 + n)
      have hiff := ze4 hr hfit
      have hlen : ((f.drop (q + 4)).take n).length = n := by rw [List.length_take, List.length_drop]; omega
      have c2 := zbv ((f.drop (q + 4)).take n) (by omega)
      by_cases hin : 1 ≤ n ∧ n ≤ 9000
      ·rw [if_pos (by omega), decide_eq_true (by omega)] at c2
       by_cases hs : (f.drop q).take 4 = z1Z (z1U ((f.drop (q + 4)).take n))
       ·have hnx := hat.step hr ⟨hin.1, hin.2, hfit, hs⟩
        have hs2 := hiff.2 hs
        rw [← h4, ← h3] at hs2
        rw [← h3] at c2 hnx
        generalize z0N ((f.take (q + 4 + n)).drop (q + 4)) = fr at c2 hs2
        repeat ((try conv => whnf); first | (refine ccA ([]) (c1) ?_) | (refine Exists.intro p (Exists.intro (q + 4 + n) (And.intro rfl (And.intro rfl (And.intro (show p ≤ q + 4 + n by omega) (And.intro (show q + 4 + n ≤ f.length by omega) ?_)))))) | (refine Exists.intro _ (And.intro e2.symm ?_)) | (refine Exists.intro _ (And.intro e3.symm ?_)) | (refine ccA ([]) (c2) ?_) | (refine z0G hs2 ?_) | (refine And.intro (by simp only [List.length_append, List.length_cons, List.length_nil, List.length_set, List.length_replicate]; omega) ?_) | (refine stpQ ?_))
        refine ⟨(k, q + 4 + n, o ++ [(f.take (q + 4 + n)).drop (q + 4)]), ⟨by show q + 4 + n ≤ f.length; omega, by show f.length < q + 4 + n + k; omega, by show (o ++ [_]).length ≤ q + 4 + n; simp; omega, hnx⟩, by show f.length - (q + 4 + n) < f.length - p; omega, ?_⟩
        (refine z04 (by rfl) ?_ ?_) <;> (repeat' (first | (exact eqA) | (refine shE ?_) | (refine And.intro ?_ ?_)))
        all_goals first
         | exact (z8T o [_]).symm
         | rfl
       ·have hst := hat.bad hr (fun c => hs c.2.2.2)
        have hs2 : ¬ z0N ((f.drop (q + 4)).take n) = (f.drop p).take (q + 4 + n - p) := fun c => hs (hiff.1 c)
        rw [← h4, ← h3] at hs2
        rw [← h3] at c2
        generalize z0N ((f.take (q + 4 + n)).drop (q + 4)) = fr at c2 hs2
        repeat ((try conv => whnf); first | (refine ccA ([]) (c1) ?_) | (refine Exists.intro p (Exists.intro (q + 4 + n) (And.intro rfl (And.intro rfl (And.intro (show p ≤ q + 4 + n by omega) (And.intro (show q + 4 + n ≤ f.length by omega) ?_)))))) | (refine Exists.intro _ (And.intro e2.symm ?_)) | (refine Exists.intro _ (And.intro e3.symm ?_)) | (refine ccA ([]) (c2) ?_) | (refine z2K hs2 ?_) | (refine stpQ ?_))
        refine hQ1 _ _ ?_
        (try conv => whnf)
        rw [hst]
        (refine z00 (by rfl) ?_ ?_ (by rfl)) <;> (repeat' (first | (exact eqA) | (refine shE ?_) | (refine And.intro ?_ ?_)))
      ·rw [if_neg (by omega), decide_eq_false (by omega)] at c2
       have hst := hat.bad hr (fun c => hin ⟨c.1, c.2.1⟩)
       rw [← h3] at c2
       repeat ((try conv => whnf); first | (refine ccA ([]) (c1) ?_) | (refine Exists.intro p (Exists.intro (q + 4 + n) (And.intro rfl (And.intro rfl (And.intro (show p ≤ q + 4 + n by omega) (And.intro (show q + 4 + n ≤ f.length by omega) ?_)))))) | (refine Exists.intro _ (And.intro e2.symm ?_)) | (refine Exists.intro _ (And.intro e3.symm ?_)) | (refine ccA ([]) (c2) ?_) | (refine stpQ ?_))
       refine hQ1 _ _ ?_
       (try conv => whnf)
       rw [hst]
       (refine z00 (by rfl) ?_ ?_ (by rfl)) <;> (repeat' (first | (exact eqA) | (refine shE ?_) | (refine And.intro ?_ ?_)))
     ·have hfit2 : (n : Int) > ((f.length - q : Nat) : Int) - 4 := by omega
      have hst := hat.bad hr (fun c => hfit c.2.2.1)
      repeat ((try conv => whnf); first | (refine ccA ([]) (c1) ?_) | (refine Exists.intro _ (And.intro e2.symm ?_)) | (refine Exists.intro _ (And.intro e3.symm ?_)) | (refine stpQ ?_))
      refine hQ1 _ _ ?_
      (try conv => whnf)
      rw [hst]
      (refine z00 (by rfl) ?_ ?_ (by rfl)) <;> (repeat' (first | (exact eqA) | (refine shE ?_) | (refine And.intro ?_ ?_)))
  ·have hpe : p = f.length := by omega
   have hr : z0u f p = none := by
    cases h : z0u f p with
    | none => rfl
    | some y => have := z0U (n := y.1) (q := y.2) h; omega
   have hst := hat.stop hr
   have hnl : ¬ (p : Int) < (f.length : Int) := by omega
   repeat ((try conv => whnf); first | (refine z0b hnl ?_) | (refine stpQ ?_))
   refine hQ1 _ _ ?_
   repeat ((try conv => whnf); first | (refine stpQ ?_))
   rw [hst]
   (refine z00 (by rfl) ?_ ?_ (by rfl)) <;> (repeat' (first | (exact eqA) | (refine shE ?_) | (refine And.intro ?_ ?_)))
theorem zeh {l : List Fl} {n : Bs} (hd : z1b l = true) : ((z1G l n).getD []).length ≤ 20000 := by
 cases h : z1G l n with
 | none => simp
 | some t => exact z9U hd h
theorem zcp (l : List Fl) (n : Bs) (hf : z9Z l) : CT Tryz.prog 99 [] [.agg [.sl 3 (flE l)], .str n] (.sl 1 (strE (z0Y l n))) [] := by
 have c1 := zfB l n hf.1
 have c2 := z2Q l hf
 unfold z0Y
 have hd0 := @zeh l n
 cases hd : z1b l with
 | false =>
   rw [hd] at c2
   rw [if_neg (by simp)]
   generalize z1G l n = o at c1
   cases o with
   | none =>
     refine z01 z0l 1 rfl Tryz.func99 rfl rfl rfl ?_
     repeat ((try conv => whnf); first | (refine ccA ([]) (c1) ?_) | (refine ccA ([]) (c2) ?_) | (refine stpQ ?_))
     (refine z00 (by rfl) ?_ ?_ (by rfl)) <;> (repeat' (first | (exact eqA) | (refine shE ?_) | (refine And.intro ?_ ?_))) <;> rfl
   | some t =>
     refine z01 z0l 1 rfl Tryz.func99 rfl rfl rfl ?_
     repeat ((try conv => whnf); first | (refine ccA ([]) (c1) ?_) | (refine ccA ([]) (c2) ?_) | (refine stpQ ?_))
     (refine z00 (by rfl) ?_ ?_ (by rfl)) <;> (repeat' (first | (exact eqA) | (refine shE ?_) | (refine And.intro ?_ ?_))) <;> rfl
 | true =>
   rw [hd] at c2
   rw [if_pos rfl]
   have hlt := hd0 hd
   generalize z1G l n = o at c1 hlt ⊢
   cases o with
   | none =>
     have e : (z0R ((none : Option Bs).getD [])).1 = [] := by decide
     rw [e]
     refine z01 z0l 1 rfl Tryz.func99 rfl rfl rfl ?_
     repeat ((try conv => whnf); first | (refine ccA ([]) (c1) ?_) | (refine ccA ([]) (c2) ?_) | (refine stpQ ?_))
     (refine z00 (by rfl) ?_ ?_ (by rfl)) <;> (repeat' (first | (exact eqA) | (refine shE ?_) | (refine And.intro ?_ ?_))) <;> rfl
   | some t =>
     have hlt2 : t.length ≤ 20000 := hlt
     have c3 := zeg t (by omega)
     show CT _ _ _ _ (.sl 1 (strE (z0R t).1)) []
     generalize z0R t = R at c3 ⊢
     obtain ⟨Ra, Rb⟩ := R
     refine z01 z0l 1 rfl Tryz.func99 rfl rfl rfl ?_
     repeat ((try conv => whnf); first | (refine ccA ([]) (c1) ?_) | (refine ccA ([]) (c2) ?_) | (refine ccA ([]) (c3) ?_) | (refine stpQ ?_))
     (refine z00 (by rfl) ?_ ?_ (by rfl)) <;> (repeat' (first | (exact eqA) | (refine shE ?_) | (refine And.intro ?_ ?_)))
theorem za1 (l : List Fl) (n : Bs) (hf : z9Z l) : CT Tryz.prog 115 [] [.agg [.sl 3 (flE l)], .str n] (.sl 1 (strE (z0Y l n))) [] := by
 have c1 := zee l n hf.1
 have c2 := z3k l hf
 have hff := (z2u l n).2
 unfold z0Y at hff ⊢
 have hd0 := @zeh l n
 cases hd : z1b l with
 | false =>
   rw [hd] at c2
   rw [if_neg (by simp)]
   refine z01 z0l 1 rfl Tryz.func115 rfl rfl rfl ?_
   repeat ((try conv => whnf); first | (refine ccA ([]) (c2) ?_) | (refine stpQ ?_))
   (refine z00 (by rfl) ?_ ?_ (by rfl)) <;> (repeat' (first | (exact eqA) | (refine shE ?_) | (refine And.intro ?_ ?_))) <;> rfl
 | true =>
   rw [hd] at c2
   rw [hd, if_pos rfl] at hff
   rw [if_pos rfl]
   have hlt := hd0 hd
   generalize z1G l n = o at c1 hlt hff ⊢
   cases o with
   | none =>
     have c3 := z70 [] (by simp)
     have hff2 : (z0R []).1.length ≤ 20001 := hff
     show CT _ _ _ _ (.sl 1 (strE (z0R []).1)) []
     generalize z0R [] = R at c3 hff2 ⊢
     obtain ⟨Ra, Rb⟩ := R
     have hra := z1k Ra
     have hff3 : Ra.length ≤ 20001 := hff2
     change CT _ _ _ _ (.tup [.sl 1 (strE Ra), .int .i64 (Rb : Int)]) _ at c3
     refine z01 z0l 1 rfl Tryz.func115 rfl rfl rfl ?_
     repeat ((try conv => whnf); first | (refine ccA ([]) (c1) ?_) | (refine ccA ([]) (c2) ?_) | (refine ccA ([]) (c3) ?_) | (refine And.intro (by simp only [List.length_append, List.length_cons, List.length_nil, List.nil_append, List.length_replicate]; omega) ?_) | (refine stpQ ?_))
     (refine z00 (by rfl) ?_ ?_ (by rfl)) <;> (repeat' (first | (exact eqA) | (refine shE ?_) | (refine And.intro ?_ ?_)))
   | some t =>
     have hlt2 : t.length ≤ 20000 := hlt
     have c3 := z70 t (by omega)
     have hff2 : (z0R t).1.length ≤ 20001 := hff
     show CT _ _ _ _ (.sl 1 (strE (z0R t).1)) []
     generalize z0R t = R at c3 hff2 ⊢
     obtain ⟨Ra, Rb⟩ := R
     have hra := z1k Ra
     have hff3 : Ra.length ≤ 20001 := hff2
     change CT _ _ _ _ (.tup [.sl 1 (strE Ra), .int .i64 (Rb : Int)]) _ at c3
     refine z01 z0l 1 rfl Tryz.func115 rfl rfl rfl ?_
     repeat ((try conv => whnf); first | (refine ccA ([]) (c1) ?_) | (refine ccA ([]) (c2) ?_) | (refine ccA ([]) (c3) ?_) | (refine And.intro (by simp only [List.length_append, List.length_cons, List.length_nil, List.nil_append, List.length_replicate]; omega) ?_) | (refine stpQ ?_))
     (refine z00 (by rfl) ?_ ?_ (by rfl)) <;> (repeat' (first | (exact eqA) | (refine shE ?_) | (refine And.intro ?_ ?_)))
end Go.Proofs.YthbdlnogojcnmaaGreatDoor
