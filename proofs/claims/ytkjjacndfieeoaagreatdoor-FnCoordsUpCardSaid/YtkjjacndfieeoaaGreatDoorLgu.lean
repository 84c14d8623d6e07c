/- Functions by content: disks, framed records, the texts of a log. Functions by content: the records of a file, the texts of a log. -/
import Derived.Test.YtkjjacndfieeoaaGreatDoorXt
import Derived.Test.YtkjjacndfieeoaaGreatDoorCap
import Derived.Test.YtkjjacndfieeoaaGreatDoorOld
import Derived.Test.YtkjjacndfieeoaaGreatDoorFb
import Derived.Test.YtkjjacndfieeoaaGreatDoorVd
namespace Go.Proofs.YtkjjacndfieeoaaGreatDoor
set_option maxRecDepth 100000
set_option maxHeartbeats 4000000
set_option linter.unusedVariables false
set_option linter.unusedSimpArgs false
set_option linter.unusedSectionVars false
open Go.RowKit Pl
attribute [local irreducible] z0m z0n z0q AnsP LeP
def flE (l : List Fl) : List (List T) := l.map fun f => [.str f.1, .str f.2.1, .int .i64 f.2.2]
theorem z2j (l : List Fl) : (flE l).length = l.length := by simp [flE]
theorem z2k {l : List Fl} {k : Nat} (h : k < l.length) : (flE l)[k]? = some [.str (flAt l k).1, .str (flAt l k).2.1, .int .i64 (flAt l k).2.2] := by
 rw [zf5 h]; simp [flE, List.getElem?_eq_getElem h]
def z9C (l : List Fl) : Prop := (l.length : Int) ≤ 100000000 ∧ ∀ k, ((flAt l k).1.length : Int) ≤ 100000000 ∧ ((flAt l k).2.1.length : Int) ≤ 100000000
theorem z2t (s : Bs) (h : (s.length : Int) ≤ 1000000000) : CT Tryz.prog 142 [] [.str s] (.bool (inB (s.length : Int) 1 8)) [] := by
 have c1 := c_in (s.length : Int) 1 8
 generalize inB (s.length : Int) 1 8 = b at c1 ⊢
 refine z01 z0f 1 rfl Tryz.func142 rfl rfl rfl ?_
 repeat ((try conv => whnf); first | (refine ccA ([]) (c1) ?_) | (refine stpQ ?_))
 (refine z00 (by rfl) ?_ ?_ (by rfl)) <;> (repeat' (first | (exact eqA) | (refine shE ?_) | (refine And.intro ?_ ?_)))
theorem z6n (s : Bs) (h : (s.length : Int) ≤ 1000000000) : CT Tryz.prog 182 [] [.str s] (.bool (inB (s.length : Int) 1 8)) [] := by
 have c1 := z0U (s.length : Int) 1 8
 generalize inB (s.length : Int) 1 8 = b at c1 ⊢
 refine z01 z0f 1 rfl Tryz.func182 rfl rfl rfl ?_
 repeat ((try conv => whnf); first | (refine ccA ([]) (c1) ?_) | (refine stpQ ?_))
 (refine z00 (by rfl) ?_ ?_ (by rfl)) <;> (repeat' (first | (exact eqA) | (refine shE ?_) | (refine And.intro ?_ ?_)))
theorem zch (k : Nat) : (k == 0) = !decide ((k : Int) > 0) := by cases k <;> simp <;> omega
theorem z2a (l : List Fl) (hf : z9C l) : CT Tryz.prog 103 [] [.agg [.sl 3 (flE l)]] (.bool (z0X l)) [] := by
 have hlen := z2j l
 have hl := hf.1
 refine z01 z0f 1 rfl Tryz.func103 rfl rfl rfl ?_
 repeat ((try conv => whnf); first | (refine stpQ ?_))
 refine z1L Nat (fun k => ⟨[(1, .ptr 1 0 0), (6, .sl 3 (flE l)), (7, .int .i64 ((flE l).length : Int)), (8, .int .i64 (k : Int))], [(1, some (.box [.sl 3 (flE l)]))], 2⟩) (fun k => k ≤ l.length ∧ ∀ j, j < k → z28 l j = true) (fun k => l.length - k) 0 ⟨by omega, fun j hj => by omega⟩ ?_ ?_
 ·(refine z02 (by rfl) ?_ ?_) <;> repeat' (first | (exact eqA) | (refine shE ?_) | (refine And.intro ?_ ?_))
 ·intro k hx
  have hk : k ≤ l.length := hx.1
  have hp : ∀ j, j < k → z28 l j = true := hx.2
  clear hx
  have hz := zch k
  have hfk := hf.2 k
  have c1 := z2t (flAt l k).1 (by omega)
  have c2 := c_in (flAt l k).2.2 0 ((flAt l k).2.1.length : Int)
  repeat ((try conv => whnf); first | (refine stpQ ?_))
  ((try conv => whnf); first | (refine cb_d (fun h => ?_) (fun h => ?_)) | (refine cb_n (fun h => ?_) (fun h => ?_)) | (refine cb (fun h => ?_) (fun h => ?_)))
  ·have hlt : k < l.length := by omega
   have next : z28 l k = true → ∀ j, j < k + 1 → z28 l j = true := fun hx j hj => by
    by_cases hjk : j = k
    ·subst hjk; exact hx
    ·exact hp j (by omega)
   repeat' (first | ((try conv => whnf); first | (refine i_at (z2k hlt) ?_) | (refine i_at (z2k (show k - 1 < l.length by omega)) ?_) | (refine ccA ([]) (c1) ?_) | (refine ccA ([]) (c2) ?_) | (refine stpQ ?_)) | ((try conv => whnf); first | (refine cb_d (fun h => ?_) (fun h => ?_)) | (refine cb_n (fun h => ?_) (fun h => ?_)) | (refine cb (fun h => ?_) (fun h => ?_))))
   all_goals first
    | (refine ⟨k + 1, ⟨by omega, next (by (simp_all [z28, ltB]); first | done | omega | fail)⟩, by omega, ?_⟩
       (refine z02 (by rfl) ?_ ?_) <;> repeat' (first | (exact eqA) | (refine shE ?_) | (refine And.intro ?_ ?_)))
    | (rw [z3s hlt (by (simp_all [z28, ltB]); first | done | omega | fail)]
       (refine z00 (by rfl) ?_ ?_ (by rfl)) <;> repeat' (first | (exact eqA) | (refine shE ?_) | (refine And.intro ?_ ?_)))
    | (rw [z3s hlt (by (simp_all [z28, ltB]); first | done | omega | fail)]
       (refine z00 (by rfl) ?_ ?_ (by rfl)) <;> repeat' (first | (exact eqA) | (refine shE ?_) | (refine And.intro ?_ ?_)))
  ·have hke : k = l.length := by omega
   repeat ((try conv => whnf); first | (refine stpQ ?_))
   by_cases h30 : l.length ≤ 30
   ·rw [z2i h30 (fun j hj => hp j (by omega))]
    (refine z00 (by rfl) ?_ ?_ (by rfl)) <;> repeat' (first | (exact eqA) | (refine shE ?_) | (refine And.intro ?_ ?_))
    simp; omega
   ·rw [z6j (by omega)]
    (refine z00 (by rfl) ?_ ?_ (by rfl)) <;> repeat' (first | (exact eqA) | (refine shE ?_) | (refine And.intro ?_ ?_))
    simp; omega
theorem z3g (l : List Fl) (hf : z9C l) : CT Tryz.prog 155 [] [.agg [.sl 3 (flE l)]] (.bool (z0X l)) [] := by
 have hlen := z2j l
 have hl := hf.1
 refine z01 z0f 1 rfl Tryz.func155 rfl rfl rfl ?_
 repeat ((try conv => whnf); first | (refine stpQ ?_))
 ((try conv => whnf); first | (refine cb_d (fun h => ?_) (fun h => ?_)) | (refine cb_n (fun h => ?_) (fun h => ?_)) | (refine cb (fun h => ?_) (fun h => ?_)))
 ·have h30 : 30 < l.length := by omega
  repeat ((try conv => whnf); first | (refine stpQ ?_))
  rw [z6j h30]
  (refine z00 (by rfl) ?_ ?_ (by rfl)) <;> repeat' (first | (exact eqA) | (refine shE ?_) | (refine And.intro ?_ ?_))
 have h30 : l.length ≤ 30 := by omega
 repeat ((try conv => whnf); first | (refine stpQ ?_))
 refine z1L Nat (fun k => ⟨[(1, .ptr 1 0 0), (3, .int .i64 (k : Int))], [(1, some (.box [.sl 3 (flE l)]))], 2⟩) (fun k => k ≤ l.length ∧ ∀ j, j < k → z28 l j = true) (fun k => l.length - k) 0 ⟨by omega, fun j hj => by omega⟩ ?_ ?_
 ·(refine z02 (by rfl) ?_ ?_) <;> repeat' (first | (exact eqA) | (refine shE ?_) | (refine And.intro ?_ ?_))
 ·intro k hx
  have hk : k ≤ l.length := hx.1
  have hp : ∀ j, j < k → z28 l j = true := hx.2
  clear hx
  have hz := zch k
  have hfk := hf.2 k
  have c1 := z6n (flAt l k).1 (by omega)
  have c2 := z0U (flAt l k).2.2 0 ((flAt l k).2.1.length : Int)
  repeat ((try conv => whnf); first | (refine stpQ ?_))
  ((try conv => whnf); first | (refine cb_d (fun h => ?_) (fun h => ?_)) | (refine cb_n (fun h => ?_) (fun h => ?_)) | (refine cb (fun h => ?_) (fun h => ?_)))
  ·have hlt : k < l.length := by omega
   have next : z28 l k = true → ∀ j, j < k + 1 → z28 l j = true := fun hx j hj => by
    by_cases hjk : j = k
    ·subst hjk; exact hx
    ·exact hp j (by omega)
   repeat' (first | ((try conv => whnf); first | (refine i_at (z2k hlt) ?_) | (refine i_at (z2k (show k - 1 < l.length by omega)) ?_) | (refine ccA ([]) (c1) ?_) | (refine ccA ([]) (c2) ?_) | (refine stpQ ?_)) | ((try conv => whnf); first | (refine cb_d (fun h => ?_) (fun h => ?_)) | (refine cb_n (fun h => ?_) (fun h => ?_)) | (refine cb (fun h => ?_) (fun h => ?_))))
   all_goals first
    | (refine ⟨k + 1, ⟨by omega, next (by (simp_all [z28, ltB]); first | done | omega | fail)⟩, by omega, ?_⟩
       (refine z02 (by rfl) ?_ ?_) <;> repeat' (first | (exact eqA) | (refine shE ?_) | (refine And.intro ?_ ?_)))
    | (rw [z3s hlt (by (simp_all [z28, ltB]); first | done | omega | fail)]
       (refine z00 (by rfl) ?_ ?_ (by rfl)) <;> repeat' (first | (exact eqA) | (refine shE ?_) | (refine And.intro ?_ ?_)))
    | (rw [z3s hlt (by (simp_all [z28, ltB]); first | done | omega | fail)]
       (refine z00 (by rfl) ?_ ?_ (by rfl)) <;> repeat' (first | (exact eqA) | (refine shE ?_) | (refine And.intro ?_ ?_)))
  ·have hke : k = l.length := by omega
   repeat ((try conv => whnf); first | (refine stpQ ?_))
   rw [z2i h30 (fun j hj => hp j (by omega))]
   (refine z00 (by rfl) ?_ ?_ (by rfl)) <;> repeat' (first | (exact eqA) | (refine shE ?_) | (refine And.intro ?_ ?_))
theorem z5p (l : List Fl) (n : Bs) (hl : (l.length : Int) ≤ 100000000) : CT Tryz.prog 168 [] [.agg [.sl 3 (flE l)], .str n] (.int .i64 (ixI (z1z l n))) [] := by
 have hlen := z2j l
 refine z01 z0f 1 rfl Tryz.func168 rfl rfl rfl ?_
 repeat ((try conv => whnf); first | (refine stpQ ?_))
 refine z1L Nat (fun k => ⟨[(1, .str n), (8, .sl 3 (flE l)), (9, .int .i64 ((flE l).length : Int)), (10, .int .i64 (k : Int))], [], 1⟩) (fun k => k ≤ l.length ∧ ∀ j, j < k → (flAt l j).1 ≠ n) (fun k => l.length - k) 0 ⟨by omega, fun j hj => by omega⟩ ?_ ?_
 ·(refine z02 (by rfl) ?_ ?_) <;> repeat' (first | (exact eqA) | (refine shE ?_) | (refine And.intro ?_ ?_))
 ·intro k hx
  have hk : k ≤ l.length := hx.1
  have hp : ∀ j, j < k → (flAt l j).1 ≠ n := hx.2
  clear hx
  by_cases hlt : k < l.length
  ·have hlt2 : (k : Int) < ((flE l).length : Int) := by omega
   by_cases he : (flAt l k).1 = n
   ·rw [z8z hlt hp he]
    repeat ((try conv => whnf); first | (refine i_at (z2k hlt) ?_) | (refine z0k he ?_) | (refine stpQ ?_))
    (refine z00 (by rfl) ?_ ?_ (by rfl)) <;> (repeat' (first | (exact eqA) | (refine shE ?_) | (refine And.intro ?_ ?_))) <;> rfl
   ·repeat ((try conv => whnf); first | (refine i_at (z2k hlt) ?_) | (refine z0o he ?_) | (refine stpQ ?_))
    refine ⟨k + 1, ⟨by omega, fun j hj => ?_⟩, by omega, ?_⟩
    ·by_cases hjk : j = k
     ·subst hjk; exact he
     ·exact hp j (by omega)
    ·(refine z02 (by rfl) ?_ ?_) <;> repeat' (first | (exact eqA) | (refine shE ?_) | (refine And.intro ?_ ?_))
  ·rw [zf6 (fun j hj => hp j (by omega))]
   repeat ((try conv => whnf); first | (refine stpQ ?_))
   (refine z00 (by rfl) ?_ ?_ (by rfl)) <;> (repeat' (first | (exact eqA) | (refine shE ?_) | (refine And.intro ?_ ?_))) <;> rfl
theorem zaQ (l : List Fl) (n : Bs) (hl : (l.length : Int) ≤ 100000000) : CT Tryz.prog 183 [] [.agg [.sl 3 (flE l)], .str n] (.int .i64 (ixI (z1z l n))) [] := by
 have hlen := z2j l
 refine z01 z0f 1 rfl Tryz.func183 rfl rfl rfl ?_
 repeat ((try conv => whnf); first | (refine stpQ ?_))
 refine z1L Nat (fun k => ⟨[(1, .str n), (2, .ptr 1 0 0), (5, .int .i64 (k : Int))], [(1, some (.box [.sl 3 (flE l)]))], 2⟩) (fun k => k ≤ l.length ∧ ∀ j, j < k → (flAt l j).1 ≠ n) (fun k => l.length - k) 0 ⟨by omega, fun j hj => by omega⟩ ?_ ?_
 ·(refine z02 (by rfl) ?_ ?_) <;> repeat' (first | (exact eqA) | (refine shE ?_) | (refine And.intro ?_ ?_))
 ·intro k hx
  have hk : k ≤ l.length := hx.1
  have hp : ∀ j, j < k → (flAt l j).1 ≠ n := hx.2
  clear hx
  by_cases hlt : k < l.length
  ·have hlt2 : (k : Int) < ((flE l).length : Int) := by omega
   by_cases he : (flAt l k).1 = n
   ·rw [z8z hlt hp he]
    repeat ((try conv => whnf); first | (refine i_at (z2k hlt) ?_) | (refine z0k he ?_) | (refine stpQ ?_))
    (refine z00 (by rfl) ?_ ?_ (by rfl)) <;> (repeat' (first | (exact eqA) | (refine shE ?_) | (refine And.intro ?_ ?_))) <;> rfl
   ·repeat ((try conv => whnf); first | (refine i_at (z2k hlt) ?_) | (refine z0o he ?_) | (refine stpQ ?_))
    refine ⟨k + 1, ⟨by omega, fun j hj => ?_⟩, by omega, ?_⟩
    ·by_cases hjk : j = k
     ·subst hjk; exact he
     ·exact hp j (by omega)
    ·(refine z02 (by rfl) ?_ ?_) <;> repeat' (first | (exact eqA) | (refine shE ?_) | (refine And.intro ?_ ?_))
  ·rw [zf6 (fun j hj => hp j (by omega))]
   repeat ((try conv => whnf); first | (refine stpQ ?_))
   (refine z00 (by rfl) ?_ ?_ (by rfl)) <;> (repeat' (first | (exact eqA) | (refine shE ?_) | (refine And.intro ?_ ?_))) <;> rfl
def fgT : Option Bs → T
 | some t => .tup [.str t, .bool true]
 | none => .tup [.str [], .bool false]
theorem zgU (l : List Fl) (n : Bs) (hl : (l.length : Int) ≤ 100000000) : CT Tryz.prog 133 [] [.agg [.sl 3 (flE l)], .str n] (fgT (z1A l n)) [] := by
 have c1 := z5p l n hl
 unfold z1A
 have hlt := @zf7 l n
 generalize z1z l n = o at c1 hlt ⊢
 cases o with
 | none =>
   show CT _ _ _ _ (.tup [.str [], .bool false]) []
   have c1 : CT Tryz.prog 168 [] [.agg [.sl 3 (flE l)], .str n] (.int .i64 (-1)) [] := c1
   refine z01 z0f 1 rfl Tryz.func133 rfl rfl rfl ?_
   repeat ((try conv => whnf); first | (refine ccA ([]) (c1) ?_) | (refine stpQ ?_))
   (refine z00 (by rfl) ?_ ?_ (by rfl)) <;> repeat' (first | (exact eqA) | (refine shE ?_) | (refine And.intro ?_ ?_))
 | some k =>
   have h := hlt rfl
   show CT _ _ _ _ (.tup [.str (flAt l k).2.1, .bool true]) []
   have c1 : CT Tryz.prog 168 [] [.agg [.sl 3 (flE l)], .str n] (.int .i64 (k : Int)) [] := c1
   refine z01 z0f 1 rfl Tryz.func133 rfl rfl rfl ?_
   repeat ((try conv => whnf); first | (refine ccA ([]) (c1) ?_) | (refine i_at (z2k h) ?_) | (refine stpQ ?_))
   (refine z00 (by rfl) ?_ ?_ (by rfl)) <;> repeat' (first | (exact eqA) | (refine shE ?_) | (refine And.intro ?_ ?_))
theorem zfb (l : List Fl) (n : Bs) (hl : (l.length : Int) ≤ 100000000) : CT Tryz.prog 156 [] [.agg [.sl 3 (flE l)], .str n] (fgT (z1A l n)) [] := by
 have c1 := zaQ l n hl
 unfold z1A
 have hlt := @zf7 l n
 generalize z1z l n = o at c1 hlt ⊢
 cases o with
 | none =>
   show CT _ _ _ _ (.tup [.str [], .bool false]) []
   have c1 : CT Tryz.prog 183 [] [.agg [.sl 3 (flE l)], .str n] (.int .i64 (-1)) [] := c1
   refine z01 z0f 1 rfl Tryz.func156 rfl rfl rfl ?_
   repeat ((try conv => whnf); first | (refine ccA ([]) (c1) ?_) | (refine stpQ ?_))
   (refine z00 (by rfl) ?_ ?_ (by rfl)) <;> repeat' (first | (exact eqA) | (refine shE ?_) | (refine And.intro ?_ ?_))
 | some k =>
   have h := hlt rfl
   show CT _ _ _ _ (.tup [.str (flAt l k).2.1, .bool true]) []
   have c1 : CT Tryz.prog 183 [] [.agg [.sl 3 (flE l)], .str n] (.int .i64 (k : Int)) [] := c1
   refine z01 z0f 1 rfl Tryz.func156 rfl rfl rfl ?_
   repeat ((try conv => whnf); first | (refine ccA ([]) (c1) ?_) | (refine i_at (z2k h) ?_) | (refine stpQ ?_))
   (refine z00 (by rfl) ?_ ?_ (by rfl)) <;> repeat' (first | (exact eqA) | (refine shE ?_) | (refine And.intro ?_ ?_))
theorem zhO (s : Bs) (hs : (s.length : Int) ≤ 1000000000) : CT Tryz.prog 171 [] [.str s] (.int .u32 ((z1T s : Nat) : Int)) [] :=
 z3D ⟨_, Tryz.func171, rfl, rfl⟩ rfl (fun X => z1g X _ _) fun w => by
  have h := zfa (bs s) w (by rw [z0Y]; exact hs)
  rw [z1e] at h
  exact h.mono fun e w' ⟨h1, h2⟩ => ⟨h1, h2 ▸ Below.refl _ _⟩
theorem c_sSum (s : Bs) (hs : (s.length : Int) ≤ 1000000000) : CT Tryz.prog 189 [] [.str s] (.int .u32 ((z1T s : Nat) : Int)) [] :=
 z3D ⟨_, Tryz.func189, rfl, rfl⟩ rfl (fun X => z1g X _ _) fun w => by
  have h := zdh (bs s) w (by rw [z0Y]; exact hs)
  rw [z1e] at h
  exact h.mono fun e w' ⟨h1, h2⟩ => ⟨h1, h2 ▸ Below.refl _ _⟩
theorem zfc (x : Nat) (hx : (x : Int) ≤ 4294967295) : CT Tryz.prog 170 [] [.int .u32 (x : Int)] (.str (z1Z x)) [] :=
 z3D ⟨_, Tryz.func170, rfl, rfl⟩ rfl (fun X => z2X X _) fun w => z6Y x w hx
theorem ziC (x : Nat) (hx : (x : Int) ≤ 4294967295) : CT Tryz.prog 188 [] [.int .u32 (x : Int)] (.str (z1Z x)) [] :=
 z3D ⟨_, Tryz.func188, rfl, rfl⟩ rfl (fun X => z2X X _) fun w => z6l x w hx
theorem zci (t : Bs) (ht : (t.length : Int) ≤ 100000000) : CT Tryz.prog 162 [] [.str t] (.tup [.str (if 1 ≤ t.length ∧ t.length ≤ 9000 then z0J t else []), .bool (decide (1 ≤ t.length ∧ t.length ≤ 9000))]) [] := by
 have c0 := z0U (t.length : Int) 1 9000
 by_cases h : 1 ≤ t.length ∧ t.length ≤ 9000
 ·rw [z0u.2 ⟨by omega, by omega⟩] at c0
  rw [if_pos h, decide_eq_true h]
  have c1 := z7w t.length (by omega)
  have c2 := c_sSum t (by omega)
  have hsl := z8p t
  have c3 := ziC (z1T t) (by omega)
  have hv := z0I (n := t.length) (by omega)
  have hfl := z2E (z1T t)
  unfold z0J
  generalize z0e t.length = v at c1 hv ⊢
  generalize z1T t = s at c2 c3 hfl hsl ⊢
  generalize z1Z s = f at c3 hfl ⊢
  refine z01 z0f 1 rfl Tryz.func162 rfl rfl rfl ?_
  repeat ((try conv => whnf); first | (refine ccA ([]) (c0) ?_) | (refine ccA ([]) (c1) ?_) | (refine ccA ([]) (c2) ?_) | (refine ccA ([]) (c3) ?_) | (refine And.intro (by simp only [List.length_append]; omega) ?_) | (refine stpQ ?_))
  (refine z00 (by rfl) ?_ ?_ (by rfl)) <;> repeat' (first | (exact eqA) | (refine shE ?_) | (refine And.intro ?_ ?_))
 ·have hn : inB (t.length : Int) 1 9000 = false := by
   cases hb : inB (t.length : Int) 1 9000
   ·rfl
   ·rw [z0u] at hb; omega
  rw [hn] at c0
  rw [if_neg h, decide_eq_false h]
  refine z01 z0f 1 rfl Tryz.func162 rfl rfl rfl ?_
  repeat ((try conv => whnf); first | (refine ccA ([]) (c0) ?_) | (refine stpQ ?_))
  (refine z00 (by rfl) ?_ ?_ (by rfl)) <;> repeat' (first | (exact eqA) | (refine shE ?_) | (refine And.intro ?_ ?_))
end Go.Proofs.YtkjjacndfieeoaaGreatDoor
namespace Go.Proofs.YtkjjacndfieeoaaGreatDoor
set_option maxRecDepth 100000
set_option maxHeartbeats 4000000
set_option linter.unusedVariables false
set_option linter.unusedSimpArgs false
set_option linter.unusedSectionVars false
open Go.RowKit Pl
attribute [local irreducible] z0m z0n z0q AnsP LeP
theorem z8B {n lo hi : Int} (h : ¬ (lo ≤ n ∧ n ≤ hi)) : inB n lo hi = false := by
 cases hb : inB n lo hi
 ·rfl
 ·exact absurd (z0u.1 hb) h
theorem z8C {n lo hi : Int} (h : lo ≤ n ∧ n ≤ hi) : inB n lo hi = true := z0u.2 h
theorem z9D (a b : List Bs) : strE (a ++ b) = strE a ++ strE b := by simp [strE]
theorem cut2 (f : Bs) (q : Nat) : (f.take (q + 4)).drop q = (f.drop q).take 4 := by rw [List.drop_take]; congr 1; omega
theorem cut3 (f : Bs) (q n : Nat) : (f.take (q + 4 + n)).drop (q + 4) = (f.drop (q + 4)).take n := by rw [List.drop_take]; congr 1; omega
theorem cut4 (f : Bs) (p e : Nat) : (f.take e).drop p = (f.drop p).take (e - p) := by rw [List.drop_take]
theorem zfd (f : Bs) (hf : (f.length : Int) ≤ 100000000) : CT Tryz.prog 134 [] [.str f] (.tup [.sl 1 (strE (z0K f).1), .int .i64 ((z0K f).2 : Int)]) [] := by
 by_cases hlong : 20000 < f.length
 ·have e : z0K f = ([], 0) := by rw [z0K, if_pos hlong]
  rw [e]
  refine z01 z0f 1 rfl Tryz.func134 rfl rfl rfl ?_
  repeat ((try conv => whnf); first | (refine stpQ ?_))
  (refine z00 (by rfl) ?_ ?_ (by rfl)) <;> (repeat' (first | (exact eqA) | (refine shE ?_) | (refine And.intro ?_ ?_))) <;> rfl
 have hR0 : UfAt (z0K f) f (f.length + 1) [] 0 := by
  unfold UfAt
  rw [z0K, if_neg hlong]; simp
 generalize z0K f = R at hR0 ⊢
 have hn0 : ¬ (f.length : Int) > 20000 := by omega
 refine z01 z0f 1 rfl Tryz.func134 rfl rfl rfl ?_
 repeat ((try conv => whnf); first | (refine stpQ ?_))
 refine z11 (Nat × Nat × List Bs) (fun x => ⟨[(0, .str f), (4, .ref 1), (5, .int .i64 (x.2.1 : Int))], [(1, some (.row 1 (strE x.2.2)))], 2⟩) (fun x => x.2.1 ≤ f.length ∧ f.length < x.2.1 + x.1 ∧ x.2.2.length ≤ x.2.1 ∧ UfAt R f x.1 x.2.2 x.2.1) (fun x => f.length - x.2.1) (f.length + 1, 0, []) ⟨by simp, by simp, by simp, hR0⟩ ?_ ?_
 ·(refine z02 (by rfl) ?_ ?_) <;> (repeat' (first | (exact eqA) | (refine shE ?_) | (refine And.intro ?_ ?_))) <;> first | rfl | decide
 ·intro Q1 hQ1 x hx
  obtain ⟨k, p, o⟩ := x
  have hp : p ≤ f.length := hx.1
  have hk : f.length < p + k := hx.2.1
  have ho : o.length ≤ p := hx.2.2.1
  have hat : UfAt R f k o p := hx.2.2.2
  clear hx hR0
  have hol := z0d o
  obtain ⟨k, rfl⟩ : ∃ m, k = m + 1 := ⟨k - 1, by omega⟩
  have c1 := z9v f p (by omega) hp
  cases hr : z0z f p with
  | none =>
    rw [hr] at c1
    have hst := hat.stop hr
    repeat ((try conv => whnf); first | (refine ccA ([]) (c1) ?_) | (refine stpQ ?_))
    refine hQ1 _ _ ?_
    (try conv => whnf)
    rw [hst]
    (refine z00 (by rfl) ?_ ?_ (by rfl)) <;> (repeat' (first | (exact eqA) | (refine shE ?_) | (refine And.intro ?_ ?_)))
  | some y =>
    obtain ⟨n, q⟩ := y
    rw [hr] at c1
    have hb := z0R hr
    have c2 := c_in (n : Int) 1 9000
    have e1 : IntKind.i64.wrap ((n : Int) + 4) = ((n + 4 : Nat) : Int) := by rw [wrap_i64 (by omega) (by omega)]; omega
    have e2 : IntKind.i64.wrap ((f.length : Int) - (q : Int)) = ((f.length - q : Nat) : Int) := by rw [wrap_i64 (by omega) (by omega)]; omega
    by_cases hin : 1 ≤ n ∧ n ≤ 9000
    ·rw [z8C (by omega)] at c2
     by_cases hfit : n + 4 ≤ f.length - q
     ·have hfit2 : ¬ ((n + 4 : Nat) : Int) > ((f.length - q : Nat) : Int) := by omega
      have c3 := zhO ((f.drop (q + 4)).take n) (by rw [List.length_take]; omega)
      have hsl := z8p ((f.drop (q + 4)).take n)
      have c4 := zfc (z1T ((f.drop (q + 4)).take n)) hsl
      have h2 := cut2 f q
      have h3 := cut3 f q n
      by_cases hs : (f.drop q).take 4 = z1Z (z1T ((f.drop (q + 4)).take n))
      ·have hnx := hat.step hr ⟨hin.1, hin.2, hfit, hs⟩
       rw [← h2] at hs
       rw [← h3] at hs c3 c4 hnx
       generalize z1T ((f.take (q + 4 + n)).drop (q + 4)) = sm at c3 c4 hs
       repeat ((try conv => whnf); first | (refine ccA ([]) (c1) ?_) | (refine Exists.intro _ (And.intro e1.symm ?_)) | (refine Exists.intro _ (And.intro e2.symm ?_)) | (refine ccA ([]) (c2) ?_) | (refine ccA ([]) (c3) ?_) | (refine ccA ([]) (c4) ?_) | (refine z0F hs ?_) | (refine And.intro (by simp only [List.length_append, List.length_cons, List.length_nil, List.length_set, List.length_replicate]; omega) ?_) | (refine stpQ ?_))
       refine ⟨(k, q + 4 + n, o ++ [(f.take (q + 4 + n)).drop (q + 4)]), ⟨by show q + 4 + n ≤ f.length; omega, by show f.length < q + 4 + n + k; omega, by show (o ++ [_]).length ≤ q + 4 + n; simp; omega, hnx⟩, by show f.length - (q + 4 + n) < f.length - p; omega, ?_⟩
       (refine z02 (by rfl) ?_ ?_) <;> (repeat' (first | (exact eqA) | (refine shE ?_) | (refine And.intro ?_ ?_)))
       all_goals first
        | exact (z9D o [_]).symm
        | rfl
      ·have hst := hat.bad hr (fun c => hs c.2.2.2)
       rw [← h2] at hs
       rw [← h3] at hs c3 c4
       generalize z1T ((f.take (q + 4 + n)).drop (q + 4)) = sm at c3 c4 hs
       repeat ((try conv => whnf); first | (refine ccA ([]) (c1) ?_) | (refine Exists.intro _ (And.intro e1.symm ?_)) | (refine Exists.intro _ (And.intro e2.symm ?_)) | (refine ccA ([]) (c2) ?_) | (refine ccA ([]) (c3) ?_) | (refine ccA ([]) (c4) ?_) | (refine z2y hs ?_) | (refine stpQ ?_))
       refine hQ1 _ _ ?_
       (try conv => whnf)
       rw [hst]
       (refine z00 (by rfl) ?_ ?_ (by rfl)) <;> (repeat' (first | (exact eqA) | (refine shE ?_) | (refine And.intro ?_ ?_)))
     ·have hfit2 : ((n + 4 : Nat) : Int) > ((f.length - q : Nat) : Int) := by omega
      have hst := hat.bad hr (fun c => hfit c.2.2.1)
      repeat ((try conv => whnf); first | (refine ccA ([]) (c1) ?_) | (refine Exists.intro _ (And.intro e1.symm ?_)) | (refine Exists.intro _ (And.intro e2.symm ?_)) | (refine ccA ([]) (c2) ?_) | (refine stpQ ?_))
      refine hQ1 _ _ ?_
      (try conv => whnf)
      rw [hst]
      (refine z00 (by rfl) ?_ ?_ (by rfl)) <;> (repeat' (first | (exact eqA) | (refine shE ?_) | (refine And.intro ?_ ?_)))
    ·rw [z8B (by omega)] at c2
     have hst := hat.bad hr (fun c => hin ⟨c.1, c.2.1⟩)
     repeat ((try conv => whnf); first | (refine ccA ([]) (c1) ?_) | (refine ccA ([]) (c2) ?_) | (refine stpQ ?_))
     refine hQ1 _ _ ?_
     (try conv => whnf)
     rw [hst]
     (refine z00 (by rfl) ?_ ?_ (by rfl)) <;> (repeat' (first | (exact eqA) | (refine shE ?_) | (refine And.intro ?_ ?_)))
theorem z7x (f : Bs) (hf : (f.length : Int) ≤ 100000000) : CT Tryz.prog 157 [] [.str f] (.tup [.sl 1 (strE (z0K f).1), .int .i64 ((z0K f).2 : Int)]) [] := by
 by_cases hlong : 20000 < f.length
 ·have e : z0K f = ([], 0) := by rw [z0K, if_pos hlong]
  rw [e]
  refine z01 z0f 1 rfl Tryz.func157 rfl rfl rfl ?_
  repeat ((try conv => whnf); first | (refine stpQ ?_))
  (refine z00 (by rfl) ?_ ?_ (by rfl)) <;> (repeat' (first | (exact eqA) | (refine shE ?_) | (refine And.intro ?_ ?_))) <;> rfl
 have hR0 : UfAt (z0K f) f (f.length + 1) [] 0 := by
  unfold UfAt
  rw [z0K, if_neg hlong]; simp
 generalize z0K f = R at hR0 ⊢
 have hn0 : ¬ (f.length : Int) > 20000 := by omega
 refine z01 z0f 1 rfl Tryz.func157 rfl rfl rfl ?_
 repeat ((try conv => whnf); first | (refine stpQ ?_))
 refine z11 (Nat × Nat × List Bs) (fun x => ⟨[(0, .str f), (4, .ref 1), (5, .int .i64 (x.2.1 : Int))], [(1, some (.row 1 (strE x.2.2)))], 2⟩) (fun x => x.2.1 ≤ f.length ∧ f.length < x.2.1 + x.1 ∧ x.2.2.length ≤ x.2.1 ∧ UfAt R f x.1 x.2.2 x.2.1) (fun x => f.length - x.2.1) (f.length + 1, 0, []) ⟨by simp, by simp, by simp, hR0⟩ ?_ ?_
 ·(refine z02 (by rfl) ?_ ?_) <;> (repeat' (first | (exact eqA) | (refine shE ?_) | (refine And.intro ?_ ?_))) <;> first | rfl | decide
 ·intro Q1 hQ1 x hx
  obtain ⟨k, p, o⟩ := x
  have hp : p ≤ f.length := hx.1
  have hk : f.length < p + k := hx.2.1
  have ho : o.length ≤ p := hx.2.2.1
  have hat : UfAt R f k o p := hx.2.2.2
  clear hx hR0
  have hol := z0d o
  obtain ⟨k, rfl⟩ : ∃ m, k = m + 1 := ⟨k - 1, by omega⟩
  by_cases hpl : p < f.length
  ·have hpl2 : (p : Int) < (f.length : Int) := by omega
   have c1 := zdi f p (by omega) hp
   cases hr : z0z f p with
   | none =>
     rw [hr] at c1
     have hst := hat.stop hr
     repeat ((try conv => whnf); first | (refine ccA ([]) (c1) ?_) | (refine stpQ ?_))
     refine hQ1 _ _ ?_
     (try conv => whnf)
     rw [hst]
     (refine z00 (by rfl) ?_ ?_ (by rfl)) <;> (repeat' (first | (exact eqA) | (refine shE ?_) | (refine And.intro ?_ ?_)))
   | some y =>
     obtain ⟨n, q⟩ := y
     rw [hr] at c1
     have hb := z0R hr
     have e2 : IntKind.i64.wrap ((f.length : Int) - (q : Int)) = ((f.length - q : Nat) : Int) := by rw [wrap_i64 (by omega) (by omega)]; omega
     have e3 : IntKind.i64.wrap (((f.length - q : Nat) : Int) - 4) = ((f.length - q : Nat) : Int) - 4 := by rw [wrap_i64 (by omega) (by omega)]
     by_cases hfit : n + 4 ≤ f.length - q
     ·have hfit2 : ¬ (n : Int) > ((f.length - q : Nat) : Int) - 4 := by omega
      have h3 := cut3 f q n
      have h4 := cut4 f p (q + 4 + n)
      have hiff := zf8 hr hfit
      have hlen : ((f.drop (q + 4)).take n).length = n := by rw [List.length_take, List.length_drop]; omega
      have c2 := zci ((f.drop (q + 4)).take n) (by omega)
      by_cases hin : 1 ≤ n ∧ n ≤ 9000
      ·rw [if_pos (by omega), decide_eq_true (by omega)] at c2
       by_cases hs : (f.drop q).take 4 = z1Z (z1T ((f.drop (q + 4)).take n))
       ·have hnx := hat.step hr ⟨hin.1, hin.2, hfit, hs⟩
        have hs2 := hiff.2 hs
        rw [← h4, ← h3] at hs2
        rw [← h3] at c2 hnx
        generalize z0J ((f.take (q + 4 + n)).drop (q + 4)) = fr at c2 hs2
        repeat ((try conv => whnf); first | (refine ccA ([]) (c1) ?_) | (refine Exists.intro p (Exists.intro (q + 4 + n) (And.intro rfl (And.intro rfl (And.intro (show p ≤ q + 4 + n by omega) (And.intro (show q + 4 + n ≤ f.length by omega) ?_)))))) | (refine Exists.intro _ (And.intro e2.symm ?_)) | (refine Exists.intro _ (And.intro e3.symm ?_)) | (refine ccA ([]) (c2) ?_) | (refine z0F hs2 ?_) | (refine And.intro (by simp only [List.length_append, List.length_cons, List.length_nil, List.length_set, List.length_replicate]; omega) ?_) | (refine stpQ ?_))
        refine ⟨(k, q + 4 + n, o ++ [(f.take (q + 4 + n)).drop (q + 4)]), ⟨by show q + 4 + n ≤ f.length; omega, by show f.length < q + 4 + n + k; omega, by show (o ++ [_]).length ≤ q + 4 + n; simp; omega, hnx⟩, by show f.length - (q + 4 + n) < f.length - p; omega, ?_⟩
        (refine z02 (by rfl) ?_ ?_) <;> (repeat' (first | (exact eqA) | (refine shE ?_) | (refine And.intro ?_ ?_)))
        all_goals first
         | exact (z9D o [_]).symm
         | rfl
       ·have hst := hat.bad hr (fun c => hs c.2.2.2)
        have hs2 : ¬ z0J ((f.drop (q + 4)).take n) = (f.drop p).take (q + 4 + n - p) := fun c => hs (hiff.1 c)
        rw [← h4, ← h3] at hs2
        rw [← h3] at c2
        generalize z0J ((f.take (q + 4 + n)).drop (q + 4)) = fr at c2 hs2
        repeat ((try conv => whnf); first | (refine ccA ([]) (c1) ?_) | (refine Exists.intro p (Exists.intro (q + 4 + n) (And.intro rfl (And.intro rfl (And.intro (show p ≤ q + 4 + n by omega) (And.intro (show q + 4 + n ≤ f.length by omega) ?_)))))) | (refine Exists.intro _ (And.intro e2.symm ?_)) | (refine Exists.intro _ (And.intro e3.symm ?_)) | (refine ccA ([]) (c2) ?_) | (refine z2y hs2 ?_) | (refine stpQ ?_))
        refine hQ1 _ _ ?_
        (try conv => whnf)
        rw [hst]
        (refine z00 (by rfl) ?_ ?_ (by rfl)) <;> (repeat' (first | (exact eqA) | (refine shE ?_) | (refine And.intro ?_ ?_)))
      ·rw [if_neg (by omega), decide_eq_false (by omega)] at c2
       have hst := hat.bad hr (fun c => hin ⟨c.1, c.2.1⟩)
       rw [← h3] at c2
       repeat ((try conv => whnf); first | (refine ccA ([]) (c1) ?_) | (refine Exists.intro p (Exists.intro (q + 4 + n) (And.intro rfl (And.intro rfl (And.intro (show p ≤ q + 4 + n by omega) (And.intro (show q + 4 + n ≤ f.length by omega) ?_)))))) | (refine Exists.intro _ (And.intro e2.symm ?_)) | (refine Exists.intro _ (And.intro e3.symm ?_)) | (refine ccA ([]) (c2) ?_) | (refine stpQ ?_))
       refine hQ1 _ _ ?_
       (try conv => whnf)
       rw [hst]
       (refine z00 (by rfl) ?_ ?_ (by rfl)) <;> (repeat' (first | (exact eqA) | (refine shE ?_) | (refine And.intro ?_ ?_)))
     ·have hfit2 : (n : Int) > ((f.length - q : Nat) : Int) - 4 := by omega
      have hst := hat.bad hr (fun c => hfit c.2.2.1)
      repeat ((try conv => whnf); first | (refine ccA ([]) (c1) ?_) | (refine Exists.intro _ (And.intro e2.symm ?_)) | (refine Exists.intro _ (And.intro e3.symm ?_)) | (refine stpQ ?_))
      refine hQ1 _ _ ?_
      (try conv => whnf)
      rw [hst]
      (refine z00 (by rfl) ?_ ?_ (by rfl)) <;> (repeat' (first | (exact eqA) | (refine shE ?_) | (refine And.intro ?_ ?_)))
  ·have hpe : p = f.length := by omega
   have hr : z0z f p = none := by
    cases h : z0z f p with
    | none => rfl
    | some y => have := z0R (n := y.1) (q := y.2) h; omega
   have hst := hat.stop hr
   have hnl : ¬ (p : Int) < (f.length : Int) := by omega
   repeat ((try conv => whnf); first | (refine z0o hnl ?_) | (refine stpQ ?_))
   refine hQ1 _ _ ?_
   repeat ((try conv => whnf); first | (refine stpQ ?_))
   rw [hst]
   (refine z00 (by rfl) ?_ ?_ (by rfl)) <;> (repeat' (first | (exact eqA) | (refine shE ?_) | (refine And.intro ?_ ?_)))
theorem zfe {l : List Fl} {n : Bs} (hd : z0X l = true) : ((z1A l n).getD []).length ≤ 20000 := by
 cases h : z1A l n with
 | none => simp
 | some t => exact zaO hd h
theorem zdj (l : List Fl) (n : Bs) (hf : z9C l) : CT Tryz.prog 99 [] [.agg [.sl 3 (flE l)], .str n] (.sl 1 (strE (z0N l n))) [] := by
 have c1 := zgU l n hf.1
 have c2 := z2a l hf
 unfold z0N
 have hd0 := @zfe l n
 cases hd : z0X l with
 | false =>
   rw [hd] at c2
   rw [if_neg (by simp)]
   generalize z1A l n = o at c1
   cases o with
   | none =>
     refine z01 z0f 1 rfl Tryz.func99 rfl rfl rfl ?_
     repeat ((try conv => whnf); first | (refine ccA ([]) (c1) ?_) | (refine ccA ([]) (c2) ?_) | (refine stpQ ?_))
     (refine z00 (by rfl) ?_ ?_ (by rfl)) <;> (repeat' (first | (exact eqA) | (refine shE ?_) | (refine And.intro ?_ ?_))) <;> rfl
   | some t =>
     refine z01 z0f 1 rfl Tryz.func99 rfl rfl rfl ?_
     repeat ((try conv => whnf); first | (refine ccA ([]) (c1) ?_) | (refine ccA ([]) (c2) ?_) | (refine stpQ ?_))
     (refine z00 (by rfl) ?_ ?_ (by rfl)) <;> (repeat' (first | (exact eqA) | (refine shE ?_) | (refine And.intro ?_ ?_))) <;> rfl
 | true =>
   rw [hd] at c2
   rw [if_pos rfl]
   have hlt := hd0 hd
   generalize z1A l n = o at c1 hlt ⊢
   cases o with
   | none =>
     have e : (z0K ((none : Option Bs).getD [])).1 = [] := by decide
     rw [e]
     refine z01 z0f 1 rfl Tryz.func99 rfl rfl rfl ?_
     repeat ((try conv => whnf); first | (refine ccA ([]) (c1) ?_) | (refine ccA ([]) (c2) ?_) | (refine stpQ ?_))
     (refine z00 (by rfl) ?_ ?_ (by rfl)) <;> (repeat' (first | (exact eqA) | (refine shE ?_) | (refine And.intro ?_ ?_))) <;> rfl
   | some t =>
     have hlt2 : t.length ≤ 20000 := hlt
     have c3 := zfd t (by omega)
     show CT _ _ _ _ (.sl 1 (strE (z0K t).1)) []
     generalize z0K t = R at c3 ⊢
     obtain ⟨Ra, Rb⟩ := R
     refine z01 z0f 1 rfl Tryz.func99 rfl rfl rfl ?_
     repeat ((try conv => whnf); first | (refine ccA ([]) (c1) ?_) | (refine ccA ([]) (c2) ?_) | (refine ccA ([]) (c3) ?_) | (refine stpQ ?_))
     (refine z00 (by rfl) ?_ ?_ (by rfl)) <;> (repeat' (first | (exact eqA) | (refine shE ?_) | (refine And.intro ?_ ?_)))
theorem zaR (l : List Fl) (n : Bs) (hf : z9C l) : CT Tryz.prog 124 [] [.agg [.sl 3 (flE l)], .str n] (.sl 1 (strE (z0N l n))) [] := by
 have c1 := zfb l n hf.1
 have c2 := z3g l hf
 have hff := (z3E l n).2
 unfold z0N at hff ⊢
 have hd0 := @zfe l n
 cases hd : z0X l with
 | false =>
   rw [hd] at c2
   rw [if_neg (by simp)]
   refine z01 z0f 1 rfl Tryz.func124 rfl rfl rfl ?_
   repeat ((try conv => whnf); first | (refine ccA ([]) (c2) ?_) | (refine stpQ ?_))
   (refine z00 (by rfl) ?_ ?_ (by rfl)) <;> (repeat' (first | (exact eqA) | (refine shE ?_) | (refine And.intro ?_ ?_))) <;> rfl
 | true =>
   rw [hd] at c2
   rw [hd, if_pos rfl] at hff
   rw [if_pos rfl]
   have hlt := hd0 hd
   generalize z1A l n = o at c1 hlt hff ⊢
   cases o with
   | none =>
     have c3 := z7x [] (by simp)
     have hff2 : (z0K []).1.length ≤ 20001 := hff
     show CT _ _ _ _ (.sl 1 (strE (z0K []).1)) []
     generalize z0K [] = R at c3 hff2 ⊢
     obtain ⟨Ra, Rb⟩ := R
     have hra := z0d Ra
     have hff3 : Ra.length ≤ 20001 := hff2
     change CT _ _ _ _ (.tup [.sl 1 (strE Ra), .int .i64 (Rb : Int)]) _ at c3
     refine z01 z0f 1 rfl Tryz.func124 rfl rfl rfl ?_
     repeat ((try conv => whnf); first | (refine ccA ([]) (c1) ?_) | (refine ccA ([]) (c2) ?_) | (refine ccA ([]) (c3) ?_) | (refine And.intro (by simp only [List.length_append, List.length_cons, List.length_nil, List.nil_append, List.length_replicate]; omega) ?_) | (refine stpQ ?_))
     (refine z00 (by rfl) ?_ ?_ (by rfl)) <;> (repeat' (first | (exact eqA) | (refine shE ?_) | (refine And.intro ?_ ?_)))
   | some t =>
     have hlt2 : t.length ≤ 20000 := hlt
     have c3 := z7x t (by omega)
     have hff2 : (z0K t).1.length ≤ 20001 := hff
     show CT _ _ _ _ (.sl 1 (strE (z0K t).1)) []
     generalize z0K t = R at c3 hff2 ⊢
     obtain ⟨Ra, Rb⟩ := R
     have hra := z0d Ra
     have hff3 : Ra.length ≤ 20001 := hff2
     change CT _ _ _ _ (.tup [.sl 1 (strE Ra), .int .i64 (Rb : Int)]) _ at c3
     refine z01 z0f 1 rfl Tryz.func124 rfl rfl rfl ?_
     repeat ((try conv => whnf); first | (refine ccA ([]) (c1) ?_) | (refine ccA ([]) (c2) ?_) | (refine ccA ([]) (c3) ?_) | (refine And.intro (by simp only [List.length_append, List.length_cons, List.length_nil, List.nil_append, List.length_replicate]; omega) ?_) | (refine stpQ ?_))
     (refine z00 (by rfl) ?_ ?_ (by rfl)) <;> (repeat' (first | (exact eqA) | (refine shE ?_) | (refine And.intro ?_ ?_)))
end Go.Proofs.YtkjjacndfieeoaaGreatDoor
