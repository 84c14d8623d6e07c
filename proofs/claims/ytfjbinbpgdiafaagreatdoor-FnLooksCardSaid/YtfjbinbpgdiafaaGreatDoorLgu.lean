/- Functions by content: disks, framed records, the texts of a log. Functions by content: the records of a file, the texts of a log. -/
import Derived.Test.YtfjbinbpgdiafaaGreatDoorXt
import Derived.Test.YtfjbinbpgdiafaaGreatDoorCap
import Derived.Test.YtfjbinbpgdiafaaGreatDoorOld
import Derived.Test.YtfjbinbpgdiafaaGreatDoorFb
import Derived.Test.YtfjbinbpgdiafaaGreatDoorVd
namespace Go.Proofs.YtfjbinbpgdiafaaGreatDoor
set_option maxRecDepth 100000
set_option maxHeartbeats 4000000
set_option linter.unusedVariables false
set_option linter.unusedSimpArgs false
set_option linter.unusedSectionVars false
open Go.RowKit Pl
attribute [local irreducible] z0r z0s z0z AnsP LeP
def flE (l : List Fl) : List (List T) := l.map fun f => [.str f.1, .str f.2.1, .int .i64 f.2.2]
theorem z2o (l : List Fl) : (flE l).length = l.length := by simp [flE]
theorem z2p {l : List Fl} {k : Nat} (h : k < l.length) : (flE l)[k]? = some [.str (flAt l k).1, .str (flAt l k).2.1, .int .i64 (flAt l k).2.2] := by
 rw [zdP h]; simp [flE, List.getElem?_eq_getElem h]
def za1 (l : List Fl) : Prop := (l.length : Int) ≤ 100000000 ∧ ∀ k, ((flAt l k).1.length : Int) ≤ 100000000 ∧ ((flAt l k).2.1.length : Int) ≤ 100000000
theorem z8R (s : Bs) (h : (s.length : Int) ≤ 1000000000) : CT Tryz.prog 190 [] [.str s] (.bool (inB (s.length : Int) 1 8)) [] := by
 have c1 := c_in (s.length : Int) 1 8
 generalize inB (s.length : Int) 1 8 = b at c1 ⊢
 refine z01 z0p 1 rfl Tryz.func190 rfl rfl rfl ?_
 repeat ((try conv => whnf); first | (refine ccA ([]) (c1) ?_) | (refine stpQ ?_))
 (refine z00 (by rfl) ?_ ?_ (by rfl)) <;> (repeat' (first | (exact eqA) | (refine shE ?_) | (refine And.intro ?_ ?_)))
theorem z6a (s : Bs) (h : (s.length : Int) ≤ 1000000000) : CT Tryz.prog 185 [] [.str s] (.bool (inB (s.length : Int) 1 8)) [] := by
 have c1 := z13 (s.length : Int) 1 8
 generalize inB (s.length : Int) 1 8 = b at c1 ⊢
 refine z01 z0p 1 rfl Tryz.func185 rfl rfl rfl ?_
 repeat ((try conv => whnf); first | (refine ccA ([]) (c1) ?_) | (refine stpQ ?_))
 (refine z00 (by rfl) ?_ ?_ (by rfl)) <;> (repeat' (first | (exact eqA) | (refine shE ?_) | (refine And.intro ?_ ?_)))
theorem zbr (k : Nat) : (k == 0) = !decide ((k : Int) > 0) := by cases k <;> simp <;> omega
theorem zfe (l : List Fl) (hf : za1 l) : CT Tryz.prog 162 [] [.agg [.sl 3 (flE l)]] (.bool (z1t l)) [] := by
 have hlen := z2o l
 have hl := hf.1
 refine z01 z0p 1 rfl Tryz.func162 rfl rfl rfl ?_
 repeat ((try conv => whnf); first | (refine stpQ ?_))
 refine z0K Nat (fun k => ⟨[(1, .ptr 1 0 0), (6, .sl 3 (flE l)), (7, .int .i64 ((flE l).length : Int)), (8, .int .i64 (k : Int))], [(1, some (.box [.sl 3 (flE l)]))], 2⟩) (fun k => k ≤ l.length ∧ ∀ j, j < k → z23 l j = true) (fun k => l.length - k) 0 ⟨by omega, fun j hj => by omega⟩ ?_ ?_
 ·(refine z02 (by rfl) ?_ ?_) <;> repeat' (first | (exact eqA) | (refine shE ?_) | (refine And.intro ?_ ?_))
 ·intro k hx
  have hk : k ≤ l.length := hx.1
  have hp : ∀ j, j < k → z23 l j = true := hx.2
  clear hx
  have hz := zbr k
  have hfk := hf.2 k
  have c1 := z8R (flAt l k).1 (by omega)
  have c2 := c_in (flAt l k).2.2 0 ((flAt l k).2.1.length : Int)
  repeat ((try conv => whnf); first | (refine stpQ ?_))
  ((try conv => whnf); first | (refine cb_d (fun h => ?_) (fun h => ?_)) | (refine cb_n (fun h => ?_) (fun h => ?_)) | (refine cb (fun h => ?_) (fun h => ?_)))
  ·have hlt : k < l.length := by omega
   have next : z23 l k = true → ∀ j, j < k + 1 → z23 l j = true := fun hx j hj => by
    by_cases hjk : j = k
    ·subst hjk; exact hx
    ·exact hp j (by omega)
   repeat' (first | ((try conv => whnf); first | (refine i_at (z2p hlt) ?_) | (refine i_at (z2p (show k - 1 < l.length by omega)) ?_) | (refine ccA ([]) (c1) ?_) | (refine ccA ([]) (c2) ?_) | (refine stpQ ?_)) | ((try conv => whnf); first | (refine cb_d (fun h => ?_) (fun h => ?_)) | (refine cb_n (fun h => ?_) (fun h => ?_)) | (refine cb (fun h => ?_) (fun h => ?_))))
   all_goals first
    | (refine ⟨k + 1, ⟨by omega, next (by (simp_all [z23, ltB]); first | done | omega | fail)⟩, by omega, ?_⟩
       (refine z02 (by rfl) ?_ ?_) <;> repeat' (first | (exact eqA) | (refine shE ?_) | (refine And.intro ?_ ?_)))
    | (rw [z3m hlt (by (simp_all [z23, ltB]); first | done | omega | fail)]
       (refine z00 (by rfl) ?_ ?_ (by rfl)) <;> repeat' (first | (exact eqA) | (refine shE ?_) | (refine And.intro ?_ ?_)))
    | (rw [z3m hlt (by (simp_all [z23, ltB]); first | done | omega | fail)]
       (refine z00 (by rfl) ?_ ?_ (by rfl)) <;> repeat' (first | (exact eqA) | (refine shE ?_) | (refine And.intro ?_ ?_)))
  ·have hke : k = l.length := by omega
   repeat ((try conv => whnf); first | (refine stpQ ?_))
   by_cases h30 : l.length ≤ 30
   ·rw [z1S h30 (fun j hj => hp j (by omega))]
    (refine z00 (by rfl) ?_ ?_ (by rfl)) <;> repeat' (first | (exact eqA) | (refine shE ?_) | (refine And.intro ?_ ?_))
    simp; omega
   ·rw [z65 (by omega)]
    (refine z00 (by rfl) ?_ ?_ (by rfl)) <;> repeat' (first | (exact eqA) | (refine shE ?_) | (refine And.intro ?_ ?_))
    simp; omega
theorem z3h (l : List Fl) (hf : za1 l) : CT Tryz.prog 174 [] [.agg [.sl 3 (flE l)]] (.bool (z1t l)) [] := by
 have hlen := z2o l
 have hl := hf.1
 refine z01 z0p 1 rfl Tryz.func174 rfl rfl rfl ?_
 repeat ((try conv => whnf); first | (refine stpQ ?_))
 ((try conv => whnf); first | (refine cb_d (fun h => ?_) (fun h => ?_)) | (refine cb_n (fun h => ?_) (fun h => ?_)) | (refine cb (fun h => ?_) (fun h => ?_)))
 ·have h30 : 30 < l.length := by omega
  repeat ((try conv => whnf); first | (refine stpQ ?_))
  rw [z65 h30]
  (refine z00 (by rfl) ?_ ?_ (by rfl)) <;> repeat' (first | (exact eqA) | (refine shE ?_) | (refine And.intro ?_ ?_))
 have h30 : l.length ≤ 30 := by omega
 repeat ((try conv => whnf); first | (refine stpQ ?_))
 refine z0K Nat (fun k => ⟨[(1, .ptr 1 0 0), (3, .int .i64 (k : Int))], [(1, some (.box [.sl 3 (flE l)]))], 2⟩) (fun k => k ≤ l.length ∧ ∀ j, j < k → z23 l j = true) (fun k => l.length - k) 0 ⟨by omega, fun j hj => by omega⟩ ?_ ?_
 ·(refine z02 (by rfl) ?_ ?_) <;> repeat' (first | (exact eqA) | (refine shE ?_) | (refine And.intro ?_ ?_))
 ·intro k hx
  have hk : k ≤ l.length := hx.1
  have hp : ∀ j, j < k → z23 l j = true := hx.2
  clear hx
  have hz := zbr k
  have hfk := hf.2 k
  have c1 := z6a (flAt l k).1 (by omega)
  have c2 := z13 (flAt l k).2.2 0 ((flAt l k).2.1.length : Int)
  repeat ((try conv => whnf); first | (refine stpQ ?_))
  ((try conv => whnf); first | (refine cb_d (fun h => ?_) (fun h => ?_)) | (refine cb_n (fun h => ?_) (fun h => ?_)) | (refine cb (fun h => ?_) (fun h => ?_)))
  ·have hlt : k < l.length := by omega
   have next : z23 l k = true → ∀ j, j < k + 1 → z23 l j = true := fun hx j hj => by
    by_cases hjk : j = k
    ·subst hjk; exact hx
    ·exact hp j (by omega)
   repeat' (first | ((try conv => whnf); first | (refine i_at (z2p hlt) ?_) | (refine i_at (z2p (show k - 1 < l.length by omega)) ?_) | (refine ccA ([]) (c1) ?_) | (refine ccA ([]) (c2) ?_) | (refine stpQ ?_)) | ((try conv => whnf); first | (refine cb_d (fun h => ?_) (fun h => ?_)) | (refine cb_n (fun h => ?_) (fun h => ?_)) | (refine cb (fun h => ?_) (fun h => ?_))))
   all_goals first
    | (refine ⟨k + 1, ⟨by omega, next (by (simp_all [z23, ltB]); first | done | omega | fail)⟩, by omega, ?_⟩
       (refine z02 (by rfl) ?_ ?_) <;> repeat' (first | (exact eqA) | (refine shE ?_) | (refine And.intro ?_ ?_)))
    | (rw [z3m hlt (by (simp_all [z23, ltB]); first | done | omega | fail)]
       (refine z00 (by rfl) ?_ ?_ (by rfl)) <;> repeat' (first | (exact eqA) | (refine shE ?_) | (refine And.intro ?_ ?_)))
    | (rw [z3m hlt (by (simp_all [z23, ltB]); first | done | omega | fail)]
       (refine z00 (by rfl) ?_ ?_ (by rfl)) <;> repeat' (first | (exact eqA) | (refine shE ?_) | (refine And.intro ?_ ?_)))
  ·have hke : k = l.length := by omega
   repeat ((try conv => whnf); first | (refine stpQ ?_))
   rw [z1S h30 (fun j hj => hp j (by omega))]
   (refine z00 (by rfl) ?_ ?_ (by rfl)) <;> repeat' (first | (exact eqA) | (refine shE ?_) | (refine And.intro ?_ ?_))
theorem zff (l : List Fl) (n : Bs) (hl : (l.length : Int) ≤ 100000000) : CT Tryz.prog 189 [] [.agg [.sl 3 (flE l)], .str n] (.int .i64 (ixI (z1M l n))) [] := by
 have hlen := z2o l
 refine z01 z0p 1 rfl Tryz.func189 rfl rfl rfl ?_
 repeat ((try conv => whnf); first | (refine stpQ ?_))
 refine z0K Nat (fun k => ⟨[(1, .str n), (8, .sl 3 (flE l)), (9, .int .i64 ((flE l).length : Int)), (10, .int .i64 (k : Int))], [], 1⟩) (fun k => k ≤ l.length ∧ ∀ j, j < k → (flAt l j).1 ≠ n) (fun k => l.length - k) 0 ⟨by omega, fun j hj => by omega⟩ ?_ ?_
 ·(refine z02 (by rfl) ?_ ?_) <;> repeat' (first | (exact eqA) | (refine shE ?_) | (refine And.intro ?_ ?_))
 ·intro k hx
  have hk : k ≤ l.length := hx.1
  have hp : ∀ j, j < k → (flAt l j).1 ≠ n := hx.2
  clear hx
  by_cases hlt : k < l.length
  ·have hlt2 : (k : Int) < ((flE l).length : Int) := by omega
   by_cases he : (flAt l k).1 = n
   ·rw [z7K hlt hp he]
    repeat ((try conv => whnf); first | (refine i_at (z2p hlt) ?_) | (refine z0h he ?_) | (refine stpQ ?_))
    (refine z00 (by rfl) ?_ ?_ (by rfl)) <;> (repeat' (first | (exact eqA) | (refine shE ?_) | (refine And.intro ?_ ?_))) <;> rfl
   ·repeat ((try conv => whnf); first | (refine i_at (z2p hlt) ?_) | (refine z0c he ?_) | (refine stpQ ?_))
    refine ⟨k + 1, ⟨by omega, fun j hj => ?_⟩, by omega, ?_⟩
    ·by_cases hjk : j = k
     ·subst hjk; exact he
     ·exact hp j (by omega)
    ·(refine z02 (by rfl) ?_ ?_) <;> repeat' (first | (exact eqA) | (refine shE ?_) | (refine And.intro ?_ ?_))
  ·rw [zdQ (fun j hj => hp j (by omega))]
   repeat ((try conv => whnf); first | (refine stpQ ?_))
   (refine z00 (by rfl) ?_ ?_ (by rfl)) <;> (repeat' (first | (exact eqA) | (refine shE ?_) | (refine And.intro ?_ ?_))) <;> rfl
theorem za2 (l : List Fl) (n : Bs) (hl : (l.length : Int) ≤ 100000000) : CT Tryz.prog 186 [] [.agg [.sl 3 (flE l)], .str n] (.int .i64 (ixI (z1M l n))) [] := by
 have hlen := z2o l
 refine z01 z0p 1 rfl Tryz.func186 rfl rfl rfl ?_
 repeat ((try conv => whnf); first | (refine stpQ ?_))
 refine z0K Nat (fun k => ⟨[(1, .str n), (2, .ptr 1 0 0), (5, .int .i64 (k : Int))], [(1, some (.box [.sl 3 (flE l)]))], 2⟩) (fun k => k ≤ l.length ∧ ∀ j, j < k → (flAt l j).1 ≠ n) (fun k => l.length - k) 0 ⟨by omega, fun j hj => by omega⟩ ?_ ?_
 ·(refine z02 (by rfl) ?_ ?_) <;> repeat' (first | (exact eqA) | (refine shE ?_) | (refine And.intro ?_ ?_))
 ·intro k hx
  have hk : k ≤ l.length := hx.1
  have hp : ∀ j, j < k → (flAt l j).1 ≠ n := hx.2
  clear hx
  by_cases hlt : k < l.length
  ·have hlt2 : (k : Int) < ((flE l).length : Int) := by omega
   by_cases he : (flAt l k).1 = n
   ·rw [z7K hlt hp he]
    repeat ((try conv => whnf); first | (refine i_at (z2p hlt) ?_) | (refine z0h he ?_) | (refine stpQ ?_))
    (refine z00 (by rfl) ?_ ?_ (by rfl)) <;> (repeat' (first | (exact eqA) | (refine shE ?_) | (refine And.intro ?_ ?_))) <;> rfl
   ·repeat ((try conv => whnf); first | (refine i_at (z2p hlt) ?_) | (refine z0c he ?_) | (refine stpQ ?_))
    refine ⟨k + 1, ⟨by omega, fun j hj => ?_⟩, by omega, ?_⟩
    ·by_cases hjk : j = k
     ·subst hjk; exact he
     ·exact hp j (by omega)
    ·(refine z02 (by rfl) ?_ ?_) <;> repeat' (first | (exact eqA) | (refine shE ?_) | (refine And.intro ?_ ?_))
  ·rw [zdQ (fun j hj => hp j (by omega))]
   repeat ((try conv => whnf); first | (refine stpQ ?_))
   (refine z00 (by rfl) ?_ ?_ (by rfl)) <;> (repeat' (first | (exact eqA) | (refine shE ?_) | (refine And.intro ?_ ?_))) <;> rfl
def fgT : Option Bs → T
 | some t => .tup [.str t, .bool true]
 | none => .tup [.str [], .bool false]
theorem zfg (l : List Fl) (n : Bs) (hl : (l.length : Int) ≤ 100000000) : CT Tryz.prog 161 [] [.agg [.sl 3 (flE l)], .str n] (fgT (z1H l n)) [] := by
 have c1 := zff l n hl
 unfold z1H
 have hlt := @zdR l n
 generalize z1M l n = o at c1 hlt ⊢
 cases o with
 | none =>
   show CT _ _ _ _ (.tup [.str [], .bool false]) []
   have c1 : CT Tryz.prog 189 [] [.agg [.sl 3 (flE l)], .str n] (.int .i64 (-1)) [] := c1
   refine z01 z0p 1 rfl Tryz.func161 rfl rfl rfl ?_
   repeat ((try conv => whnf); first | (refine ccA ([]) (c1) ?_) | (refine stpQ ?_))
   (refine z00 (by rfl) ?_ ?_ (by rfl)) <;> repeat' (first | (exact eqA) | (refine shE ?_) | (refine And.intro ?_ ?_))
 | some k =>
   have h := hlt rfl
   show CT _ _ _ _ (.tup [.str (flAt l k).2.1, .bool true]) []
   have c1 : CT Tryz.prog 189 [] [.agg [.sl 3 (flE l)], .str n] (.int .i64 (k : Int)) [] := c1
   refine z01 z0p 1 rfl Tryz.func161 rfl rfl rfl ?_
   repeat ((try conv => whnf); first | (refine ccA ([]) (c1) ?_) | (refine i_at (z2p h) ?_) | (refine stpQ ?_))
   (refine z00 (by rfl) ?_ ?_ (by rfl)) <;> repeat' (first | (exact eqA) | (refine shE ?_) | (refine And.intro ?_ ?_))
theorem ze0 (l : List Fl) (n : Bs) (hl : (l.length : Int) ≤ 100000000) : CT Tryz.prog 175 [] [.agg [.sl 3 (flE l)], .str n] (fgT (z1H l n)) [] := by
 have c1 := za2 l n hl
 unfold z1H
 have hlt := @zdR l n
 generalize z1M l n = o at c1 hlt ⊢
 cases o with
 | none =>
   show CT _ _ _ _ (.tup [.str [], .bool false]) []
   have c1 : CT Tryz.prog 186 [] [.agg [.sl 3 (flE l)], .str n] (.int .i64 (-1)) [] := c1
   refine z01 z0p 1 rfl Tryz.func175 rfl rfl rfl ?_
   repeat ((try conv => whnf); first | (refine ccA ([]) (c1) ?_) | (refine stpQ ?_))
   (refine z00 (by rfl) ?_ ?_ (by rfl)) <;> repeat' (first | (exact eqA) | (refine shE ?_) | (refine And.intro ?_ ?_))
 | some k =>
   have h := hlt rfl
   show CT _ _ _ _ (.tup [.str (flAt l k).2.1, .bool true]) []
   have c1 : CT Tryz.prog 186 [] [.agg [.sl 3 (flE l)], .str n] (.int .i64 (k : Int)) [] := c1
   refine z01 z0p 1 rfl Tryz.func175 rfl rfl rfl ?_
   repeat ((try conv => whnf); first | (refine ccA ([]) (c1) ?_) | (refine i_at (z2p h) ?_) | (refine stpQ ?_))
   (refine z00 (by rfl) ?_ ?_ (by rfl)) <;> repeat' (first | (exact eqA) | (refine shE ?_) | (refine And.intro ?_ ?_))
theorem c_iSum (s : Bs) (hs : (s.length : Int) ≤ 1000000000) : CT Tryz.prog 191 [] [.str s] (.int .u32 ((z2h s : Nat) : Int)) [] :=
 z2V ⟨_, Tryz.func191, rfl, rfl⟩ rfl (fun X => z1w X _ _) fun w => by
  have h := zdZ (bs s) w (by rw [z0M]; exact hs)
  rw [z0S] at h
  exact h.mono fun e w' ⟨h1, h2⟩ => ⟨h1, h2 ▸ Below.refl _ _⟩
theorem c_sSum (s : Bs) (hs : (s.length : Int) ≤ 1000000000) : CT Tryz.prog 216 [] [.str s] (.int .u32 ((z2h s : Nat) : Int)) [] :=
 z2V ⟨_, Tryz.func216, rfl, rfl⟩ rfl (fun X => z1w X _ _) fun w => by
  have h := zcf (bs s) w (by rw [z0M]; exact hs)
  rw [z0S] at h
  exact h.mono fun e w' ⟨h1, h2⟩ => ⟨h1, h2 ▸ Below.refl _ _⟩
theorem zgY (x : Nat) (hx : (x : Int) ≤ 4294967295) : CT Tryz.prog 173 [] [.int .u32 (x : Int)] (.str (z28 x)) [] :=
 z2V ⟨_, Tryz.func173, rfl, rfl⟩ rfl (fun X => z2x X _) fun w => z6B x w hx
theorem zgZ (x : Nat) (hx : (x : Int) ≤ 4294967295) : CT Tryz.prog 215 [] [.int .u32 (x : Int)] (.str (z28 x)) [] :=
 z2V ⟨_, Tryz.func215, rfl, rfl⟩ rfl (fun X => z2x X _) fun w => z69 x w hx
theorem zbs (t : Bs) (ht : (t.length : Int) ≤ 100000000) : CT Tryz.prog 199 [] [.str t] (.tup [.str (if 1 ≤ t.length ∧ t.length ≤ 9000 then z1j t else []), .bool (decide (1 ≤ t.length ∧ t.length ≤ 9000))]) [] := by
 have c0 := z13 (t.length : Int) 1 9000
 by_cases h : 1 ≤ t.length ∧ t.length ≤ 9000
 ·rw [z0W.2 ⟨by omega, by omega⟩] at c0
  rw [if_pos h, decide_eq_true h]
  have c1 := z4n t.length (by omega)
  have c2 := c_sSum t (by omega)
  have hsl := zb5 t
  have c3 := zgZ (z2h t) (by omega)
  have hv := z0N (n := t.length) (by omega)
  have hfl := z39 (z2h t)
  unfold z1j
  generalize z03 t.length = v at c1 hv ⊢
  generalize z2h t = s at c2 c3 hfl hsl ⊢
  generalize z28 s = f at c3 hfl ⊢
  refine z01 z0p 1 rfl Tryz.func199 rfl rfl rfl ?_
  repeat ((try conv => whnf); first | (refine ccA ([]) (c0) ?_) | (refine ccA ([]) (c1) ?_) | (refine ccA ([]) (c2) ?_) | (refine ccA ([]) (c3) ?_) | (refine And.intro (by simp only [List.length_append]; omega) ?_) | (refine stpQ ?_))
  (refine z00 (by rfl) ?_ ?_ (by rfl)) <;> repeat' (first | (exact eqA) | (refine shE ?_) | (refine And.intro ?_ ?_))
 ·have hn : inB (t.length : Int) 1 9000 = false := by
   cases hb : inB (t.length : Int) 1 9000
   ·rfl
   ·rw [z0W] at hb; omega
  rw [hn] at c0
  rw [if_neg h, decide_eq_false h]
  refine z01 z0p 1 rfl Tryz.func199 rfl rfl rfl ?_
  repeat ((try conv => whnf); first | (refine ccA ([]) (c0) ?_) | (refine stpQ ?_))
  (refine z00 (by rfl) ?_ ?_ (by rfl)) <;> repeat' (first | (exact eqA) | (refine shE ?_) | (refine And.intro ?_ ?_))
end Go.Proofs.YtfjbinbpgdiafaaGreatDoor
namespace Go.Proofs.YtfjbinbpgdiafaaGreatDoor
set_option maxRecDepth 100000
set_option maxHeartbeats 4000000
set_option linter.unusedVariables false
set_option linter.unusedSimpArgs false
set_option linter.unusedSectionVars false
open Go.RowKit Pl
attribute [local irreducible] z0r z0s z0z AnsP LeP
theorem z4F {n lo hi : Int} (h : ¬ (lo ≤ n ∧ n ≤ hi)) : inB n lo hi = false := by
 cases hb : inB n lo hi
 ·rfl
 ·exact absurd (z0W.1 hb) h
theorem z2q {n lo hi : Int} (h : lo ≤ n ∧ n ≤ hi) : inB n lo hi = true := z0W.2 h
theorem z8S (a b : List Bs) : strE (a ++ b) = strE a ++ strE b := by simp [strE]
theorem cut2 (f : Bs) (q : Nat) : (f.take (q + 4)).drop q = (f.drop q).take 4 := by rw [List.drop_take]; congr 1; omega
theorem cut3 (f : Bs) (q n : Nat) : (f.take (q + 4 + n)).drop (q + 4) = (f.drop (q + 4)).take n := by rw [List.drop_take]; congr 1; omega
theorem cut4 (f : Bs) (p e : Nat) : (f.take e).drop p = (f.drop p).take (e - p) := by rw [List.drop_take]
theorem ze1 (f : Bs) (hf : (f.length : Int) ≤ 100000000) : CT Tryz.prog 163 [] [.str f] (.tup [.sl 1 (strE (z0Q f).1), .int .i64 ((z0Q f).2 : Int)]) [] := by
 by_cases hlong : 20000 < f.length
 ·have e : z0Q f = ([], 0) := by rw [z0Q, if_pos hlong]
  rw [e]
  refine z01 z0p 1 rfl Tryz.func163 rfl rfl rfl ?_
  repeat ((try conv => whnf); first | (refine stpQ ?_))
  (refine z00 (by rfl) ?_ ?_ (by rfl)) <;> (repeat' (first | (exact eqA) | (refine shE ?_) | (refine And.intro ?_ ?_))) <;> rfl
 have hR0 : UfAt (z0Q f) f (f.length + 1) [] 0 := by
  unfold UfAt
  rw [z0Q, if_neg hlong]; simp
 generalize z0Q f = R at hR0 ⊢
 have hn0 : ¬ (f.length : Int) > 20000 := by omega
 refine z01 z0p 1 rfl Tryz.func163 rfl rfl rfl ?_
 repeat ((try conv => whnf); first | (refine stpQ ?_))
 refine z3V (Nat × Nat × List Bs) (fun x => ⟨[(0, .str f), (4, .ref 1), (5, .int .i64 (x.2.1 : Int))], [(1, some (.row 1 (strE x.2.2)))], 2⟩) (fun x => x.2.1 ≤ f.length ∧ f.length < x.2.1 + x.1 ∧ x.2.2.length ≤ x.2.1 ∧ UfAt R f x.1 x.2.2 x.2.1) (fun x => f.length - x.2.1) (f.length + 1, 0, []) ⟨by simp, by simp, by simp, hR0⟩ ?_ ?_
 ·(refine z02 (by rfl) ?_ ?_) <;> (repeat' (first | (exact eqA) | (refine shE ?_) | (refine And.intro ?_ ?_))) <;> first | rfl | decide
 ·intro Q1 hQ1 x hx
  obtain ⟨k, p, o⟩ := x
  have hp : p ≤ f.length := hx.1
  have hk : f.length < p + k := hx.2.1
  have ho : o.length ≤ p := hx.2.2.1
  have hat : UfAt R f k o p := hx.2.2.2
  clear hx hR0
  have hol := z0H o
  obtain ⟨k, rfl⟩ : ∃ m, k = m + 1 := ⟨k - 1, by omega⟩
  have c1 := z8C f p (by omega) hp
  cases hr : z0u f p with
  | none =>
    rw [hr] at c1
    have hst := hat.stop hr
    repeat ((try conv => whnf); first | (refine ccA ([]) (c1) ?_) | (refine stpQ ?_))
    refine hQ1 _ _ ?_
    (try conv => whnf)
    rw [hst]
    (refine z00 (by rfl) ?_ ?_ (by rfl)) <;> (repeat' (first | (exact eqA) | (refine shE ?_) | (refine And.intro ?_ ?_)))
  | some y =>
    obtain ⟨n, q⟩ := y
    rw [hr] at c1
    have hb := z0V hr
    have c2 := c_in (n : Int) 1 9000
    have e1 : IntKind.i64.wrap ((n : Int) + 4) = ((n + 4 : Nat) : Int) := by rw [wrap_i64 (by omega) (by omega)]; omega
    have e2 : IntKind.i64.wrap ((f.length : Int) - (q : Int)) = ((f.length - q : Nat) : Int) := by rw [wrap_i64 (by omega) (by omega)]; omega
    by_cases hin : 1 ≤ n ∧ n ≤ 9000
    ·rw [z2q (by omega)] at c2
     by_cases hfit : n + 4 ≤ f.length - q
     ·have hfit2 : ¬ ((n + 4 : Nat) : Int) > ((f.length - q : Nat) : Int) := by omega
      have c3 := c_iSum ((f.drop (q + 4)).take n) (by rw [List.length_take]; omega)
      have hsl := zb5 ((f.drop (q + 4)).take n)
      have c4 := zgY (z2h ((f.drop (q + 4)).take n)) hsl
      have h2 := cut2 f q
      have h3 := cut3 f q n
      by_cases hs : (f.drop q).take 4 = z28 (z2h ((f.drop (q + 4)).take n))
      ·have hnx := hat.step hr ⟨hin.1, hin.2, hfit, hs⟩
       rw [← h2] at hs
       rw [← h3] at hs c3 c4 hnx
       generalize z2h ((f.take (q + 4 + n)).drop (q + 4)) = sm at c3 c4 hs
       repeat ((try conv => whnf); first | (refine ccA ([]) (c1) ?_) | (refine Exists.intro _ (And.intro e1.symm ?_)) | (refine Exists.intro _ (And.intro e2.symm ?_)) | (refine ccA ([]) (c2) ?_) | (refine ccA ([]) (c3) ?_) | (refine ccA ([]) (c4) ?_) | (refine z1g hs ?_) | (refine And.intro (by simp only [List.length_append, List.length_cons, List.length_nil, List.length_set, List.length_replicate]; omega) ?_) | (refine stpQ ?_))
       refine ⟨(k, q + 4 + n, o ++ [(f.take (q + 4 + n)).drop (q + 4)]), ⟨by show q + 4 + n ≤ f.length; omega, by show f.length < q + 4 + n + k; omega, by show (o ++ [_]).length ≤ q + 4 + n; simp; omega, hnx⟩, by show f.length - (q + 4 + n) < f.length - p; omega, ?_⟩
       (refine z02 (by rfl) ?_ ?_) <;> (repeat' (first | (exact eqA) | (refine shE ?_) | (refine And.intro ?_ ?_)))
       all_goals first
        | exact (z8S o [_]).symm
        | rfl
      ·have hst := hat.bad hr (fun c => hs c.2.2.2)
       rw [← h2] at hs
       rw [← h3] at hs c3 c4
       generalize z2h ((f.take (q + 4 + n)).drop (q + 4)) = sm at c3 c4 hs
       repeat ((try conv => whnf); first | (refine ccA ([]) (c1) ?_) | (refine Exists.intro _ (And.intro e1.symm ?_)) | (refine Exists.intro _ (And.intro e2.symm ?_)) | (refine ccA ([]) (c2) ?_) | (refine ccA ([]) (c3) ?_) | (refine ccA ([]) (c4) ?_) | (refine z2M hs ?_) | (refine stpQ ?_))
       refine hQ1 _ _ ?_
       (try conv => whnf)
       rw [hst]
       (refine z00 (by rfl) ?_ ?_ (by rfl)) <;> (repeat' (first | (exact eqA) | (refine shE ?_) | (refine And.intro ?_ ?_)))
     ·have hfit2 : ((n + 4 : Nat) : Int) > ((f.length - q : Nat) : Int) := by omega
      have hst := hat.bad hr (fun c => hfit c.2.2.1)
      repeat ((try conv => whnf); first | (refine ccA ([]) (c1) ?_) | (refine Exists.intro _ (And.intro e1.symm ?_)) | (refine Exists.intro _ (And.intro e2.symm ?_)) | (refine ccA ([]) (c2) ?_) | (refine stpQ ?_))
      refine hQ1 _ _ ?_
      (try conv => whnf)
      rw [hst]
      (refine z00 (by rfl) ?_ ?_ (by rfl)) <;> (repeat' (first | (exact eqA) | (refine shE ?_) | (refine And.intro ?_ ?_)))
    ·rw [z4F (by omega)] at c2
     have hst := hat.bad hr (fun c => hin ⟨c.1, c.2.1⟩)
     repeat ((try conv => whnf); first | (refine ccA ([]) (c1) ?_) | (refine ccA ([]) (c2) ?_) | (refine stpQ ?_))
     refine hQ1 _ _ ?_
     (try conv => whnf)
     rw [hst]
     (refine z00 (by rfl) ?_ ?_ (by rfl)) <;> (repeat' (first | (exact eqA) | (refine shE ?_) | (refine And.intro ?_ ?_)))
theorem z74 (f : Bs) (hf : (f.length : Int) ≤ 100000000) : CT Tryz.prog 176 [] [.str f] (.tup [.sl 1 (strE (z0Q f).1), .int .i64 ((z0Q f).2 : Int)]) [] := by
 by_cases hlong : 20000 < f.length
 ·have e : z0Q f = ([], 0) := by rw [z0Q, if_pos hlong]
  rw [e]
  refine z01 z0p 1 rfl Tryz.func176 rfl rfl rfl ?_
  repeat ((try conv => whnf); first | (refine stpQ ?_))
  (refine z00 (by rfl) ?_ ?_ (by rfl)) <;> (repeat' (first | (exact eqA) | (refine shE ?_) | (refine And.intro ?_ ?_))) <;> rfl
 have hR0 : UfAt (z0Q f) f (f.length + 1) [] 0 := by
  unfold UfAt
  rw [z0Q, if_neg hlong]; simp
 generalize z0Q f = R at hR0 ⊢
 have hn0 : ¬ (f.length : Int) > 20000 := by omega
 refine z01 z0p 1 rfl Tryz.func176 rfl rfl rfl ?_
 repeat ((try conv => whnf); first | (refine stpQ ?_))
 refine z3V (Nat × Nat × List Bs) (fun x => ⟨[(0, .str f), (4, .ref 1), (5, .int .i64 (x.2.1 : Int))], [(1, some (.row 1 (strE x.2.2)))], 2⟩) (fun x => x.2.1 ≤ f.length ∧ f.length < x.2.1 + x.1 ∧ x.2.2.length ≤ x.2.1 ∧ UfAt R f x.1 x.2.2 x.2.1) (fun x => f.length - x.2.1) (f.length + 1, 0, []) ⟨by simp, by simp, by simp, hR0⟩ ?_ ?_
 ·(refine z02 (by rfl) ?_ ?_) <;> (repeat' (first | (exact eqA) | (refine shE ?_) | (refine And.intro ?_ ?_))) <;> first | rfl | decide
 ·intro Q1 hQ1 x hx
  obtain ⟨k, p, o⟩ := x
  have hp : p ≤ f.length := hx.1
  have hk : f.length < p + k := hx.2.1
  have ho : o.length ≤ p := hx.2.2.1
  have hat : UfAt R f k o p := hx.2.2.2
  clear hx hR0
  have hol := z0H o
  obtain ⟨k, rfl⟩ : ∃ m, k = m + 1 := ⟨k - 1, by omega⟩
  by_cases hpl : p < f.length
  ·have hpl2 : (p : Int) < (f.length : Int) := by omega
   have c1 := zcg f p (by omega) hp
   cases hr : z0u f p with
   | none =>
     rw [hr] at c1
     have hst := hat.stop hr
     repeat ((try conv => whnf); first | (refine ccA ([]) (c1) ?_) | (refine stpQ ?_))
     refine hQ1 _ _ ?_
     (try conv => whnf)
     rw [hst]
     (refine z00 (by rfl) ?_ ?_ (by rfl)) <;> (repeat' (first | (exact eqA) | (refine shE ?_) | (refine And.intro ?_ ?_)))
   | some y =>
     obtain ⟨n, q⟩ := y
     rw [hr] at c1
     have hb := z0V hr
     have e2 : IntKind.i64.wrap ((f.length : Int) - (q : Int)) = ((f.length - q : Nat) : Int) := by rw [wrap_i64 (by omega) (by omega)]; omega
     have e3 : IntKind.i64.wrap (((f.length - q : Nat) : Int) - 4) = ((f.length - q : Nat) : Int) - 4 := by rw [wrap_i64 (by omega) (by omega)]
     by_cases hfit : n + 4 ≤ f.length - q
     ·have hfit2 : ¬ (n : Int) > ((f.length - q : Nat) : Int) - 4 := by omega
      have h3 := cut3 f q n
      have h4 := cut4 f p (q + 4 + n)
      have hiff := zdS hr hfit
      have hlen : ((f.drop (q + 4)).take n).length = n := by rw [List.length_take, List.length_drop]; omega
      have c2 := zbs ((f.drop (q + 4)).take n) (by omega)
      by_cases hin : 1 ≤ n ∧ n ≤ 9000
      ·rw [if_pos (by omega), decide_eq_true (by omega)] at c2
       by_cases hs : (f.drop q).take 4 = z28 (z2h ((f.drop (q + 4)).take n))
       ·have hnx := hat.step hr ⟨hin.1, hin.2, hfit, hs⟩
        have hs2 := hiff.2 hs
        rw [← h4, ← h3] at hs2
        rw [← h3] at c2 hnx
        generalize z1j ((f.take (q + 4 + n)).drop (q + 4)) = fr at c2 hs2
        repeat ((try conv => whnf); first | (refine ccA ([]) (c1) ?_) | (refine Exists.intro p (Exists.intro (q + 4 + n) (And.intro rfl (And.intro rfl (And.intro (show p ≤ q + 4 + n by omega) (And.intro (show q + 4 + n ≤ f.length by omega) ?_)))))) | (refine Exists.intro _ (And.intro e2.symm ?_)) | (refine Exists.intro _ (And.intro e3.symm ?_)) | (refine ccA ([]) (c2) ?_) | (refine z1g hs2 ?_) | (refine And.intro (by simp only [List.length_append, List.length_cons, List.length_nil, List.length_set, List.length_replicate]; omega) ?_) | (refine stpQ ?_))
        refine ⟨(k, q + 4 + n, o ++ [(f.take (q + 4 + n)).drop (q + 4)]), ⟨by show q + 4 + n ≤ f.length; omega, by show f.length < q + 4 + n + k; omega, by show (o ++ [_]).length ≤ q + 4 + n; simp; omega, hnx⟩, by show f.length - (q + 4 + n) < f.length - p; omega, ?_⟩
        (refine z02 (by rfl) ?_ ?_) <;> (repeat' (first | (exact eqA) | (refine shE ?_) | (refine And.intro ?_ ?_)))
        all_goals first
         | exact (z8S o [_]).symm
         | rfl
       ·have hst := hat.bad hr (fun c => hs c.2.2.2)
        have hs2 : ¬ z1j ((f.drop (q + 4)).take n) = (f.drop p).take (q + 4 + n - p) := fun c => hs (hiff.1 c)
        rw [← h4, ← h3] at hs2
        rw [← h3] at c2
        generalize z1j ((f.take (q + 4 + n)).drop (q + 4)) = fr at c2 hs2
        repeat ((try conv => whnf); first | (refine ccA ([]) (c1) ?_) | (refine Exists.intro p (Exists.intro (q + 4 + n) (And.intro rfl (And.intro rfl (And.intro (show p ≤ q + 4 + n by omega) (And.intro (show q + 4 + n ≤ f.length by omega) ?_)))))) | (refine Exists.intro _ (And.intro e2.symm ?_)) | (refine Exists.intro _ (And.intro e3.symm ?_)) | (refine ccA ([]) (c2) ?_) | (refine z2M hs2 ?_) | (refine stpQ ?_))
        refine hQ1 _ _ ?_
        (try conv => whnf)
        rw [hst]
        (refine z00 (by rfl) ?_ ?_ (by rfl)) <;> (repeat' (first | (exact eqA) | (refine shE ?_) | (refine And.intro ?_ ?_)))
      ·rw [if_neg (by omega), decide_eq_false (by omega)] at c2
       have hst := hat.bad hr (fun c => hin ⟨c.1, c.2.1⟩)
       rw [← h3] at c2
       repeat ((try conv => whnf); first | (refine ccA ([]) (c1) ?_) | (refine Exists.intro p (Exists.intro (q + 4 + n) (And.intro rfl (And.intro rfl (And.intro (show p ≤ q + 4 + n by omega) (And.intro (show q + 4 + n ≤ f.length by omega) ?_)))))) | (refine Exists.intro _ (And.intro e2.symm ?_)) | (refine Exists.intro _ (And.intro e3.symm ?_)) | (refine ccA ([]) (c2) ?_) | (refine stpQ ?_))
       refine hQ1 _ _ ?_
       (try conv => whnf)
       rw [hst]
       (refine z00 (by rfl) ?_ ?_ (by rfl)) <;> (repeat' (first | (exact eqA) | (refine shE ?_) | (refine And.intro ?_ ?_)))
     ·have hfit2 : (n : Int) > ((f.length - q : Nat) : Int) - 4 := by omega
      have hst := hat.bad hr (fun c => hfit c.2.2.1)
      repeat ((try conv => whnf); first | (refine ccA ([]) (c1) ?_) | (refine Exists.intro _ (And.intro e2.symm ?_)) | (refine Exists.intro _ (And.intro e3.symm ?_)) | (refine stpQ ?_))
      refine hQ1 _ _ ?_
      (try conv => whnf)
      rw [hst]
      (refine z00 (by rfl) ?_ ?_ (by rfl)) <;> (repeat' (first | (exact eqA) | (refine shE ?_) | (refine And.intro ?_ ?_)))
  ·have hpe : p = f.length := by omega
   have hr : z0u f p = none := by
    cases h : z0u f p with
    | none => rfl
    | some y => have := z0V (n := y.1) (q := y.2) h; omega
   have hst := hat.stop hr
   have hnl : ¬ (p : Int) < (f.length : Int) := by omega
   repeat ((try conv => whnf); first | (refine z0c hnl ?_) | (refine stpQ ?_))
   refine hQ1 _ _ ?_
   repeat ((try conv => whnf); first | (refine stpQ ?_))
   rw [hst]
   (refine z00 (by rfl) ?_ ?_ (by rfl)) <;> (repeat' (first | (exact eqA) | (refine shE ?_) | (refine And.intro ?_ ?_)))
theorem ze2 {l : List Fl} {n : Bs} (hd : z1t l = true) : ((z1H l n).getD []).length ≤ 20000 := by
 cases h : z1H l n with
 | none => simp
 | some t => exact z9V hd h
theorem zch (l : List Fl) (n : Bs) (hf : za1 l) : CT Tryz.prog 117 [] [.agg [.sl 3 (flE l)], .str n] (.sl 1 (strE (z10 l n))) [] := by
 have c1 := zfg l n hf.1
 have c2 := zfe l hf
 unfold z10
 have hd0 := @ze2 l n
 cases hd : z1t l with
 | false =>
   rw [hd] at c2
   rw [if_neg (by simp)]
   generalize z1H l n = o at c1
   cases o with
   | none =>
     refine z01 z0p 1 rfl Tryz.func117 rfl rfl rfl ?_
     repeat ((try conv => whnf); first | (refine ccA ([]) (c1) ?_) | (refine ccA ([]) (c2) ?_) | (refine stpQ ?_))
     (refine z00 (by rfl) ?_ ?_ (by rfl)) <;> (repeat' (first | (exact eqA) | (refine shE ?_) | (refine And.intro ?_ ?_))) <;> rfl
   | some t =>
     refine z01 z0p 1 rfl Tryz.func117 rfl rfl rfl ?_
     repeat ((try conv => whnf); first | (refine ccA ([]) (c1) ?_) | (refine ccA ([]) (c2) ?_) | (refine stpQ ?_))
     (refine z00 (by rfl) ?_ ?_ (by rfl)) <;> (repeat' (first | (exact eqA) | (refine shE ?_) | (refine And.intro ?_ ?_))) <;> rfl
 | true =>
   rw [hd] at c2
   rw [if_pos rfl]
   have hlt := hd0 hd
   generalize z1H l n = o at c1 hlt ⊢
   cases o with
   | none =>
     have e : (z0Q ((none : Option Bs).getD [])).1 = [] := by decide
     rw [e]
     refine z01 z0p 1 rfl Tryz.func117 rfl rfl rfl ?_
     repeat ((try conv => whnf); first | (refine ccA ([]) (c1) ?_) | (refine ccA ([]) (c2) ?_) | (refine stpQ ?_))
     (refine z00 (by rfl) ?_ ?_ (by rfl)) <;> (repeat' (first | (exact eqA) | (refine shE ?_) | (refine And.intro ?_ ?_))) <;> rfl
   | some t =>
     have hlt2 : t.length ≤ 20000 := hlt
     have c3 := ze1 t (by omega)
     show CT _ _ _ _ (.sl 1 (strE (z0Q t).1)) []
     generalize z0Q t = R at c3 ⊢
     obtain ⟨Ra, Rb⟩ := R
     refine z01 z0p 1 rfl Tryz.func117 rfl rfl rfl ?_
     repeat ((try conv => whnf); first | (refine ccA ([]) (c1) ?_) | (refine ccA ([]) (c2) ?_) | (refine ccA ([]) (c3) ?_) | (refine stpQ ?_))
     (refine z00 (by rfl) ?_ ?_ (by rfl)) <;> (repeat' (first | (exact eqA) | (refine shE ?_) | (refine And.intro ?_ ?_)))
theorem za3 (l : List Fl) (n : Bs) (hf : za1 l) : CT Tryz.prog 147 [] [.agg [.sl 3 (flE l)], .str n] (.sl 1 (strE (z10 l n))) [] := by
 have c1 := ze0 l n hf.1
 have c2 := z3h l hf
 have hff := (z2v l n).2
 unfold z10 at hff ⊢
 have hd0 := @ze2 l n
 cases hd : z1t l with
 | false =>
   rw [hd] at c2
   rw [if_neg (by simp)]
   refine z01 z0p 1 rfl Tryz.func147 rfl rfl rfl ?_
   repeat ((try conv => whnf); first | (refine ccA ([]) (c2) ?_) | (refine stpQ ?_))
   (refine z00 (by rfl) ?_ ?_ (by rfl)) <;> (repeat' (first | (exact eqA) | (refine shE ?_) | (refine And.intro ?_ ?_))) <;> rfl
 | true =>
   rw [hd] at c2
   rw [hd, if_pos rfl] at hff
   rw [if_pos rfl]
   have hlt := hd0 hd
   generalize z1H l n = o at c1 hlt hff ⊢
   cases o with
   | none =>
     have c3 := z74 [] (by simp)
     have hff2 : (z0Q []).1.length ≤ 20001 := hff
     show CT _ _ _ _ (.sl 1 (strE (z0Q []).1)) []
     generalize z0Q [] = R at c3 hff2 ⊢
     obtain ⟨Ra, Rb⟩ := R
     have hra := z0H Ra
     have hff3 : Ra.length ≤ 20001 := hff2
     change CT _ _ _ _ (.tup [.sl 1 (strE Ra), .int .i64 (Rb : Int)]) _ at c3
     refine z01 z0p 1 rfl Tryz.func147 rfl rfl rfl ?_
     repeat ((try conv => whnf); first | (refine ccA ([]) (c1) ?_) | (refine ccA ([]) (c2) ?_) | (refine ccA ([]) (c3) ?_) | (refine And.intro (by simp only [List.length_append, List.length_cons, List.length_nil, List.nil_append, List.length_replicate]; omega) ?_) | (refine stpQ ?_))
     (refine z00 (by rfl) ?_ ?_ (by rfl)) <;> (repeat' (first | (exact eqA) | (refine shE ?_) | (refine And.intro ?_ ?_)))
   | some t =>
     have hlt2 : t.length ≤ 20000 := hlt
     have c3 := z74 t (by omega)
     have hff2 : (z0Q t).1.length ≤ 20001 := hff
     show CT _ _ _ _ (.sl 1 (strE (z0Q t).1)) []
     generalize z0Q t = R at c3 hff2 ⊢
     obtain ⟨Ra, Rb⟩ := R
     have hra := z0H Ra
     have hff3 : Ra.length ≤ 20001 := hff2
     change CT _ _ _ _ (.tup [.sl 1 (strE Ra), .int .i64 (Rb : Int)]) _ at c3
     refine z01 z0p 1 rfl Tryz.func147 rfl rfl rfl ?_
     repeat ((try conv => whnf); first | (refine ccA ([]) (c1) ?_) | (refine ccA ([]) (c2) ?_) | (refine ccA ([]) (c3) ?_) | (refine And.intro (by simp only [List.length_append, List.length_cons, List.length_nil, List.nil_append, List.length_replicate]; omega) ?_) | (refine stpQ ?_))
     (refine z00 (by rfl) ?_ ?_ (by rfl)) <;> (repeat' (first | (exact eqA) | (refine shE ?_) | (refine And.intro ?_ ?_)))
end Go.Proofs.YtfjbinbpgdiafaaGreatDoor
