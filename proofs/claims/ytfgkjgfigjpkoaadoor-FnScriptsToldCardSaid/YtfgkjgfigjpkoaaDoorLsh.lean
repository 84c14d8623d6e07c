/- Functions by content: a move's line, read by the reference. -/
import Derived.Test.YtfgkjgfigjpkoaaDoorRdm
import Derived.Test.YtfgkjgfigjpkoaaDoorRdn
namespace Go.Proofs.YtfgkjgfigjpkoaaDoor
set_option maxRecDepth 100000
set_option maxHeartbeats 2000000
set_option linter.unusedVariables false
set_option linter.unusedSimpArgs false
set_option linter.unusedSectionVars false
open Go.RowKit Pl
def szM : List (List T) := [[.int .i64 5], [.int .i64 2], [.int .i64 2], [.int .i64 2], [.int .i64 3], [.int .i64 3], [.int .i64 3], [.int .i64 3], [.int .i64 4], [.int .i64 3]]
theorem z0R : ∀ j, j < 10 → szM[j]? = some [.int .i64 ((mvN j : Nat) : Int)] := by
 intro j hj
 obtain rfl | rfl | rfl | rfl | rfl | rfl | rfl | rfl | rfl | rfl : j = 0 ∨ j = 1 ∨ j = 2 ∨ j = 3 ∨ j = 4 ∨ j = 5 ∨ j = 6 ∨ j = 7 ∨ j = 8 ∨ j = 9 := by omega
 all_goals rfl
section
attribute [local irreducible] z0t z0u z0C AnsP LeP W
theorem z96 (p : List Bs) (h0 : 0 < p.length) (hn : ∀ j, j < 10 → mvL.getD j [] = pt p 0 → ¬ p.length = mvN j) : CT Tryd.prog 45 [] [.sl 1 (strE p)] (.tup [.agg (evC {}), .bool false]) [] := by
 have g0 := z0g h0
 have hcl : (strE p).length = p.length := z0h p
 have hskip : ∀ x, x < 10 → (¬ pt p 0 = mvL.getD x []) ∨ (pt p 0 = mvL.getD x [] ∧ ¬ ((strE p).length : Int) = ((mvN x : Nat) : Int)) := fun x hx => by
  by_cases h : pt p 0 = mvL.getD x []
  ·exact .inr ⟨h, by have := hn x hx h.symm; omega⟩
  ·exact .inl h
 clear hn h0 hcl
 generalize pt p 0 = w at *
 generalize strE p = z at *
 refine z0d z0f 1 rfl Tryd.func45 rfl rfl rfl ?_
 conv => arg 6; whnf
 repeat ((try conv => whnf); first | (with_reducible first | refine z08 (fun Qs hN hE hR => ?_) | refine z06 ?_ | refine z00 (fun Qb kN kE kX kR => ?_) | refine z02 ?_ | refine z03 ?_ | refine z07 ?_ | refine z04 ?_ | refine z05 ?_ | (show W _ _ _ (.cond _ _ _) _ _; refine z01 rfl ?_) | (refine hN _ ?_; try clear hN hE hR Qs) | ((first | refine hE _ _ ?_ | refine hR _ ?_); try clear hN hE hR Qs) | ((first | refine kN _ ?_ | refine kE _ ?_ | refine kX _ _ rfl ?_ | refine kR _ ?_); try clear kN kE kX kR Qb)) | (refine And.intro (by kernel_rfl) ?_) | (refine stpQ ?_))
 refine z0p Nat (fun x => ⟨[(0, .sl 1 z), (2, .ptr 1 0 0), (4, .ref 2), (5, .ref 3), (6, .int .i64 (x : Int))], [(1, some (.box zEv)), (2, some (.row 1 (strE mvL))), (3, some (.row 1 szM))], 4⟩) (fun x => x ≤ 10) (fun x => 10 + 1 - x) 0 (by omega) ?_ ?_
 ·(refine z0a (by rfl) ?_ ?_) <;> (repeat' (first | (exact eqA) | (refine And.intro ?_ ?_) | ((fail_if_success (with_reducible (show _ = _))); (show _ = _)))) <;> first | rfl | decide
 ·intro Q1 hQ1 x hx
  by_cases hxj : x < 10
  ·have i1 : x < (strE mvL).length := by show x < 10; omega
   have i2 : x < szM.length := by show x < 10; omega
   have f1 : (x : Int) < ((strE mvL).length : Int) := by show (x : Int) < 10; omega
   have gw : (strE mvL)[x]? = some [.str (mvL.getD x [])] := by rw [strE, List.getElem?_map, List.getD, List.getElem?_eq_getElem (show x < mvL.length from i2)]; rfl
   have gs := z0R x (by omega)
   rcases hskip x hxj with hne | ⟨heq, hne⟩
   ·clear hskip
    repeat ((try conv => whnf); first | (with_reducible first | refine z08 (fun Qs hN hE hR => ?_) | refine z06 ?_ | refine z00 (fun Qb kN kE kX kR => ?_) | refine z02 ?_ | refine z03 ?_ | refine z07 ?_ | refine z04 ?_ | refine z05 ?_ | (show W _ _ _ (.cond _ _ _) _ _; refine z01 rfl ?_) | (refine hN _ ?_; try clear hN hE hR Qs) | ((first | refine hE _ _ ?_ | refine hR _ ?_); try clear hN hE hR Qs) | ((first | refine kN _ ?_ | refine kE _ ?_ | refine kX _ _ rfl ?_ | refine kR _ ?_); try clear kN kE kX kR Qb)) | (refine z0b f1 ?_) | (refine And.intro i1 ?_) | (refine And.intro i2 ?_) | (refine Exists.intro _ (And.intro gw ?_)) | (refine i_at g0 ?_) | (refine z0r hne ?_) | (refine And.intro (by kernel_rfl) ?_) | (refine stpQ ?_))
    refine ⟨x + 1, by omega, by omega, ?_⟩
    (refine z0a (by rfl) ?_ ?_) <;> (repeat' (first | (exact eqA) | (refine And.intro ?_ ?_) | ((fail_if_success (with_reducible (show _ = _))); (show _ = _))))
   ·clear hskip
    repeat ((try conv => whnf); first | (with_reducible first | refine z08 (fun Qs hN hE hR => ?_) | refine z06 ?_ | refine z00 (fun Qb kN kE kX kR => ?_) | refine z02 ?_ | refine z03 ?_ | refine z07 ?_ | refine z04 ?_ | refine z05 ?_ | (show W _ _ _ (.cond _ _ _) _ _; refine z01 rfl ?_) | (refine hN _ ?_; try clear hN hE hR Qs) | ((first | refine hE _ _ ?_ | refine hR _ ?_); try clear hN hE hR Qs) | ((first | refine kN _ ?_ | refine kE _ ?_ | refine kX _ _ rfl ?_ | refine kR _ ?_); try clear kN kE kX kR Qb)) | (refine z0b f1 ?_) | (refine And.intro i1 ?_) | (refine And.intro i2 ?_) | (refine Exists.intro _ (And.intro gw ?_)) | (refine Exists.intro _ (And.intro gs ?_)) | (refine i_at g0 ?_) | (refine z0j heq ?_) | (refine z0r hne ?_) | (refine And.intro (by kernel_rfl) ?_) | (refine stpQ ?_))
    refine ⟨x + 1, by omega, by omega, ?_⟩
    (refine z0a (by rfl) ?_ ?_) <;> (repeat' (first | (exact eqA) | (refine And.intro ?_ ?_) | ((fail_if_success (with_reducible (show _ = _))); (show _ = _))))
  ·obtain rfl : x = 10 := by omega
   have f1 : ¬ ((10 : Nat) : Int) < ((strE mvL).length : Int) := by show ¬ (10 : Int) < 10; omega
   clear hskip
   repeat ((try conv => whnf); first | (with_reducible first | refine z08 (fun Qs hN hE hR => ?_) | refine z06 ?_ | refine z00 (fun Qb kN kE kX kR => ?_) | refine z02 ?_ | refine z03 ?_ | refine z07 ?_ | refine z04 ?_ | refine z05 ?_ | (show W _ _ _ (.cond _ _ _) _ _; refine z01 rfl ?_) | (refine hN _ ?_; try clear hN hE hR Qs) | ((first | refine hE _ _ ?_ | refine hR _ ?_); try clear hN hE hR Qs) | ((first | refine kN _ ?_ | refine kE _ ?_ | refine kX _ _ rfl ?_ | refine kR _ ?_); try clear kN kE kX kR Qb)) | (refine z0c f1 ?_) | (refine stpQ ?_))
   refine hQ1 _ _ ?_
   clear hQ1 Q1
   repeat ((try conv => whnf); first | (with_reducible first | refine z08 (fun Qs hN hE hR => ?_) | refine z06 ?_ | refine z00 (fun Qb kN kE kX kR => ?_) | refine z02 ?_ | refine z03 ?_ | refine z07 ?_ | refine z04 ?_ | refine z05 ?_ | (show W _ _ _ (.cond _ _ _) _ _; refine z01 rfl ?_) | (refine hN _ ?_; try clear hN hE hR Qs) | ((first | refine hE _ _ ?_ | refine hR _ ?_); try clear hN hE hR Qs) | ((first | refine kN _ ?_ | refine kE _ ?_ | refine kX _ _ rfl ?_ | refine kR _ ?_); try clear kN kE kX kR Qb)) | (refine stpQ ?_))
   (refine z09 (by rfl) ?_ ?_ (by rfl)) <;> (repeat' (first | (exact eqA) | (refine And.intro ?_ ?_) | ((fail_if_success (with_reducible (show _ = _))); (show _ = _))))
theorem za6 (p : List Bs) (j : Nat) (hj : j = 0) (h4 : pt p 4 = [45]) (hw : mvL.getD j [] = pt p 0) (hl : p.length = mvN j) : CT Tryd.prog 45 [] [.sl 1 (strE p)] (.tup [.agg (evC (mvE j p)), .bool (mvB j p)]) [] := by
 subst hj
 have hl : p.length = 5 := hl.trans rfl
 have g0 := z0g (p := p) (i := 0) (by omega)
 have g1 := z0g (p := p) (i := 1) (by omega)
 have g2 := z0g (p := p) (i := 2) (by omega)
 have g3 := z0g (p := p) (i := 3) (by omega)
 have g4 := z0g (p := p) (i := 4) (by omega)
 have hcl : ((strE p).length : Int) = ((mvN 0 : Nat) : Int) := by rw [z0h, hl]; rfl
 have n1 := z0e (pt p 1)
 have n2 := z0e (pt p 2)
 have hM : mvB 0 p = (isB (pt p 1) && isB (pt p 2)) := by simp [mvB]
 have hE : mvE 0 p = { k := 1, h := decV (pt p 1), mk := ((0 + 1 : Nat) : Int), ci := decV (pt p 2), cn := pt p 3 } := by simp [mvE, h4]
 rw [hM, hE]
 clear hM hE hl
 have hskip : ∀ x, x < 0 → (¬ pt p 0 = mvL.getD x []) ∨ (pt p 0 = mvL.getD x [] ∧ ¬ ((strE p).length : Int) = ((mvN x : Nat) : Int)) := fun x hx => .inl fun c => z2I 0 (by decide) x hx (c.symm.trans hw.symm)
 generalize (decV (pt p 1) : Int) = v1 at *
 generalize isB (pt p 1) = b1 at *
 generalize (decV (pt p 2) : Int) = v2 at *
 generalize isB (pt p 2) = b2 at *
 generalize pt p 3 = s3 at *
 generalize pt p 4 = s4 at *
 have he : pt p 0 = mvL.getD 0 [] := hw.symm
 clear hw
 generalize pt p 0 = w at *
 generalize strE p = z at *
 refine z0d z0f 1 rfl Tryd.func45 rfl rfl rfl ?_
 conv => arg 6; whnf
 repeat ((try conv => whnf); first | (with_reducible first | refine z08 (fun Qs hN hE hR => ?_) | refine z06 ?_ | refine z00 (fun Qb kN kE kX kR => ?_) | refine z02 ?_ | refine z03 ?_ | refine z07 ?_ | refine z04 ?_ | refine z05 ?_ | (show W _ _ _ (.cond _ _ _) _ _; refine z01 rfl ?_) | (refine hN _ ?_; try clear hN hE hR Qs) | ((first | refine hE _ _ ?_ | refine hR _ ?_); try clear hN hE hR Qs) | ((first | refine kN _ ?_ | refine kE _ ?_ | refine kX _ _ rfl ?_ | refine kR _ ?_); try clear kN kE kX kR Qb)) | (refine And.intro (by kernel_rfl) ?_) | (refine stpQ ?_))
 refine z0p Nat (fun x => ⟨[(0, .sl 1 z), (2, .ptr 1 0 0), (4, .ref 2), (5, .ref 3), (6, .int .i64 (x : Int))], [(1, some (.box zEv)), (2, some (.row 1 (strE mvL))), (3, some (.row 1 szM))], 4⟩) (fun x => x ≤ 0) (fun x => 0 + 1 - x) 0 (by omega) ?_ ?_
 ·(refine z0a (by rfl) ?_ ?_) <;> (repeat' (first | (exact eqA) | (refine And.intro ?_ ?_) | ((fail_if_success (with_reducible (show _ = _))); (show _ = _)))) <;> first | rfl | decide
 ·intro Q1 hQ1 x hx
  by_cases hxj : x < 0
  ·have i1 : x < (strE mvL).length := by show x < 10; omega
   have i2 : x < szM.length := by show x < 10; omega
   have f1 : (x : Int) < ((strE mvL).length : Int) := by show (x : Int) < 10; omega
   have gw : (strE mvL)[x]? = some [.str (mvL.getD x [])] := by rw [strE, List.getElem?_map, List.getD, List.getElem?_eq_getElem (show x < mvL.length from i2)]; rfl
   have gs := z0R x (by omega)
   rcases hskip x hxj with hne | ⟨heq, hne⟩
   ·clear hskip
    repeat ((try conv => whnf); first | (with_reducible first | refine z08 (fun Qs hN hE hR => ?_) | refine z06 ?_ | refine z00 (fun Qb kN kE kX kR => ?_) | refine z02 ?_ | refine z03 ?_ | refine z07 ?_ | refine z04 ?_ | refine z05 ?_ | (show W _ _ _ (.cond _ _ _) _ _; refine z01 rfl ?_) | (refine hN _ ?_; try clear hN hE hR Qs) | ((first | refine hE _ _ ?_ | refine hR _ ?_); try clear hN hE hR Qs) | ((first | refine kN _ ?_ | refine kE _ ?_ | refine kX _ _ rfl ?_ | refine kR _ ?_); try clear kN kE kX kR Qb)) | (refine z0b f1 ?_) | (refine And.intro i1 ?_) | (refine And.intro i2 ?_) | (refine Exists.intro _ (And.intro gw ?_)) | (refine i_at g0 ?_) | (refine z0r hne ?_) | (refine And.intro (by kernel_rfl) ?_) | (refine stpQ ?_))
    refine ⟨x + 1, by omega, by omega, ?_⟩
    (refine z0a (by rfl) ?_ ?_) <;> (repeat' (first | (exact eqA) | (refine And.intro ?_ ?_) | ((fail_if_success (with_reducible (show _ = _))); (show _ = _))))
   ·clear hskip
    repeat ((try conv => whnf); first | (with_reducible first | refine z08 (fun Qs hN hE hR => ?_) | refine z06 ?_ | refine z00 (fun Qb kN kE kX kR => ?_) | refine z02 ?_ | refine z03 ?_ | refine z07 ?_ | refine z04 ?_ | refine z05 ?_ | (show W _ _ _ (.cond _ _ _) _ _; refine z01 rfl ?_) | (refine hN _ ?_; try clear hN hE hR Qs) | ((first | refine hE _ _ ?_ | refine hR _ ?_); try clear hN hE hR Qs) | ((first | refine kN _ ?_ | refine kE _ ?_ | refine kX _ _ rfl ?_ | refine kR _ ?_); try clear kN kE kX kR Qb)) | (refine z0b f1 ?_) | (refine And.intro i1 ?_) | (refine And.intro i2 ?_) | (refine Exists.intro _ (And.intro gw ?_)) | (refine Exists.intro _ (And.intro gs ?_)) | (refine i_at g0 ?_) | (refine z0j heq ?_) | (refine z0r hne ?_) | (refine And.intro (by kernel_rfl) ?_) | (refine stpQ ?_))
    refine ⟨x + 1, by omega, by omega, ?_⟩
    (refine z0a (by rfl) ?_ ?_) <;> (repeat' (first | (exact eqA) | (refine And.intro ?_ ?_) | ((fail_if_success (with_reducible (show _ = _))); (show _ = _))))
  ·obtain rfl : x = 0 := by omega
   have i1 : 0 < (strE mvL).length := by decide
   have i2 : 0 < szM.length := by decide
   have f1 : ((0 : Nat) : Int) < ((strE mvL).length : Int) := by decide
   have gw : (strE mvL)[0]? = some [.str (mvL.getD 0 [])] := rfl
   have gs := z0R 0 (by omega)
   clear hskip hxj hx
   cases b2
   ·repeat ((try conv => whnf); first | (with_reducible first | refine z08 (fun Qs hN hE hR => ?_) | refine z06 ?_ | refine z00 (fun Qb kN kE kX kR => ?_) | refine z02 ?_ | refine z03 ?_ | refine z07 ?_ | refine z04 ?_ | refine z05 ?_ | (show W _ _ _ (.cond _ _ _) _ _; refine z01 rfl ?_) | (refine hN _ ?_; try clear hN hE hR Qs) | ((first | refine hE _ _ ?_ | refine hR _ ?_); try clear hN hE hR Qs) | ((first | refine kN _ ?_ | refine kE _ ?_ | refine kX _ _ rfl ?_ | refine kR _ ?_); try clear kN kE kX kR Qb)) | (refine z0b f1 ?_) | (refine And.intro i1 ?_) | (refine And.intro i2 ?_) | (refine Exists.intro _ (And.intro gw ?_)) | (refine Exists.intro _ (And.intro gs ?_)) | (refine i_at g0 ?_) | (refine i_at g1 ?_) | (refine i_at g2 ?_) | (refine i_at g3 ?_) | (refine i_at g4 ?_) | (refine z0j he ?_) | (refine z0j hcl ?_) | (refine And.intro (by kernel_rfl) ?_) | (refine ccA ([]) (n1) ?_) | (refine ccA ([]) (n2) ?_) | (refine z0b h4 ?_) | (refine stpQ ?_))
    refine hQ1 _ _ ?_
    clear hQ1 Q1
    repeat ((try conv => whnf); first | (with_reducible first | refine z08 (fun Qs hN hE hR => ?_) | refine z06 ?_ | refine z00 (fun Qb kN kE kX kR => ?_) | refine z02 ?_ | refine z03 ?_ | refine z07 ?_ | refine z04 ?_ | refine z05 ?_ | (show W _ _ _ (.cond _ _ _) _ _; refine z01 rfl ?_) | (refine hN _ ?_; try clear hN hE hR Qs) | ((first | refine hE _ _ ?_ | refine hR _ ?_); try clear hN hE hR Qs) | ((first | refine kN _ ?_ | refine kE _ ?_ | refine kX _ _ rfl ?_ | refine kR _ ?_); try clear kN kE kX kR Qb)) | (refine stpQ ?_))
    (refine z09 (by rfl) ?_ ?_ (by rfl)) <;> (repeat' (first | (exact eqA) | (refine And.intro ?_ ?_) | ((fail_if_success (with_reducible (show _ = _))); (show _ = _)))) <;> first | rfl | (cases b1 <;> rfl)
   ·repeat ((try conv => whnf); first | (with_reducible first | refine z08 (fun Qs hN hE hR => ?_) | refine z06 ?_ | refine z00 (fun Qb kN kE kX kR => ?_) | refine z02 ?_ | refine z03 ?_ | refine z07 ?_ | refine z04 ?_ | refine z05 ?_ | (show W _ _ _ (.cond _ _ _) _ _; refine z01 rfl ?_) | (refine hN _ ?_; try clear hN hE hR Qs) | ((first | refine hE _ _ ?_ | refine hR _ ?_); try clear hN hE hR Qs) | ((first | refine kN _ ?_ | refine kE _ ?_ | refine kX _ _ rfl ?_ | refine kR _ ?_); try clear kN kE kX kR Qb)) | (refine z0b f1 ?_) | (refine And.intro i1 ?_) | (refine And.intro i2 ?_) | (refine Exists.intro _ (And.intro gw ?_)) | (refine Exists.intro _ (And.intro gs ?_)) | (refine i_at g0 ?_) | (refine i_at g1 ?_) | (refine i_at g2 ?_) | (refine i_at g3 ?_) | (refine i_at g4 ?_) | (refine z0j he ?_) | (refine z0j hcl ?_) | (refine And.intro (by kernel_rfl) ?_) | (refine ccA ([]) (n1) ?_) | (refine ccA ([]) (n2) ?_) | (refine z0b h4 ?_) | (refine stpQ ?_))
    refine hQ1 _ _ ?_
    clear hQ1 Q1
    repeat ((try conv => whnf); first | (with_reducible first | refine z08 (fun Qs hN hE hR => ?_) | refine z06 ?_ | refine z00 (fun Qb kN kE kX kR => ?_) | refine z02 ?_ | refine z03 ?_ | refine z07 ?_ | refine z04 ?_ | refine z05 ?_ | (show W _ _ _ (.cond _ _ _) _ _; refine z01 rfl ?_) | (refine hN _ ?_; try clear hN hE hR Qs) | ((first | refine hE _ _ ?_ | refine hR _ ?_); try clear hN hE hR Qs) | ((first | refine kN _ ?_ | refine kE _ ?_ | refine kX _ _ rfl ?_ | refine kR _ ?_); try clear kN kE kX kR Qb)) | (refine stpQ ?_))
    (refine z09 (by rfl) ?_ ?_ (by rfl)) <;> (repeat' (first | (exact eqA) | (refine And.intro ?_ ?_) | ((fail_if_success (with_reducible (show _ = _))); (show _ = _)))) <;> first | rfl | (cases b1 <;> rfl)
theorem za7 (p : List Bs) (j : Nat) (hj : j = 0) (h4 : ¬ pt p 4 = [45]) (hw : mvL.getD j [] = pt p 0) (hl : p.length = mvN j) : CT Tryd.prog 45 [] [.sl 1 (strE p)] (.tup [.agg (evC (mvE j p)), .bool (mvB j p)]) [] := by
 subst hj
 have hl : p.length = 5 := hl.trans rfl
 have g0 := z0g (p := p) (i := 0) (by omega)
 have g1 := z0g (p := p) (i := 1) (by omega)
 have g2 := z0g (p := p) (i := 2) (by omega)
 have g3 := z0g (p := p) (i := 3) (by omega)
 have g4 := z0g (p := p) (i := 4) (by omega)
 have hcl : ((strE p).length : Int) = ((mvN 0 : Nat) : Int) := by rw [z0h, hl]; rfl
 have n1 := z0e (pt p 1)
 have n2 := z0e (pt p 2)
 have hM : mvB 0 p = (isB (pt p 1) && isB (pt p 2)) := by simp [mvB]
 have hE : mvE 0 p = { k := 1, h := decV (pt p 1), mk := ((0 + 1 : Nat) : Int), ci := decV (pt p 2), cn := pt p 3, cv := pt p 4 } := by simp [mvE, h4]
 rw [hM, hE]
 clear hM hE hl
 have hskip : ∀ x, x < 0 → (¬ pt p 0 = mvL.getD x []) ∨ (pt p 0 = mvL.getD x [] ∧ ¬ ((strE p).length : Int) = ((mvN x : Nat) : Int)) := fun x hx => .inl fun c => z2I 0 (by decide) x hx (c.symm.trans hw.symm)
 generalize (decV (pt p 1) : Int) = v1 at *
 generalize isB (pt p 1) = b1 at *
 generalize (decV (pt p 2) : Int) = v2 at *
 generalize isB (pt p 2) = b2 at *
 generalize pt p 3 = s3 at *
 generalize pt p 4 = s4 at *
 have he : pt p 0 = mvL.getD 0 [] := hw.symm
 clear hw
 generalize pt p 0 = w at *
 generalize strE p = z at *
 refine z0d z0f 1 rfl Tryd.func45 rfl rfl rfl ?_
 conv => arg 6; whnf
 repeat ((try conv => whnf); first | (with_reducible first | refine z08 (fun Qs hN hE hR => ?_) | refine z06 ?_ | refine z00 (fun Qb kN kE kX kR => ?_) | refine z02 ?_ | refine z03 ?_ | refine z07 ?_ | refine z04 ?_ | refine z05 ?_ | (show W _ _ _ (.cond _ _ _) _ _; refine z01 rfl ?_) | (refine hN _ ?_; try clear hN hE hR Qs) | ((first | refine hE _ _ ?_ | refine hR _ ?_); try clear hN hE hR Qs) | ((first | refine kN _ ?_ | refine kE _ ?_ | refine kX _ _ rfl ?_ | refine kR _ ?_); try clear kN kE kX kR Qb)) | (refine And.intro (by kernel_rfl) ?_) | (refine stpQ ?_))
 refine z0p Nat (fun x => ⟨[(0, .sl 1 z), (2, .ptr 1 0 0), (4, .ref 2), (5, .ref 3), (6, .int .i64 (x : Int))], [(1, some (.box zEv)), (2, some (.row 1 (strE mvL))), (3, some (.row 1 szM))], 4⟩) (fun x => x ≤ 0) (fun x => 0 + 1 - x) 0 (by omega) ?_ ?_
 ·(refine z0a (by rfl) ?_ ?_) <;> (repeat' (first | (exact eqA) | (refine And.intro ?_ ?_) | ((fail_if_success (with_reducible (show _ = _))); (show _ = _)))) <;> first | rfl | decide
 ·intro Q1 hQ1 x hx
  by_cases hxj : x < 0
  ·have i1 : x < (strE mvL).length := by show x < 10; omega
   have i2 : x < szM.length := by show x < 10; omega
   have f1 : (x : Int) < ((strE mvL).length : Int) := by show (x : Int) < 10; omega
   have gw : (strE mvL)[x]? = some [.str (mvL.getD x [])] := by rw [strE, List.getElem?_map, List.getD, List.getElem?_eq_getElem (show x < mvL.length from i2)]; rfl
   have gs := z0R x (by omega)
   rcases hskip x hxj with hne | ⟨heq, hne⟩
   ·clear hskip
    repeat ((try conv => whnf); first | (with_reducible first | refine z08 (fun Qs hN hE hR => ?_) | refine z06 ?_ | refine z00 (fun Qb kN kE kX kR => ?_) | refine z02 ?_ | refine z03 ?_ | refine z07 ?_ | refine z04 ?_ | refine z05 ?_ | (show W _ _ _ (.cond _ _ _) _ _; refine z01 rfl ?_) | (refine hN _ ?_; try clear hN hE hR Qs) | ((first | refine hE _ _ ?_ | refine hR _ ?_); try clear hN hE hR Qs) | ((first | refine kN _ ?_ | refine kE _ ?_ | refine kX _ _ rfl ?_ | refine kR _ ?_); try clear kN kE kX kR Qb)) | (refine z0b f1 ?_) | (refine And.intro i1 ?_) | (refine And.intro i2 ?_) | (refine Exists.intro _ (And.intro gw ?_)) | (refine i_at g0 ?_) | (refine z0r hne ?_) | (refine And.intro (by kernel_rfl) ?_) | (refine stpQ ?_))
    refine ⟨x + 1, by omega, by omega, ?_⟩
    (refine z0a (by rfl) ?_ ?_) <;> (repeat' (first | (exact eqA) | (refine And.intro ?_ ?_) | ((fail_if_success (with_reducible (show _ = _))); (show _ = _))))
   ·clear hskip
    repeat ((try conv => whnf); first | (with_reducible first | refine z08 (fun Qs hN hE hR => ?_) | refine z06 ?_ | refine z00 (fun Qb kN kE kX kR => ?_) | refine z02 ?_ | refine z03 ?_ | refine z07 ?_ | refine z04 ?_ | refine z05 ?_ | (show W _ _ _ (.cond _ _ _) _ _; refine z01 rfl ?_) | (refine hN _ ?_; try clear hN hE hR Qs) | ((first | refine hE _ _ ?_ | refine hR _ ?_); try clear hN hE hR Qs) | ((first | refine kN _ ?_ | refine kE _ ?_ | refine kX _ _ rfl ?_ | refine kR _ ?_); try clear kN kE kX kR Qb)) | (refine z0b f1 ?_) | (refine And.intro i1 ?_) | (refine And.intro i2 ?_) | (refine Exists.intro _ (And.intro gw ?_)) | (refine Exists.intro _ (And.intro gs ?_)) | (refine i_at g0 ?_) | (refine z0j heq ?_) | (refine z0r hne ?_) | (refine And.intro (by kernel_rfl) ?_) | (refine stpQ ?_))
    refine ⟨x + 1, by omega, by omega, ?_⟩
    (refine z0a (by rfl) ?_ ?_) <;> (repeat' (first | (exact eqA) | (refine And.intro ?_ ?_) | ((fail_if_success (with_reducible (show _ = _))); (show _ = _))))
  ·obtain rfl : x = 0 := by omega
   have i1 : 0 < (strE mvL).length := by decide
   have i2 : 0 < szM.length := by decide
   have f1 : ((0 : Nat) : Int) < ((strE mvL).length : Int) := by decide
   have gw : (strE mvL)[0]? = some [.str (mvL.getD 0 [])] := rfl
   have gs := z0R 0 (by omega)
   clear hskip hxj hx
   cases b2
   ·repeat ((try conv => whnf); first | (with_reducible first | refine z08 (fun Qs hN hE hR => ?_) | refine z06 ?_ | refine z00 (fun Qb kN kE kX kR => ?_) | refine z02 ?_ | refine z03 ?_ | refine z07 ?_ | refine z04 ?_ | refine z05 ?_ | (show W _ _ _ (.cond _ _ _) _ _; refine z01 rfl ?_) | (refine hN _ ?_; try clear hN hE hR Qs) | ((first | refine hE _ _ ?_ | refine hR _ ?_); try clear hN hE hR Qs) | ((first | refine kN _ ?_ | refine kE _ ?_ | refine kX _ _ rfl ?_ | refine kR _ ?_); try clear kN kE kX kR Qb)) | (refine z0b f1 ?_) | (refine And.intro i1 ?_) | (refine And.intro i2 ?_) | (refine Exists.intro _ (And.intro gw ?_)) | (refine Exists.intro _ (And.intro gs ?_)) | (refine i_at g0 ?_) | (refine i_at g1 ?_) | (refine i_at g2 ?_) | (refine i_at g3 ?_) | (refine i_at g4 ?_) | (refine z0j he ?_) | (refine z0j hcl ?_) | (refine And.intro (by kernel_rfl) ?_) | (refine ccA ([]) (n1) ?_) | (refine ccA ([]) (n2) ?_) | (refine z0c h4 ?_) | (refine stpQ ?_))
    refine hQ1 _ _ ?_
    clear hQ1 Q1
    repeat ((try conv => whnf); first | (with_reducible first | refine z08 (fun Qs hN hE hR => ?_) | refine z06 ?_ | refine z00 (fun Qb kN kE kX kR => ?_) | refine z02 ?_ | refine z03 ?_ | refine z07 ?_ | refine z04 ?_ | refine z05 ?_ | (show W _ _ _ (.cond _ _ _) _ _; refine z01 rfl ?_) | (refine hN _ ?_; try clear hN hE hR Qs) | ((first | refine hE _ _ ?_ | refine hR _ ?_); try clear hN hE hR Qs) | ((first | refine kN _ ?_ | refine kE _ ?_ | refine kX _ _ rfl ?_ | refine kR _ ?_); try clear kN kE kX kR Qb)) | (refine stpQ ?_))
    (refine z09 (by rfl) ?_ ?_ (by rfl)) <;> (repeat' (first | (exact eqA) | (refine And.intro ?_ ?_) | ((fail_if_success (with_reducible (show _ = _))); (show _ = _)))) <;> first | rfl | (cases b1 <;> rfl)
   ·repeat ((try conv => whnf); first | (with_reducible first | refine z08 (fun Qs hN hE hR => ?_) | refine z06 ?_ | refine z00 (fun Qb kN kE kX kR => ?_) | refine z02 ?_ | refine z03 ?_ | refine z07 ?_ | refine z04 ?_ | refine z05 ?_ | (show W _ _ _ (.cond _ _ _) _ _; refine z01 rfl ?_) | (refine hN _ ?_; try clear hN hE hR Qs) | ((first | refine hE _ _ ?_ | refine hR _ ?_); try clear hN hE hR Qs) | ((first | refine kN _ ?_ | refine kE _ ?_ | refine kX _ _ rfl ?_ | refine kR _ ?_); try clear kN kE kX kR Qb)) | (refine z0b f1 ?_) | (refine And.intro i1 ?_) | (refine And.intro i2 ?_) | (refine Exists.intro _ (And.intro gw ?_)) | (refine Exists.intro _ (And.intro gs ?_)) | (refine i_at g0 ?_) | (refine i_at g1 ?_) | (refine i_at g2 ?_) | (refine i_at g3 ?_) | (refine i_at g4 ?_) | (refine z0j he ?_) | (refine z0j hcl ?_) | (refine And.intro (by kernel_rfl) ?_) | (refine ccA ([]) (n1) ?_) | (refine ccA ([]) (n2) ?_) | (refine z0c h4 ?_) | (refine stpQ ?_))
    refine hQ1 _ _ ?_
    clear hQ1 Q1
    repeat ((try conv => whnf); first | (with_reducible first | refine z08 (fun Qs hN hE hR => ?_) | refine z06 ?_ | refine z00 (fun Qb kN kE kX kR => ?_) | refine z02 ?_ | refine z03 ?_ | refine z07 ?_ | refine z04 ?_ | refine z05 ?_ | (show W _ _ _ (.cond _ _ _) _ _; refine z01 rfl ?_) | (refine hN _ ?_; try clear hN hE hR Qs) | ((first | refine hE _ _ ?_ | refine hR _ ?_); try clear hN hE hR Qs) | ((first | refine kN _ ?_ | refine kE _ ?_ | refine kX _ _ rfl ?_ | refine kR _ ?_); try clear kN kE kX kR Qb)) | (refine stpQ ?_))
    (refine z09 (by rfl) ?_ ?_ (by rfl)) <;> (repeat' (first | (exact eqA) | (refine And.intro ?_ ?_) | ((fail_if_success (with_reducible (show _ = _))); (show _ = _)))) <;> first | rfl | (cases b1 <;> rfl)
theorem zbx (p : List Bs) (j : Nat) (hj : j = 1) (hw : mvL.getD j [] = pt p 0) (hl : p.length = mvN j) : CT Tryd.prog 45 [] [.sl 1 (strE p)] (.tup [.agg (evC (mvE j p)), .bool (mvB j p)]) [] := by
 subst hj
 have hl : p.length = 2 := hl.trans rfl
 have g0 := z0g (p := p) (i := 0) (by omega)
 have g1 := z0g (p := p) (i := 1) (by omega)
 have hcl : ((strE p).length : Int) = ((mvN 1 : Nat) : Int) := by rw [z0h, hl]; rfl
 have n1 := z0e (pt p 1)
 have hM : mvB 1 p = (isB (pt p 1)) := by simp [mvB]
 have hE : mvE 1 p = { k := 1, h := decV (pt p 1), mk := ((1 + 1 : Nat) : Int) } := by simp [mvE]
 rw [hM, hE]
 clear hM hE hl
 have hskip : ∀ x, x < 1 → (¬ pt p 0 = mvL.getD x []) ∨ (pt p 0 = mvL.getD x [] ∧ ¬ ((strE p).length : Int) = ((mvN x : Nat) : Int)) := fun x hx => .inl fun c => z2I 1 (by decide) x hx (c.symm.trans hw.symm)
 generalize (decV (pt p 1) : Int) = v1 at *
 generalize isB (pt p 1) = b1 at *
 have he : pt p 0 = mvL.getD 1 [] := hw.symm
 clear hw
 generalize pt p 0 = w at *
 generalize strE p = z at *
 refine z0d z0f 1 rfl Tryd.func45 rfl rfl rfl ?_
 conv => arg 6; whnf
 repeat ((try conv => whnf); first | (with_reducible first | refine z08 (fun Qs hN hE hR => ?_) | refine z06 ?_ | refine z00 (fun Qb kN kE kX kR => ?_) | refine z02 ?_ | refine z03 ?_ | refine z07 ?_ | refine z04 ?_ | refine z05 ?_ | (show W _ _ _ (.cond _ _ _) _ _; refine z01 rfl ?_) | (refine hN _ ?_; try clear hN hE hR Qs) | ((first | refine hE _ _ ?_ | refine hR _ ?_); try clear hN hE hR Qs) | ((first | refine kN _ ?_ | refine kE _ ?_ | refine kX _ _ rfl ?_ | refine kR _ ?_); try clear kN kE kX kR Qb)) | (refine And.intro (by kernel_rfl) ?_) | (refine stpQ ?_))
 refine z0p Nat (fun x => ⟨[(0, .sl 1 z), (2, .ptr 1 0 0), (4, .ref 2), (5, .ref 3), (6, .int .i64 (x : Int))], [(1, some (.box zEv)), (2, some (.row 1 (strE mvL))), (3, some (.row 1 szM))], 4⟩) (fun x => x ≤ 1) (fun x => 1 + 1 - x) 0 (by omega) ?_ ?_
 ·(refine z0a (by rfl) ?_ ?_) <;> (repeat' (first | (exact eqA) | (refine And.intro ?_ ?_) | ((fail_if_success (with_reducible (show _ = _))); (show _ = _)))) <;> first | rfl | decide
 ·intro Q1 hQ1 x hx
  by_cases hxj : x < 1
  ·have i1 : x < (strE mvL).length := by show x < 10; omega
   have i2 : x < szM.length := by show x < 10; omega
   have f1 : (x : Int) < ((strE mvL).length : Int) := by show (x : Int) < 10; omega
   have gw : (strE mvL)[x]? = some [.str (mvL.getD x [])] := by rw [strE, List.getElem?_map, List.getD, List.getElem?_eq_getElem (show x < mvL.length from i2)]; rfl
   have gs := z0R x (by omega)
   rcases hskip x hxj with hne | ⟨heq, hne⟩
   ·clear hskip
    repeat ((try conv => whnf); first | (with_reducible first | refine z08 (fun Qs hN hE hR => ?_) | refine z06 ?_ | refine z00 (fun Qb kN kE kX kR => ?_) | refine z02 ?_ | refine z03 ?_ | refine z07 ?_ | refine z04 ?_ | refine z05 ?_ | (show W _ _ _ (.cond _ _ _) _ _; refine z01 rfl ?_) | (refine hN _ ?_; try clear hN hE hR Qs) | ((first | refine hE _ _ ?_ | refine hR _ ?_); try clear hN hE hR Qs) | ((first | refine kN _ ?_ | refine kE _ ?_ | refine kX _ _ rfl ?_ | refine kR _ ?_); try clear kN kE kX kR Qb)) | (refine z0b f1 ?_) | (refine And.intro i1 ?_) | (refine And.intro i2 ?_) | (refine Exists.intro _ (And.intro gw ?_)) | (refine i_at g0 ?_) | (refine z0r hne ?_) | (refine And.intro (by kernel_rfl) ?_) | (refine stpQ ?_))
    refine ⟨x + 1, by omega, by omega, ?_⟩
    (refine z0a (by rfl) ?_ ?_) <;> (repeat' (first | (exact eqA) | (refine And.intro ?_ ?_) | ((fail_if_success (with_reducible (show _ = _))); (show _ = _))))
   ·clear hskip
    repeat ((try conv => whnf); first | (with_reducible first | refine z08 (fun Qs hN hE hR => ?_) | refine z06 ?_ | refine z00 (fun Qb kN kE kX kR => ?_) | refine z02 ?_ | refine z03 ?_ | refine z07 ?_ | refine z04 ?_ | refine z05 ?_ | (show W _ _ _ (.cond _ _ _) _ _; refine z01 rfl ?_) | (refine hN _ ?_; try clear hN hE hR Qs) | ((first | refine hE _ _ ?_ | refine hR _ ?_); try clear hN hE hR Qs) | ((first | refine kN _ ?_ | refine kE _ ?_ | refine kX _ _ rfl ?_ | refine kR _ ?_); try clear kN kE kX kR Qb)) | (refine z0b f1 ?_) | (refine And.intro i1 ?_) | (refine And.intro i2 ?_) | (refine Exists.intro _ (And.intro gw ?_)) | (refine Exists.intro _ (And.intro gs ?_)) | (refine i_at g0 ?_) | (refine z0j heq ?_) | (refine z0r hne ?_) | (refine And.intro (by kernel_rfl) ?_) | (refine stpQ ?_))
    refine ⟨x + 1, by omega, by omega, ?_⟩
    (refine z0a (by rfl) ?_ ?_) <;> (repeat' (first | (exact eqA) | (refine And.intro ?_ ?_) | ((fail_if_success (with_reducible (show _ = _))); (show _ = _))))
  ·obtain rfl : x = 1 := by omega
   have i1 : 1 < (strE mvL).length := by decide
   have i2 : 1 < szM.length := by decide
   have f1 : ((1 : Nat) : Int) < ((strE mvL).length : Int) := by decide
   have gw : (strE mvL)[1]? = some [.str (mvL.getD 1 [])] := rfl
   have gs := z0R 1 (by omega)
   clear hskip hxj hx
   repeat ((try conv => whnf); first | (with_reducible first | refine z08 (fun Qs hN hE hR => ?_) | refine z06 ?_ | refine z00 (fun Qb kN kE kX kR => ?_) | refine z02 ?_ | refine z03 ?_ | refine z07 ?_ | refine z04 ?_ | refine z05 ?_ | (show W _ _ _ (.cond _ _ _) _ _; refine z01 rfl ?_) | (refine hN _ ?_; try clear hN hE hR Qs) | ((first | refine hE _ _ ?_ | refine hR _ ?_); try clear hN hE hR Qs) | ((first | refine kN _ ?_ | refine kE _ ?_ | refine kX _ _ rfl ?_ | refine kR _ ?_); try clear kN kE kX kR Qb)) | (refine z0b f1 ?_) | (refine And.intro i1 ?_) | (refine And.intro i2 ?_) | (refine Exists.intro _ (And.intro gw ?_)) | (refine Exists.intro _ (And.intro gs ?_)) | (refine i_at g0 ?_) | (refine i_at g1 ?_) | (refine z0j he ?_) | (refine z0j hcl ?_) | (refine And.intro (by kernel_rfl) ?_) | (refine ccA ([]) (n1) ?_) | (refine stpQ ?_))
   refine hQ1 _ _ ?_
   clear hQ1 Q1
   repeat ((try conv => whnf); first | (with_reducible first | refine z08 (fun Qs hN hE hR => ?_) | refine z06 ?_ | refine z00 (fun Qb kN kE kX kR => ?_) | refine z02 ?_ | refine z03 ?_ | refine z07 ?_ | refine z04 ?_ | refine z05 ?_ | (show W _ _ _ (.cond _ _ _) _ _; refine z01 rfl ?_) | (refine hN _ ?_; try clear hN hE hR Qs) | ((first | refine hE _ _ ?_ | refine hR _ ?_); try clear hN hE hR Qs) | ((first | refine kN _ ?_ | refine kE _ ?_ | refine kX _ _ rfl ?_ | refine kR _ ?_); try clear kN kE kX kR Qb)) | (refine stpQ ?_))
   (refine z09 (by rfl) ?_ ?_ (by rfl)) <;> (repeat' (first | (exact eqA) | (refine And.intro ?_ ?_) | ((fail_if_success (with_reducible (show _ = _))); (show _ = _)))) <;> first | rfl | (cases b1 <;> rfl)
theorem zby (p : List Bs) (j : Nat) (hj : j = 2) (hw : mvL.getD j [] = pt p 0) (hl : p.length = mvN j) : CT Tryd.prog 45 [] [.sl 1 (strE p)] (.tup [.agg (evC (mvE j p)), .bool (mvB j p)]) [] := by
 subst hj
 have hl : p.length = 2 := hl.trans rfl
 have g0 := z0g (p := p) (i := 0) (by omega)
 have g1 := z0g (p := p) (i := 1) (by omega)
 have hcl : ((strE p).length : Int) = ((mvN 2 : Nat) : Int) := by rw [z0h, hl]; rfl
 have n1 := z0e (pt p 1)
 have hM : mvB 2 p = (isB (pt p 1)) := by simp [mvB]
 have hE : mvE 2 p = { k := 1, h := decV (pt p 1), mk := ((2 + 1 : Nat) : Int) } := by simp [mvE]
 rw [hM, hE]
 clear hM hE hl
 have hskip : ∀ x, x < 2 → (¬ pt p 0 = mvL.getD x []) ∨ (pt p 0 = mvL.getD x [] ∧ ¬ ((strE p).length : Int) = ((mvN x : Nat) : Int)) := fun x hx => .inl fun c => z2I 2 (by decide) x hx (c.symm.trans hw.symm)
 generalize (decV (pt p 1) : Int) = v1 at *
 generalize isB (pt p 1) = b1 at *
 have he : pt p 0 = mvL.getD 2 [] := hw.symm
 clear hw
 generalize pt p 0 = w at *
 generalize strE p = z at *
 refine z0d z0f 1 rfl Tryd.func45 rfl rfl rfl ?_
 conv => arg 6; whnf
 repeat ((try conv => whnf); first | (with_reducible first | refine z08 (fun Qs hN hE hR => ?_) | refine z06 ?_ | refine z00 (fun Qb kN kE kX kR => ?_) | refine z02 ?_ | refine z03 ?_ | refine z07 ?_ | refine z04 ?_ | refine z05 ?_ | (show W _ _ _ (.cond _ _ _) _ _; refine z01 rfl ?_) | (refine hN _ ?_; try clear hN hE hR Qs) | ((first | refine hE _ _ ?_ | refine hR _ ?_); try clear hN hE hR Qs) | ((first | refine kN _ ?_ | refine kE _ ?_ | refine kX _ _ rfl ?_ | refine kR _ ?_); try clear kN kE kX kR Qb)) | (refine And.intro (by kernel_rfl) ?_) | (refine stpQ ?_))
 refine z0p Nat (fun x => ⟨[(0, .sl 1 z), (2, .ptr 1 0 0), (4, .ref 2), (5, .ref 3), (6, .int .i64 (x : Int))], [(1, some (.box zEv)), (2, some (.row 1 (strE mvL))), (3, some (.row 1 szM))], 4⟩) (fun x => x ≤ 2) (fun x => 2 + 1 - x) 0 (by omega) ?_ ?_
 ·(refine z0a (by rfl) ?_ ?_) <;> (repeat' (first | (exact eqA) | (refine And.intro ?_ ?_) | ((fail_if_success (with_reducible (show _ = _))); (show _ = _)))) <;> first | rfl | decide
 ·intro Q1 hQ1 x hx
  by_cases hxj : x < 2
  ·have i1 : x < (strE mvL).length := by show x < 10; omega
   have i2 : x < szM.length := by show x < 10; omega
   have f1 : (x : Int) < ((strE mvL).length : Int) := by show (x : Int) < 10; omega
   have gw : (strE mvL)[x]? = some [.str (mvL.getD x [])] := by rw [strE, List.getElem?_map, List.getD, List.getElem?_eq_getElem (show x < mvL.length from i2)]; rfl
   have gs := z0R x (by omega)
   rcases hskip x hxj with hne | ⟨heq, hne⟩
   ·clear hskip
    repeat ((try conv => whnf); first | (with_reducible first | refine z08 (fun Qs hN hE hR => ?_) | refine z06 ?_ | refine z00 (fun Qb kN kE kX kR => ?_) | refine z02 ?_ | refine z03 ?_ | refine z07 ?_ | refine z04 ?_ | refine z05 ?_ | (show W _ _ _ (.cond _ _ _) _ _; refine z01 rfl ?_) | (refine hN _ ?_; try clear hN hE hR Qs) | ((first | refine hE _ _ ?_ | refine hR _ ?_); try clear hN hE hR Qs) | ((first | refine kN _ ?_ | refine kE _ ?_ | refine kX _ _ rfl ?_ | refine kR _ ?_); try clear kN kE kX kR Qb)) | (refine z0b f1 ?_) | (refine And.intro i1 ?_) | (refine And.intro i2 ?_) | (refine Exists.intro _ (And.intro gw ?_)) | (refine i_at g0 ?_) | (refine z0r hne ?_) | (refine And.intro (by kernel_rfl) ?_) | (refine stpQ ?_))
    refine ⟨x + 1, by omega, by omega, ?_⟩
    (refine z0a (by rfl) ?_ ?_) <;> (repeat' (first | (exact eqA) | (refine And.intro ?_ ?_) | ((fail_if_success (with_reducible (show _ = _))); (show _ = _))))
   ·clear hskip
    repeat ((try conv => whnf); first | (with_reducible first | refine z08 (fun Qs hN hE hR => ?_) | refine z06 ?_ | refine z00 (fun Qb kN kE kX kR => ?_) | refine z02 ?_ | refine z03 ?_ | refine z07 ?_ | refine z04 ?_ | refine z05 ?_ | (show W _ _ _ (.cond _ _ _) _ _; refine z01 rfl ?_) | (refine hN _ ?_; try clear hN hE hR Qs) | ((first | refine hE _ _ ?_ | refine hR _ ?_); try clear hN hE hR Qs) | ((first | refine kN _ ?_ | refine kE _ ?_ | refine kX _ _ rfl ?_ | refine kR _ ?_); try clear kN kE kX kR Qb)) | (refine z0b f1 ?_) | (refine And.intro i1 ?_) | (refine And.intro i2 ?_) | (refine Exists.intro _ (And.intro gw ?_)) | (refine Exists.intro _ (And.intro gs ?_)) | (refine i_at g0 ?_) | (refine z0j heq ?_) | (refine z0r hne ?_) | (refine And.intro (by kernel_rfl) ?_) | (refine stpQ ?_))
    refine ⟨x + 1, by omega, by omega, ?_⟩
    (refine z0a (by rfl) ?_ ?_) <;> (repeat' (first | (exact eqA) | (refine And.intro ?_ ?_) | ((fail_if_success (with_reducible (show _ = _))); (show _ = _))))
  ·obtain rfl : x = 2 := by omega
   have i1 : 2 < (strE mvL).length := by decide
   have i2 : 2 < szM.length := by decide
   have f1 : ((2 : Nat) : Int) < ((strE mvL).length : Int) := by decide
   have gw : (strE mvL)[2]? = some [.str (mvL.getD 2 [])] := rfl
   have gs := z0R 2 (by omega)
   clear hskip hxj hx
   repeat ((try conv => whnf); first | (with_reducible first | refine z08 (fun Qs hN hE hR => ?_) | refine z06 ?_ | refine z00 (fun Qb kN kE kX kR => ?_) | refine z02 ?_ | refine z03 ?_ | refine z07 ?_ | refine z04 ?_ | refine z05 ?_ | (show W _ _ _ (.cond _ _ _) _ _; refine z01 rfl ?_) | (refine hN _ ?_; try clear hN hE hR Qs) | ((first | refine hE _ _ ?_ | refine hR _ ?_); try clear hN hE hR Qs) | ((first | refine kN _ ?_ | refine kE _ ?_ | refine kX _ _ rfl ?_ | refine kR _ ?_); try clear kN kE kX kR Qb)) | (refine z0b f1 ?_) | (refine And.intro i1 ?_) | (refine And.intro i2 ?_) | (refine Exists.intro _ (And.intro gw ?_)) | (refine Exists.intro _ (And.intro gs ?_)) | (refine i_at g0 ?_) | (refine i_at g1 ?_) | (refine z0j he ?_) | (refine z0j hcl ?_) | (refine And.intro (by kernel_rfl) ?_) | (refine ccA ([]) (n1) ?_) | (refine stpQ ?_))
   refine hQ1 _ _ ?_
   clear hQ1 Q1
   repeat ((try conv => whnf); first | (with_reducible first | refine z08 (fun Qs hN hE hR => ?_) | refine z06 ?_ | refine z00 (fun Qb kN kE kX kR => ?_) | refine z02 ?_ | refine z03 ?_ | refine z07 ?_ | refine z04 ?_ | refine z05 ?_ | (show W _ _ _ (.cond _ _ _) _ _; refine z01 rfl ?_) | (refine hN _ ?_; try clear hN hE hR Qs) | ((first | refine hE _ _ ?_ | refine hR _ ?_); try clear hN hE hR Qs) | ((first | refine kN _ ?_ | refine kE _ ?_ | refine kX _ _ rfl ?_ | refine kR _ ?_); try clear kN kE kX kR Qb)) | (refine stpQ ?_))
   (refine z09 (by rfl) ?_ ?_ (by rfl)) <;> (repeat' (first | (exact eqA) | (refine And.intro ?_ ?_) | ((fail_if_success (with_reducible (show _ = _))); (show _ = _)))) <;> first | rfl | (cases b1 <;> rfl)
theorem zbz (p : List Bs) (j : Nat) (hj : j = 3) (hw : mvL.getD j [] = pt p 0) (hl : p.length = mvN j) : CT Tryd.prog 45 [] [.sl 1 (strE p)] (.tup [.agg (evC (mvE j p)), .bool (mvB j p)]) [] := by
 subst hj
 have hl : p.length = 2 := hl.trans rfl
 have g0 := z0g (p := p) (i := 0) (by omega)
 have g1 := z0g (p := p) (i := 1) (by omega)
 have hcl : ((strE p).length : Int) = ((mvN 3 : Nat) : Int) := by rw [z0h, hl]; rfl
 have n1 := z0e (pt p 1)
 have hM : mvB 3 p = (isB (pt p 1)) := by simp [mvB]
 have hE : mvE 3 p = { k := 1, h := decV (pt p 1), mk := ((3 + 1 : Nat) : Int) } := by simp [mvE]
 rw [hM, hE]
 clear hM hE hl
 have hskip : ∀ x, x < 3 → (¬ pt p 0 = mvL.getD x []) ∨ (pt p 0 = mvL.getD x [] ∧ ¬ ((strE p).length : Int) = ((mvN x : Nat) : Int)) := fun x hx => .inl fun c => z2I 3 (by decide) x hx (c.symm.trans hw.symm)
 generalize (decV (pt p 1) : Int) = v1 at *
 generalize isB (pt p 1) = b1 at *
 have he : pt p 0 = mvL.getD 3 [] := hw.symm
 clear hw
 generalize pt p 0 = w at *
 generalize strE p = z at *
 refine z0d z0f 1 rfl Tryd.func45 rfl rfl rfl ?_
 conv => arg 6; whnf
 repeat ((try conv => whnf); first | (with_reducible first | refine z08 (fun Qs hN hE hR => ?_) | refine z06 ?_ | refine z00 (fun Qb kN kE kX kR => ?_) | refine z02 ?_ | refine z03 ?_ | refine z07 ?_ | refine z04 ?_ | refine z05 ?_ | (show W _ _ _ (.cond _ _ _) _ _; refine z01 rfl ?_) | (refine hN _ ?_; try clear hN hE hR Qs) | ((first | refine hE _ _ ?_ | refine hR _ ?_); try clear hN hE hR Qs) | ((first | refine kN _ ?_ | refine kE _ ?_ | refine kX _ _ rfl ?_ | refine kR _ ?_); try clear kN kE kX kR Qb)) | (refine And.intro (by kernel_rfl) ?_) | (refine stpQ ?_))
 refine z0p Nat (fun x => ⟨[(0, .sl 1 z), (2, .ptr 1 0 0), (4, .ref 2), (5, .ref 3), (6, .int .i64 (x : Int))], [(1, some (.box zEv)), (2, some (.row 1 (strE mvL))), (3, some (.row 1 szM))], 4⟩) (fun x => x ≤ 3) (fun x => 3 + 1 - x) 0 (by omega) ?_ ?_
 ·(refine z0a (by rfl) ?_ ?_) <;> (repeat' (first | (exact eqA) | (refine And.intro ?_ ?_) | ((fail_if_success (with_reducible (show _ = _))); (show _ = _)))) <;> first | rfl | decide
 ·intro Q1 hQ1 x hx
  by_cases hxj : x < 3
  ·have i1 : x < (strE mvL).length := by show x < 10; omega
   have i2 : x < szM.length := by show x < 10; omega
   have f1 : (x : Int) < ((strE mvL).length : Int) := by show (x : Int) < 10; omega
   have gw : (strE mvL)[x]? = some [.str (mvL.getD x [])] := by rw [strE, List.getElem?_map, List.getD, List.getElem?_eq_getElem (show x < mvL.length from i2)]; rfl
   have gs := z0R x (by omega)
   rcases hskip x hxj with hne | ⟨heq, hne⟩
   ·clear hskip
    repeat ((try conv => whnf); first | (with_reducible first | refine z08 (fun Qs hN hE hR => ?_) | refine z06 ?_ | refine z00 (fun Qb kN kE kX kR => ?_) | refine z02 ?_ | refine z03 ?_ | refine z07 ?_ | refine z04 ?_ | refine z05 ?_ | (show W _ _ _ (.cond _ _ _) _ _; refine z01 rfl ?_) | (refine hN _ ?_; try clear hN hE hR Qs) | ((first | refine hE _ _ ?_ | refine hR _ ?_); try clear hN hE hR Qs) | ((first | refine kN _ ?_ | refine kE _ ?_ | refine kX _ _ rfl ?_ | refine kR _ ?_); try clear kN kE kX kR Qb)) | (refine z0b f1 ?_) | (refine And.intro i1 ?_) | (refine And.intro i2 ?_) | (refine Exists.intro _ (And.intro gw ?_)) | (refine i_at g0 ?_) | (refine z0r hne ?_) | (refine And.intro (by kernel_rfl) ?_) | (refine stpQ ?_))
    refine ⟨x + 1, by omega, by omega, ?_⟩
    (refine z0a (by rfl) ?_ ?_) <;> (repeat' (first | (exact eqA) | (refine And.intro ?_ ?_) | ((fail_if_success (with_reducible (show _ = _))); (show _ = _))))
   ·clear hskip
    repeat ((try conv => whnf); first | (with_reducible first | refine z08 (fun Qs hN hE hR => ?_) | refine z06 ?_ | refine z00 (fun Qb kN kE kX kR => ?_) | refine z02 ?_ | refine z03 ?_ | refine z07 ?_ | refine z04 ?_ | refine z05 ?_ | (show W _ _ _ (.cond _ _ _) _ _; refine z01 rfl ?_) | (refine hN _ ?_; try clear hN hE hR Qs) | ((first | refine hE _ _ ?_ | refine hR _ ?_); try clear hN hE hR Qs) | ((first | refine kN _ ?_ | refine kE _ ?_ | refine kX _ _ rfl ?_ | refine kR _ ?_); try clear kN kE kX kR Qb)) | (refine z0b f1 ?_) | (refine And.intro i1 ?_) | (refine And.intro i2 ?_) | (refine Exists.intro _ (And.intro gw ?_)) | (refine Exists.intro _ (And.intro gs ?_)) | (refine i_at g0 ?_) | (refine z0j heq ?_) | (refine z0r hne ?_) | (refine And.intro (by kernel_rfl) ?_) | (refine stpQ ?_))
    refine ⟨x + 1, by omega, by omega, ?_⟩
    (refine z0a (by rfl) ?_ ?_) <;> (repeat' (first | (exact eqA) | (refine And.intro ?_ ?_) | ((fail_if_success (with_reducible (show _ = _))); (show _ = _))))
  ·obtain rfl : x = 3 := by omega
   have i1 : 3 < (strE mvL).length := by decide
   have i2 : 3 < szM.length := by decide
   have f1 : ((3 : Nat) : Int) < ((strE mvL).length : Int) := by decide
   have gw : (strE mvL)[3]? = some [.str (mvL.getD 3 [])] := rfl
   have gs := z0R 3 (by omega)
   clear hskip hxj hx
   repeat ((try conv => whnf); first | (with_reducible first | refine z08 (fun Qs hN hE hR => ?_) | refine z06 ?_ | refine z00 (fun Qb kN kE kX kR => ?_) | refine z02 ?_ | refine z03 ?_ | refine z07 ?_ | refine z04 ?_ | refine z05 ?_ | (show W _ _ _ (.cond _ _ _) _ _; refine z01 rfl ?_) | (refine hN _ ?_; try clear hN hE hR Qs) | ((first | refine hE _ _ ?_ | refine hR _ ?_); try clear hN hE hR Qs) | ((first | refine kN _ ?_ | refine kE _ ?_ | refine kX _ _ rfl ?_ | refine kR _ ?_); try clear kN kE kX kR Qb)) | (refine z0b f1 ?_) | (refine And.intro i1 ?_) | (refine And.intro i2 ?_) | (refine Exists.intro _ (And.intro gw ?_)) | (refine Exists.intro _ (And.intro gs ?_)) | (refine i_at g0 ?_) | (refine i_at g1 ?_) | (refine z0j he ?_) | (refine z0j hcl ?_) | (refine And.intro (by kernel_rfl) ?_) | (refine ccA ([]) (n1) ?_) | (refine stpQ ?_))
   refine hQ1 _ _ ?_
   clear hQ1 Q1
   repeat ((try conv => whnf); first | (with_reducible first | refine z08 (fun Qs hN hE hR => ?_) | refine z06 ?_ | refine z00 (fun Qb kN kE kX kR => ?_) | refine z02 ?_ | refine z03 ?_ | refine z07 ?_ | refine z04 ?_ | refine z05 ?_ | (show W _ _ _ (.cond _ _ _) _ _; refine z01 rfl ?_) | (refine hN _ ?_; try clear hN hE hR Qs) | ((first | refine hE _ _ ?_ | refine hR _ ?_); try clear hN hE hR Qs) | ((first | refine kN _ ?_ | refine kE _ ?_ | refine kX _ _ rfl ?_ | refine kR _ ?_); try clear kN kE kX kR Qb)) | (refine stpQ ?_))
   (refine z09 (by rfl) ?_ ?_ (by rfl)) <;> (repeat' (first | (exact eqA) | (refine And.intro ?_ ?_) | ((fail_if_success (with_reducible (show _ = _))); (show _ = _)))) <;> first | rfl | (cases b1 <;> rfl)
theorem zbA (p : List Bs) (j : Nat) (hj : j = 4) (hw : mvL.getD j [] = pt p 0) (hl : p.length = mvN j) : CT Tryd.prog 45 [] [.sl 1 (strE p)] (.tup [.agg (evC (mvE j p)), .bool (mvB j p)]) [] := by
 subst hj
 have hl : p.length = 3 := hl.trans rfl
 have g0 := z0g (p := p) (i := 0) (by omega)
 have g1 := z0g (p := p) (i := 1) (by omega)
 have g2 := z0g (p := p) (i := 2) (by omega)
 have hcl : ((strE p).length : Int) = ((mvN 4 : Nat) : Int) := by rw [z0h, hl]; rfl
 have n1 := z0e (pt p 1)
 have n2 := z0e (pt p 2)
 have hM : mvB 4 p = (isB (pt p 1) && isB (pt p 2)) := by simp [mvB]
 have hE : mvE 4 p = { k := 1, h := decV (pt p 1), mk := ((4 + 1 : Nat) : Int), ma := decV (pt p 2) } := by simp [mvE]
 rw [hM, hE]
 clear hM hE hl
 have hskip : ∀ x, x < 4 → (¬ pt p 0 = mvL.getD x []) ∨ (pt p 0 = mvL.getD x [] ∧ ¬ ((strE p).length : Int) = ((mvN x : Nat) : Int)) := fun x hx => .inl fun c => z2I 4 (by decide) x hx (c.symm.trans hw.symm)
 generalize (decV (pt p 1) : Int) = v1 at *
 generalize isB (pt p 1) = b1 at *
 generalize (decV (pt p 2) : Int) = v2 at *
 generalize isB (pt p 2) = b2 at *
 have he : pt p 0 = mvL.getD 4 [] := hw.symm
 clear hw
 generalize pt p 0 = w at *
 generalize strE p = z at *
 refine z0d z0f 1 rfl Tryd.func45 rfl rfl rfl ?_
 conv => arg 6; whnf
 repeat ((try conv => whnf); first | (with_reducible first | refine z08 (fun Qs hN hE hR => ?_) | refine z06 ?_ | refine z00 (fun Qb kN kE kX kR => ?_) | refine z02 ?_ | refine z03 ?_ | refine z07 ?_ | refine z04 ?_ | refine z05 ?_ | (show W _ _ _ (.cond _ _ _) _ _; refine z01 rfl ?_) | (refine hN _ ?_; try clear hN hE hR Qs) | ((first | refine hE _ _ ?_ | refine hR _ ?_); try clear hN hE hR Qs) | ((first | refine kN _ ?_ | refine kE _ ?_ | refine kX _ _ rfl ?_ | refine kR _ ?_); try clear kN kE kX kR Qb)) | (refine And.intro (by kernel_rfl) ?_) | (refine stpQ ?_))
 refine z0p Nat (fun x => ⟨[(0, .sl 1 z), (2, .ptr 1 0 0), (4, .ref 2), (5, .ref 3), (6, .int .i64 (x : Int))], [(1, some (.box zEv)), (2, some (.row 1 (strE mvL))), (3, some (.row 1 szM))], 4⟩) (fun x => x ≤ 4) (fun x => 4 + 1 - x) 0 (by omega) ?_ ?_
 ·(refine z0a (by rfl) ?_ ?_) <;> (repeat' (first | (exact eqA) | (refine And.intro ?_ ?_) | ((fail_if_success (with_reducible (show _ = _))); (show _ = _)))) <;> first | rfl | decide
 ·intro Q1 hQ1 x hx
  by_cases hxj : x < 4
  ·have i1 : x < (strE mvL).length := by show x < 10; omega
   have i2 : x < szM.length := by show x < 10; omega
   have f1 : (x : Int) < ((strE mvL).length : Int) := by show (x : Int) < 10; omega
   have gw : (strE mvL)[x]? = some [.str (mvL.getD x [])] := by rw [strE, List.getElem?_map, List.getD, List.getElem?_eq_getElem (show x < mvL.length from i2)]; rfl
   have gs := z0R x (by omega)
   rcases hskip x hxj with hne | ⟨heq, hne⟩
   ·clear hskip
    repeat ((try conv => whnf); first | (with_reducible first | refine z08 (fun Qs hN hE hR => ?_) | refine z06 ?_ | refine z00 (fun Qb kN kE kX kR => ?_) | refine z02 ?_ | refine z03 ?_ | refine z07 ?_ | refine z04 ?_ | refine z05 ?_ | (show W _ _ _ (.cond _ _ _) _ _; refine z01 rfl ?_) | (refine hN _ ?_; try clear hN hE hR Qs) | ((first | refine hE _ _ ?_ | refine hR _ ?_); try clear hN hE hR Qs) | ((first | refine kN _ ?_ | refine kE _ ?_ | refine kX _ _ rfl ?_ | refine kR _ ?_); try clear kN kE kX kR Qb)) | (refine z0b f1 ?_) | (refine And.intro i1 ?_) | (refine And.intro i2 ?_) | (refine Exists.intro _ (And.intro gw ?_)) | (refine i_at g0 ?_) | (refine z0r hne ?_) | (refine And.intro (by kernel_rfl) ?_) | (refine stpQ ?_))
    refine ⟨x + 1, by omega, by omega, ?_⟩
    (refine z0a (by rfl) ?_ ?_) <;> (repeat' (first | (exact eqA) | (refine And.intro ?_ ?_) | ((fail_if_success (with_reducible (show _ = _))); (show _ = _))))
   ·clear hskip
    repeat ((try conv => whnf); first | (with_reducible first | refine z08 (fun Qs hN hE hR => ?_) | refine z06 ?_ | refine z00 (fun Qb kN kE kX kR => ?_) | refine z02 ?_ | refine z03 ?_ | refine z07 ?_ | refine z04 ?_ | refine z05 ?_ | (show W _ _ _ (.cond _ _ _) _ _; refine z01 rfl ?_) | (refine hN _ ?_; try clear hN hE hR Qs) | ((first | refine hE _ _ ?_ | refine hR _ ?_); try clear hN hE hR Qs) | ((first | refine kN _ ?_ | refine kE _ ?_ | refine kX _ _ rfl ?_ | refine kR _ ?_); try clear kN kE kX kR Qb)) | (refine z0b f1 ?_) | (refine And.intro i1 ?_) | (refine And.intro i2 ?_) | (refine Exists.intro _ (And.intro gw ?_)) | (refine Exists.intro _ (And.intro gs ?_)) | (refine i_at g0 ?_) | (refine z0j heq ?_) | (refine z0r hne ?_) | (refine And.intro (by kernel_rfl) ?_) | (refine stpQ ?_))
    refine ⟨x + 1, by omega, by omega, ?_⟩
    (refine z0a (by rfl) ?_ ?_) <;> (repeat' (first | (exact eqA) | (refine And.intro ?_ ?_) | ((fail_if_success (with_reducible (show _ = _))); (show _ = _))))
  ·obtain rfl : x = 4 := by omega
   have i1 : 4 < (strE mvL).length := by decide
   have i2 : 4 < szM.length := by decide
   have f1 : ((4 : Nat) : Int) < ((strE mvL).length : Int) := by decide
   have gw : (strE mvL)[4]? = some [.str (mvL.getD 4 [])] := rfl
   have gs := z0R 4 (by omega)
   clear hskip hxj hx
   cases b2
   ·repeat ((try conv => whnf); first | (with_reducible first | refine z08 (fun Qs hN hE hR => ?_) | refine z06 ?_ | refine z00 (fun Qb kN kE kX kR => ?_) | refine z02 ?_ | refine z03 ?_ | refine z07 ?_ | refine z04 ?_ | refine z05 ?_ | (show W _ _ _ (.cond _ _ _) _ _; refine z01 rfl ?_) | (refine hN _ ?_; try clear hN hE hR Qs) | ((first | refine hE _ _ ?_ | refine hR _ ?_); try clear hN hE hR Qs) | ((first | refine kN _ ?_ | refine kE _ ?_ | refine kX _ _ rfl ?_ | refine kR _ ?_); try clear kN kE kX kR Qb)) | (refine z0b f1 ?_) | (refine And.intro i1 ?_) | (refine And.intro i2 ?_) | (refine Exists.intro _ (And.intro gw ?_)) | (refine Exists.intro _ (And.intro gs ?_)) | (refine i_at g0 ?_) | (refine i_at g1 ?_) | (refine i_at g2 ?_) | (refine z0j he ?_) | (refine z0j hcl ?_) | (refine And.intro (by kernel_rfl) ?_) | (refine ccA ([]) (n1) ?_) | (refine ccA ([]) (n2) ?_) | (refine stpQ ?_))
    refine hQ1 _ _ ?_
    clear hQ1 Q1
    repeat ((try conv => whnf); first | (with_reducible first | refine z08 (fun Qs hN hE hR => ?_) | refine z06 ?_ | refine z00 (fun Qb kN kE kX kR => ?_) | refine z02 ?_ | refine z03 ?_ | refine z07 ?_ | refine z04 ?_ | refine z05 ?_ | (show W _ _ _ (.cond _ _ _) _ _; refine z01 rfl ?_) | (refine hN _ ?_; try clear hN hE hR Qs) | ((first | refine hE _ _ ?_ | refine hR _ ?_); try clear hN hE hR Qs) | ((first | refine kN _ ?_ | refine kE _ ?_ | refine kX _ _ rfl ?_ | refine kR _ ?_); try clear kN kE kX kR Qb)) | (refine stpQ ?_))
    (refine z09 (by rfl) ?_ ?_ (by rfl)) <;> (repeat' (first | (exact eqA) | (refine And.intro ?_ ?_) | ((fail_if_success (with_reducible (show _ = _))); (show _ = _)))) <;> first | rfl | (cases b1 <;> rfl)
   ·repeat ((try conv => whnf); first | (with_reducible first | refine z08 (fun Qs hN hE hR => ?_) | refine z06 ?_ | refine z00 (fun Qb kN kE kX kR => ?_) | refine z02 ?_ | refine z03 ?_ | refine z07 ?_ | refine z04 ?_ | refine z05 ?_ | (show W _ _ _ (.cond _ _ _) _ _; refine z01 rfl ?_) | (refine hN _ ?_; try clear hN hE hR Qs) | ((first | refine hE _ _ ?_ | refine hR _ ?_); try clear hN hE hR Qs) | ((first | refine kN _ ?_ | refine kE _ ?_ | refine kX _ _ rfl ?_ | refine kR _ ?_); try clear kN kE kX kR Qb)) | (refine z0b f1 ?_) | (refine And.intro i1 ?_) | (refine And.intro i2 ?_) | (refine Exists.intro _ (And.intro gw ?_)) | (refine Exists.intro _ (And.intro gs ?_)) | (refine i_at g0 ?_) | (refine i_at g1 ?_) | (refine i_at g2 ?_) | (refine z0j he ?_) | (refine z0j hcl ?_) | (refine And.intro (by kernel_rfl) ?_) | (refine ccA ([]) (n1) ?_) | (refine ccA ([]) (n2) ?_) | (refine stpQ ?_))
    refine hQ1 _ _ ?_
    clear hQ1 Q1
    repeat ((try conv => whnf); first | (with_reducible first | refine z08 (fun Qs hN hE hR => ?_) | refine z06 ?_ | refine z00 (fun Qb kN kE kX kR => ?_) | refine z02 ?_ | refine z03 ?_ | refine z07 ?_ | refine z04 ?_ | refine z05 ?_ | (show W _ _ _ (.cond _ _ _) _ _; refine z01 rfl ?_) | (refine hN _ ?_; try clear hN hE hR Qs) | ((first | refine hE _ _ ?_ | refine hR _ ?_); try clear hN hE hR Qs) | ((first | refine kN _ ?_ | refine kE _ ?_ | refine kX _ _ rfl ?_ | refine kR _ ?_); try clear kN kE kX kR Qb)) | (refine stpQ ?_))
    (refine z09 (by rfl) ?_ ?_ (by rfl)) <;> (repeat' (first | (exact eqA) | (refine And.intro ?_ ?_) | ((fail_if_success (with_reducible (show _ = _))); (show _ = _)))) <;> first | rfl | (cases b1 <;> rfl)
theorem zbB (p : List Bs) (j : Nat) (hj : j = 5) (hw : mvL.getD j [] = pt p 0) (hl : p.length = mvN j) : CT Tryd.prog 45 [] [.sl 1 (strE p)] (.tup [.agg (evC (mvE j p)), .bool (mvB j p)]) [] := by
 subst hj
 have hl : p.length = 3 := hl.trans rfl
 have g0 := z0g (p := p) (i := 0) (by omega)
 have g1 := z0g (p := p) (i := 1) (by omega)
 have g2 := z0g (p := p) (i := 2) (by omega)
 have hcl : ((strE p).length : Int) = ((mvN 5 : Nat) : Int) := by rw [z0h, hl]; rfl
 have n1 := z0e (pt p 1)
 have n2 := z0e (pt p 2)
 have hM : mvB 5 p = (isB (pt p 1) && isB (pt p 2)) := by simp [mvB]
 have hE : mvE 5 p = { k := 1, h := decV (pt p 1), mk := ((5 + 1 : Nat) : Int), ma := decV (pt p 2) } := by simp [mvE]
 rw [hM, hE]
 clear hM hE hl
 have hskip : ∀ x, x < 5 → (¬ pt p 0 = mvL.getD x []) ∨ (pt p 0 = mvL.getD x [] ∧ ¬ ((strE p).length : Int) = ((mvN x : Nat) : Int)) := fun x hx => .inl fun c => z2I 5 (by decide) x hx (c.symm.trans hw.symm)
 generalize (decV (pt p 1) : Int) = v1 at *
 generalize isB (pt p 1) = b1 at *
 generalize (decV (pt p 2) : Int) = v2 at *
 generalize isB (pt p 2) = b2 at *
 have he : pt p 0 = mvL.getD 5 [] := hw.symm
 clear hw
 generalize pt p 0 = w at *
 generalize strE p = z at *
 refine z0d z0f 1 rfl Tryd.func45 rfl rfl rfl ?_
 conv => arg 6; whnf
 repeat ((try conv => whnf); first | (with_reducible first | refine z08 (fun Qs hN hE hR => ?_) | refine z06 ?_ | refine z00 (fun Qb kN kE kX kR => ?_) | refine z02 ?_ | refine z03 ?_ | refine z07 ?_ | refine z04 ?_ | refine z05 ?_ | (show W _ _ _ (.cond _ _ _) _ _; refine z01 rfl ?_) | (refine hN _ ?_; try clear hN hE hR Qs) | ((first | refine hE _ _ ?_ | refine hR _ ?_); try clear hN hE hR Qs) | ((first | refine kN _ ?_ | refine kE _ ?_ | refine kX _ _ rfl ?_ | refine kR _ ?_); try clear kN kE kX kR Qb)) | (refine And.intro (by kernel_rfl) ?_) | (refine stpQ ?_))
 refine z0p Nat (fun x => ⟨[(0, .sl 1 z), (2, .ptr 1 0 0), (4, .ref 2), (5, .ref 3), (6, .int .i64 (x : Int))], [(1, some (.box zEv)), (2, some (.row 1 (strE mvL))), (3, some (.row 1 szM))], 4⟩) (fun x => x ≤ 5) (fun x => 5 + 1 - x) 0 (by omega) ?_ ?_
 ·(refine z0a (by rfl) ?_ ?_) <;> (repeat' (first | (exact eqA) | (refine And.intro ?_ ?_) | ((fail_if_success (with_reducible (show _ = _))); (show _ = _)))) <;> first | rfl | decide
 ·intro Q1 hQ1 x hx
  by_cases hxj : x < 5
  ·have i1 : x < (strE mvL).length := by show x < 10; omega
   have i2 : x < szM.length := by show x < 10; omega
   have f1 : (x : Int) < ((strE mvL).length : Int) := by show (x : Int) < 10; omega
   have gw : (strE mvL)[x]? = some [.str (mvL.getD x [])] := by rw [strE, List.getElem?_map, List.getD, List.getElem?_eq_getElem (show x < mvL.length from i2)]; rfl
   have gs := z0R x (by omega)
   rcases hskip x hxj with hne | ⟨heq, hne⟩
   ·clear hskip
    repeat ((try conv => whnf); first | (with_reducible first | refine z08 (fun Qs hN hE hR => ?_) | refine z06 ?_ | refine z00 (fun Qb kN kE kX kR => ?_) | refine z02 ?_ | refine z03 ?_ | refine z07 ?_ | refine z04 ?_ | refine z05 ?_ | (show W _ _ _ (.cond _ _ _) _ _; refine z01 rfl ?_) | (refine hN _ ?_; try clear hN hE hR Qs) | ((first | refine hE _ _ ?_ | refine hR _ ?_); try clear hN hE hR Qs) | ((first | refine kN _ ?_ | refine kE _ ?_ | refine kX _ _ rfl ?_ | refine kR _ ?_); try clear kN kE kX kR Qb)) | (refine z0b f1 ?_) | (refine And.intro i1 ?_) | (refine And.intro i2 ?_) | (refine Exists.intro _ (And.intro gw ?_)) | (refine i_at g0 ?_) | (refine z0r hne ?_) | (refine And.intro (by kernel_rfl) ?_) | (refine stpQ ?_))
    refine ⟨x + 1, by omega, by omega, ?_⟩
    (refine z0a (by rfl) ?_ ?_) <;> (repeat' (first | (exact eqA) | (refine And.intro ?_ ?_) | ((fail_if_success (with_reducible (show _ = _))); (show _ = _))))
   ·clear hskip
    repeat ((try conv => whnf); first | (with_reducible first | refine z08 (fun Qs hN hE hR => ?_) | refine z06 ?_ | refine z00 (fun Qb kN kE kX kR => ?_) | refine z02 ?_ | refine z03 ?_ | refine z07 ?_ | refine z04 ?_ | refine z05 ?_ | (show W _ _ _ (.cond _ _ _) _ _; refine z01 rfl ?_) | (refine hN _ ?_; try clear hN hE hR Qs) | ((first | refine hE _ _ ?_ | refine hR _ ?_); try clear hN hE hR Qs) | ((first | refine kN _ ?_ | refine kE _ ?_ | refine kX _ _ rfl ?_ | refine kR _ ?_); try clear kN kE kX kR Qb)) | (refine z0b f1 ?_) | (refine And.intro i1 ?_) | (refine And.intro i2 ?_) | (refine Exists.intro _ (And.intro gw ?_)) | (refine Exists.intro _ (And.intro gs ?_)) | (refine i_at g0 ?_) | (refine z0j heq ?_) | (refine z0r hne ?_) | (refine And.intro (by kernel_rfl) ?_) | (refine stpQ ?_))
    refine ⟨x + 1, by omega, by omega, ?_⟩
    (refine z0a (by rfl) ?_ ?_) <;> (repeat' (first | (exact eqA) | (refine And.intro ?_ ?_) | ((fail_if_success (with_reducible (show _ = _))); (show _ = _))))
  ·obtain rfl : x = 5 := by omega
   have i1 : 5 < (strE mvL).length := by decide
   have i2 : 5 < szM.length := by decide
   have f1 : ((5 : Nat) : Int) < ((strE mvL).length : Int) := by decide
   have gw : (strE mvL)[5]? = some [.str (mvL.getD 5 [])] := rfl
   have gs := z0R 5 (by omega)
   clear hskip hxj hx
   cases b2
   ·repeat ((try conv => whnf); first | (with_reducible first | refine z08 (fun Qs hN hE hR => ?_) | refine z06 ?_ | refine z00 (fun Qb kN kE kX kR => ?_) | refine z02 ?_ | refine z03 ?_ | refine z07 ?_ | refine z04 ?_ | refine z05 ?_ | (show W _ _ _ (.cond _ _ _) _ _; refine z01 rfl ?_) | (refine hN _ ?_; try clear hN hE hR Qs) | ((first | refine hE _ _ ?_ | refine hR _ ?_); try clear hN hE hR Qs) | ((first | refine kN _ ?_ | refine kE _ ?_ | refine kX _ _ rfl ?_ | refine kR _ ?_); try clear kN kE kX kR Qb)) | (refine z0b f1 ?_) | (refine And.intro i1 ?_) | (refine And.intro i2 ?_) | (refine Exists.intro _ (And.intro gw ?_)) | (refine Exists.intro _ (And.intro gs ?_)) | (refine i_at g0 ?_) | (refine i_at g1 ?_) | (refine i_at g2 ?_) | (refine z0j he ?_) | (refine z0j hcl ?_) | (refine And.intro (by kernel_rfl) ?_) | (refine ccA ([]) (n1) ?_) | (refine ccA ([]) (n2) ?_) | (refine stpQ ?_))
    refine hQ1 _ _ ?_
    clear hQ1 Q1
    repeat ((try conv => whnf); first | (with_reducible first | refine z08 (fun Qs hN hE hR => ?_) | refine z06 ?_ | refine z00 (fun Qb kN kE kX kR => ?_) | refine z02 ?_ | refine z03 ?_ | refine z07 ?_ | refine z04 ?_ | refine z05 ?_ | (show W _ _ _ (.cond _ _ _) _ _; refine z01 rfl ?_) | (refine hN _ ?_; try clear hN hE hR Qs) | ((first | refine hE _ _ ?_ | refine hR _ ?_); try clear hN hE hR Qs) | ((first | refine kN _ ?_ | refine kE _ ?_ | refine kX _ _ rfl ?_ | refine kR _ ?_); try clear kN kE kX kR Qb)) | (refine stpQ ?_))
    (refine z09 (by rfl) ?_ ?_ (by rfl)) <;> (repeat' (first | (exact eqA) | (refine And.intro ?_ ?_) | ((fail_if_success (with_reducible (show _ = _))); (show _ = _)))) <;> first | rfl | (cases b1 <;> rfl)
   ·repeat ((try conv => whnf); first | (with_reducible first | refine z08 (fun Qs hN hE hR => ?_) | refine z06 ?_ | refine z00 (fun Qb kN kE kX kR => ?_) | refine z02 ?_ | refine z03 ?_ | refine z07 ?_ | refine z04 ?_ | refine z05 ?_ | (show W _ _ _ (.cond _ _ _) _ _; refine z01 rfl ?_) | (refine hN _ ?_; try clear hN hE hR Qs) | ((first | refine hE _ _ ?_ | refine hR _ ?_); try clear hN hE hR Qs) | ((first | refine kN _ ?_ | refine kE _ ?_ | refine kX _ _ rfl ?_ | refine kR _ ?_); try clear kN kE kX kR Qb)) | (refine z0b f1 ?_) | (refine And.intro i1 ?_) | (refine And.intro i2 ?_) | (refine Exists.intro _ (And.intro gw ?_)) | (refine Exists.intro _ (And.intro gs ?_)) | (refine i_at g0 ?_) | (refine i_at g1 ?_) | (refine i_at g2 ?_) | (refine z0j he ?_) | (refine z0j hcl ?_) | (refine And.intro (by kernel_rfl) ?_) | (refine ccA ([]) (n1) ?_) | (refine ccA ([]) (n2) ?_) | (refine stpQ ?_))
    refine hQ1 _ _ ?_
    clear hQ1 Q1
    repeat ((try conv => whnf); first | (with_reducible first | refine z08 (fun Qs hN hE hR => ?_) | refine z06 ?_ | refine z00 (fun Qb kN kE kX kR => ?_) | refine z02 ?_ | refine z03 ?_ | refine z07 ?_ | refine z04 ?_ | refine z05 ?_ | (show W _ _ _ (.cond _ _ _) _ _; refine z01 rfl ?_) | (refine hN _ ?_; try clear hN hE hR Qs) | ((first | refine hE _ _ ?_ | refine hR _ ?_); try clear hN hE hR Qs) | ((first | refine kN _ ?_ | refine kE _ ?_ | refine kX _ _ rfl ?_ | refine kR _ ?_); try clear kN kE kX kR Qb)) | (refine stpQ ?_))
    (refine z09 (by rfl) ?_ ?_ (by rfl)) <;> (repeat' (first | (exact eqA) | (refine And.intro ?_ ?_) | ((fail_if_success (with_reducible (show _ = _))); (show _ = _)))) <;> first | rfl | (cases b1 <;> rfl)
theorem zbC (p : List Bs) (j : Nat) (hj : j = 6) (hw : mvL.getD j [] = pt p 0) (hl : p.length = mvN j) : CT Tryd.prog 45 [] [.sl 1 (strE p)] (.tup [.agg (evC (mvE j p)), .bool (mvB j p)]) [] := by
 subst hj
 have hl : p.length = 3 := hl.trans rfl
 have g0 := z0g (p := p) (i := 0) (by omega)
 have g1 := z0g (p := p) (i := 1) (by omega)
 have g2 := z0g (p := p) (i := 2) (by omega)
 have hcl : ((strE p).length : Int) = ((mvN 6 : Nat) : Int) := by rw [z0h, hl]; rfl
 have n1 := z0e (pt p 1)
 have n2 := z0e (pt p 2)
 have hM : mvB 6 p = (isB (pt p 1) && isB (pt p 2)) := by simp [mvB]
 have hE : mvE 6 p = { k := 1, h := decV (pt p 1), mk := ((6 + 1 : Nat) : Int), ma := decV (pt p 2) } := by simp [mvE]
 rw [hM, hE]
 clear hM hE hl
 have hskip : ∀ x, x < 6 → (¬ pt p 0 = mvL.getD x []) ∨ (pt p 0 = mvL.getD x [] ∧ ¬ ((strE p).length : Int) = ((mvN x : Nat) : Int)) := fun x hx => .inl fun c => z2I 6 (by decide) x hx (c.symm.trans hw.symm)
 generalize (decV (pt p 1) : Int) = v1 at *
 generalize isB (pt p 1) = b1 at *
 generalize (decV (pt p 2) : Int) = v2 at *
 generalize isB (pt p 2) = b2 at *
 have he : pt p 0 = mvL.getD 6 [] := hw.symm
 clear hw
 generalize pt p 0 = w at *
 generalize strE p = z at *
 refine z0d z0f 1 rfl Tryd.func45 rfl rfl rfl ?_
 conv => arg 6; whnf
 repeat ((try conv => whnf); first | (with_reducible first | refine z08 (fun Qs hN hE hR => ?_) | refine z06 ?_ | refine z00 (fun Qb kN kE kX kR => ?_) | refine z02 ?_ | refine z03 ?_ | refine z07 ?_ | refine z04 ?_ | refine z05 ?_ | (show W _ _ _ (.cond _ _ _) _ _; refine z01 rfl ?_) | (refine hN _ ?_; try clear hN hE hR Qs) | ((first | refine hE _ _ ?_ | refine hR _ ?_); try clear hN hE hR Qs) | ((first | refine kN _ ?_ | refine kE _ ?_ | refine kX _ _ rfl ?_ | refine kR _ ?_); try clear kN kE kX kR Qb)) | (refine And.intro (by kernel_rfl) ?_) | (refine stpQ ?_))
 refine z0p Nat (fun x => ⟨[(0, .sl 1 z), (2, .ptr 1 0 0), (4, .ref 2), (5, .ref 3), (6, .int .i64 (x : Int))], [(1, some (.box zEv)), (2, some (.row 1 (strE mvL))), (3, some (.row 1 szM))], 4⟩) (fun x => x ≤ 6) (fun x => 6 + 1 - x) 0 (by omega) ?_ ?_
 ·(refine z0a (by rfl) ?_ ?_) <;> (repeat' (first | (exact eqA) | (refine And.intro ?_ ?_) | ((fail_if_success (with_reducible (show _ = _))); (show _ = _)))) <;> first | rfl | decide
 ·intro Q1 hQ1 x hx
  by_cases hxj : x < 6
  ·have i1 : x < (strE mvL).length := by show x < 10; omega
   have i2 : x < szM.length := by show x < 10; omega
   have f1 : (x : Int) < ((strE mvL).length : Int) := by show (x : Int) < 10; omega
   have gw : (strE mvL)[x]? = some [.str (mvL.getD x [])] := by rw [strE, List.getElem?_map, List.getD, List.getElem?_eq_getElem (show x < mvL.length from i2)]; rfl
   have gs := z0R x (by omega)
   rcases hskip x hxj with hne | ⟨heq, hne⟩
   ·clear hskip
    repeat ((try conv => whnf); first | (with_reducible first | refine z08 (fun Qs hN hE hR => ?_) | refine z06 ?_ | refine z00 (fun Qb kN kE kX kR => ?_) | refine z02 ?_ | refine z03 ?_ | refine z07 ?_ | refine z04 ?_ | refine z05 ?_ | (show W _ _ _ (.cond _ _ _) _ _; refine z01 rfl ?_) | (refine hN _ ?_; try clear hN hE hR Qs) | ((first | refine hE _ _ ?_ | refine hR _ ?_); try clear hN hE hR Qs) | ((first | refine kN _ ?_ | refine kE _ ?_ | refine kX _ _ rfl ?_ | refine kR _ ?_); try clear kN kE kX kR Qb)) | (refine z0b f1 ?_) | (refine And.intro i1 ?_) | (refine And.intro i2 ?_) | (refine Exists.intro _ (And.intro gw ?_)) | (refine i_at g0 ?_) | (refine z0r hne ?_) | (refine And.intro (by kernel_rfl) ?_) | (refine stpQ ?_))
    refine ⟨x + 1, by omega, by omega, ?_⟩
    (refine z0a (by rfl) ?_ ?_) <;> (repeat' (first | (exact eqA) | (refine And.intro ?_ ?_) | ((fail_if_success (with_reducible (show _ = _))); (show _ = _))))
   ·clear hskip
    repeat ((try conv => whnf); first | (with_reducible first | refine z08 (fun Qs hN hE hR => ?_) | refine z06 ?_ | refine z00 (fun Qb kN kE kX kR => ?_) | refine z02 ?_ | refine z03 ?_ | refine z07 ?_ | refine z04 ?_ | refine z05 ?_ | (show W _ _ _ (.cond _ _ _) _ _; refine z01 rfl ?_) | (refine hN _ ?_; try clear hN hE hR Qs) | ((first | refine hE _ _ ?_ | refine hR _ ?_); try clear hN hE hR Qs) | ((first | refine kN _ ?_ | refine kE _ ?_ | refine kX _ _ rfl ?_ | refine kR _ ?_); try clear kN kE kX kR Qb)) | (refine z0b f1 ?_) | (refine And.intro i1 ?_) | (refine And.intro i2 ?_) | (refine Exists.intro _ (And.intro gw ?_)) | (refine Exists.intro _ (And.intro gs ?_)) | (refine i_at g0 ?_) | (refine z0j heq ?_) | (refine z0r hne ?_) | (refine And.intro (by kernel_rfl) ?_) | (refine stpQ ?_))
    refine ⟨x + 1, by omega, by omega, ?_⟩
    (refine z0a (by rfl) ?_ ?_) <;> (repeat' (first | (exact eqA) | (refine And.intro ?_ ?_) | ((fail_if_success (with_reducible (show _ = _))); (show _ = _))))
  ·obtain rfl : x = 6 := by omega
   have i1 : 6 < (strE mvL).length := by decide
   have i2 : 6 < szM.length := by decide
   have f1 : ((6 : Nat) : Int) < ((strE mvL).length : Int) := by decide
   have gw : (strE mvL)[6]? = some [.str (mvL.getD 6 [])] := rfl
   have gs := z0R 6 (by omega)
   clear hskip hxj hx
   cases b2
   ·repeat ((try conv => whnf); first | (with_reducible first | refine z08 (fun Qs hN hE hR => ?_) | refine z06 ?_ | refine z00 (fun Qb kN kE kX kR => ?_) | refine z02 ?_ | refine z03 ?_ | refine z07 ?_ | refine z04 ?_ | refine z05 ?_ | (show W _ _ _ (.cond _ _ _) _ _; refine z01 rfl ?_) | (refine hN _ ?_; try clear hN hE hR Qs) | ((first | refine hE _ _ ?_ | refine hR _ ?_); try clear hN hE hR Qs) | ((first | refine kN _ ?_ | refine kE _ ?_ | refine kX _ _ rfl ?_ | refine kR _ ?_); try clear kN kE kX kR Qb)) | (refine z0b f1 ?_) | (refine And.intro i1 ?_) | (refine And.intro i2 ?_) | (refine Exists.intro _ (And.intro gw ?_)) | (refine Exists.intro _ (And.intro gs ?_)) | (refine i_at g0 ?_) | (refine i_at g1 ?_) | (refine i_at g2 ?_) | (refine z0j he ?_) | (refine z0j hcl ?_) | (refine And.intro (by kernel_rfl) ?_) | (refine ccA ([]) (n1) ?_) | (refine ccA ([]) (n2) ?_) | (refine stpQ ?_))
    refine hQ1 _ _ ?_
    clear hQ1 Q1
    repeat ((try conv => whnf); first | (with_reducible first | refine z08 (fun Qs hN hE hR => ?_) | refine z06 ?_ | refine z00 (fun Qb kN kE kX kR => ?_) | refine z02 ?_ | refine z03 ?_ | refine z07 ?_ | refine z04 ?_ | refine z05 ?_ | (show W _ _ _ (.cond _ _ _) _ _; refine z01 rfl ?_) | (refine hN _ ?_; try clear hN hE hR Qs) | ((first | refine hE _ _ ?_ | refine hR _ ?_); try clear hN hE hR Qs) | ((first | refine kN _ ?_ | refine kE _ ?_ | refine kX _ _ rfl ?_ | refine kR _ ?_); try clear kN kE kX kR Qb)) | (refine stpQ ?_))
    (refine z09 (by rfl) ?_ ?_ (by rfl)) <;> (repeat' (first | (exact eqA) | (refine And.intro ?_ ?_) | ((fail_if_success (with_reducible (show _ = _))); (show _ = _)))) <;> first | rfl | (cases b1 <;> rfl)
   ·repeat ((try conv => whnf); first | (with_reducible first | refine z08 (fun Qs hN hE hR => ?_) | refine z06 ?_ | refine z00 (fun Qb kN kE kX kR => ?_) | refine z02 ?_ | refine z03 ?_ | refine z07 ?_ | refine z04 ?_ | refine z05 ?_ | (show W _ _ _ (.cond _ _ _) _ _; refine z01 rfl ?_) | (refine hN _ ?_; try clear hN hE hR Qs) | ((first | refine hE _ _ ?_ | refine hR _ ?_); try clear hN hE hR Qs) | ((first | refine kN _ ?_ | refine kE _ ?_ | refine kX _ _ rfl ?_ | refine kR _ ?_); try clear kN kE kX kR Qb)) | (refine z0b f1 ?_) | (refine And.intro i1 ?_) | (refine And.intro i2 ?_) | (refine Exists.intro _ (And.intro gw ?_)) | (refine Exists.intro _ (And.intro gs ?_)) | (refine i_at g0 ?_) | (refine i_at g1 ?_) | (refine i_at g2 ?_) | (refine z0j he ?_) | (refine z0j hcl ?_) | (refine And.intro (by kernel_rfl) ?_) | (refine ccA ([]) (n1) ?_) | (refine ccA ([]) (n2) ?_) | (refine stpQ ?_))
    refine hQ1 _ _ ?_
    clear hQ1 Q1
    repeat ((try conv => whnf); first | (with_reducible first | refine z08 (fun Qs hN hE hR => ?_) | refine z06 ?_ | refine z00 (fun Qb kN kE kX kR => ?_) | refine z02 ?_ | refine z03 ?_ | refine z07 ?_ | refine z04 ?_ | refine z05 ?_ | (show W _ _ _ (.cond _ _ _) _ _; refine z01 rfl ?_) | (refine hN _ ?_; try clear hN hE hR Qs) | ((first | refine hE _ _ ?_ | refine hR _ ?_); try clear hN hE hR Qs) | ((first | refine kN _ ?_ | refine kE _ ?_ | refine kX _ _ rfl ?_ | refine kR _ ?_); try clear kN kE kX kR Qb)) | (refine stpQ ?_))
    (refine z09 (by rfl) ?_ ?_ (by rfl)) <;> (repeat' (first | (exact eqA) | (refine And.intro ?_ ?_) | ((fail_if_success (with_reducible (show _ = _))); (show _ = _)))) <;> first | rfl | (cases b1 <;> rfl)
theorem zbD (p : List Bs) (j : Nat) (hj : j = 7) (hw : mvL.getD j [] = pt p 0) (hl : p.length = mvN j) : CT Tryd.prog 45 [] [.sl 1 (strE p)] (.tup [.agg (evC (mvE j p)), .bool (mvB j p)]) [] := by
 subst hj
 have hl : p.length = 3 := hl.trans rfl
 have g0 := z0g (p := p) (i := 0) (by omega)
 have g1 := z0g (p := p) (i := 1) (by omega)
 have g2 := z0g (p := p) (i := 2) (by omega)
 have hcl : ((strE p).length : Int) = ((mvN 7 : Nat) : Int) := by rw [z0h, hl]; rfl
 have n1 := z0e (pt p 1)
 have n2 := z0e (pt p 2)
 have hM : mvB 7 p = (isB (pt p 1) && isB (pt p 2)) := by simp [mvB]
 have hE : mvE 7 p = { k := 1, h := decV (pt p 1), mk := ((7 + 1 : Nat) : Int), ma := decV (pt p 2) } := by simp [mvE]
 rw [hM, hE]
 clear hM hE hl
 have hskip : ∀ x, x < 7 → (¬ pt p 0 = mvL.getD x []) ∨ (pt p 0 = mvL.getD x [] ∧ ¬ ((strE p).length : Int) = ((mvN x : Nat) : Int)) := fun x hx => .inl fun c => z2I 7 (by decide) x hx (c.symm.trans hw.symm)
 generalize (decV (pt p 1) : Int) = v1 at *
 generalize isB (pt p 1) = b1 at *
 generalize (decV (pt p 2) : Int) = v2 at *
 generalize isB (pt p 2) = b2 at *
 have he : pt p 0 = mvL.getD 7 [] := hw.symm
 clear hw
 generalize pt p 0 = w at *
 generalize strE p = z at *
 refine z0d z0f 1 rfl Tryd.func45 rfl rfl rfl ?_
 conv => arg 6; whnf
 repeat ((try conv => whnf); first | (with_reducible first | refine z08 (fun Qs hN hE hR => ?_) | refine z06 ?_ | refine z00 (fun Qb kN kE kX kR => ?_) | refine z02 ?_ | refine z03 ?_ | refine z07 ?_ | refine z04 ?_ | refine z05 ?_ | (show W _ _ _ (.cond _ _ _) _ _; refine z01 rfl ?_) | (refine hN _ ?_; try clear hN hE hR Qs) | ((first | refine hE _ _ ?_ | refine hR _ ?_); try clear hN hE hR Qs) | ((first | refine kN _ ?_ | refine kE _ ?_ | refine kX _ _ rfl ?_ | refine kR _ ?_); try clear kN kE kX kR Qb)) | (refine And.intro (by kernel_rfl) ?_) | (refine stpQ ?_))
 refine z0p Nat (fun x => ⟨[(0, .sl 1 z), (2, .ptr 1 0 0), (4, .ref 2), (5, .ref 3), (6, .int .i64 (x : Int))], [(1, some (.box zEv)), (2, some (.row 1 (strE mvL))), (3, some (.row 1 szM))], 4⟩) (fun x => x ≤ 7) (fun x => 7 + 1 - x) 0 (by omega) ?_ ?_
 ·(refine z0a (by rfl) ?_ ?_) <;> (repeat' (first | (exact eqA) | (refine And.intro ?_ ?_) | ((fail_if_success (with_reducible (show _ = _))); (show _ = _)))) <;> first | rfl | decide
 ·intro Q1 hQ1 x hx
  by_cases hxj : x < 7
  ·have i1 : x < (strE mvL).length := by show x < 10; omega
   have i2 : x < szM.length := by show x < 10; omega
   have f1 : (x : Int) < ((strE mvL).length : Int) := by show (x : Int) < 10; omega
   have gw : (strE mvL)[x]? = some [.str (mvL.getD x [])] := by rw [strE, List.getElem?_map, List.getD, List.getElem?_eq_getElem (show x < mvL.length from i2)]; rfl
   have gs := z0R x (by omega)
   rcases hskip x hxj with hne | ⟨heq, hne⟩
   ·clear hskip
    repeat ((try conv => whnf); first | (with_reducible first | refine z08 (fun Qs hN hE hR => ?_) | refine z06 ?_ | refine z00 (fun Qb kN kE kX kR => ?_) | refine z02 ?_ | refine z03 ?_ | refine z07 ?_ | refine z04 ?_ | refine z05 ?_ | (show W _ _ _ (.cond _ _ _) _ _; refine z01 rfl ?_) | (refine hN _ ?_; try clear hN hE hR Qs) | ((first | refine hE _ _ ?_ | refine hR _ ?_); try clear hN hE hR Qs) | ((first | refine kN _ ?_ | refine kE _ ?_ | refine kX _ _ rfl ?_ | refine kR _ ?_); try clear kN kE kX kR Qb)) | (refine z0b f1 ?_) | (refine And.intro i1 ?_) | (refine And.intro i2 ?_) | (refine Exists.intro _ (And.intro gw ?_)) | (refine i_at g0 ?_) | (refine z0r hne ?_) | (refine And.intro (by kernel_rfl) ?_) | (refine stpQ ?_))
    refine ⟨x + 1, by omega, by omega, ?_⟩
    (refine z0a (by rfl) ?_ ?_) <;> (repeat' (first | (exact eqA) | (refine And.intro ?_ ?_) | ((fail_if_success (with_reducible (show _ = _))); (show _ = _))))
   ·clear hskip
    repeat ((try conv => whnf); first | (with_reducible first | refine z08 (fun Qs hN hE hR => ?_) | refine z06 ?_ | refine z00 (fun Qb kN kE kX kR => ?_) | refine z02 ?_ | refine z03 ?_ | refine z07 ?_ | refine z04 ?_ | refine z05 ?_ | (show W _ _ _ (.cond _ _ _) _ _; refine z01 rfl ?_) | (refine hN _ ?_; try clear hN hE hR Qs) | ((first | refine hE _ _ ?_ | refine hR _ ?_); try clear hN hE hR Qs) | ((first | refine kN _ ?_ | refine kE _ ?_ | refine kX _ _ rfl ?_ | refine kR _ ?_); try clear kN kE kX kR Qb)) | (refine z0b f1 ?_) | (refine And.intro i1 ?_) | (refine And.intro i2 ?_) | (refine Exists.intro _ (And.intro gw ?_)) | (refine Exists.intro _ (And.intro gs ?_)) | (refine i_at g0 ?_) | (refine z0j heq ?_) | (refine z0r hne ?_) | (refine And.intro (by kernel_rfl) ?_) | (refine stpQ ?_))
    refine ⟨x + 1, by omega, by omega, ?_⟩
    (refine z0a (by rfl) ?_ ?_) <;> (repeat' (first | (exact eqA) | (refine And.intro ?_ ?_) | ((fail_if_success (with_reducible (show _ = _))); (show _ = _))))
  ·obtain rfl : x = 7 := by omega
   have i1 : 7 < (strE mvL).length := by decide
   have i2 : 7 < szM.length := by decide
   have f1 : ((7 : Nat) : Int) < ((strE mvL).length : Int) := by decide
   have gw : (strE mvL)[7]? = some [.str (mvL.getD 7 [])] := rfl
   have gs := z0R 7 (by omega)
   clear hskip hxj hx
   cases b2
   ·repeat ((try conv => whnf); first | (with_reducible first | refine z08 (fun Qs hN hE hR => ?_) | refine z06 ?_ | refine z00 (fun Qb kN kE kX kR => ?_) | refine z02 ?_ | refine z03 ?_ | refine z07 ?_ | refine z04 ?_ | refine z05 ?_ | (show W _ _ _ (.cond _ _ _) _ _; refine z01 rfl ?_) | (refine hN _ ?_; try clear hN hE hR Qs) | ((first | refine hE _ _ ?_ | refine hR _ ?_); try clear hN hE hR Qs) | ((first | refine kN _ ?_ | refine kE _ ?_ | refine kX _ _ rfl ?_ | refine kR _ ?_); try clear kN kE kX kR Qb)) | (refine z0b f1 ?_) | (refine And.intro i1 ?_) | (refine And.intro i2 ?_) | (refine Exists.intro _ (And.intro gw ?_)) | (refine Exists.intro _ (And.intro gs ?_)) | (refine i_at g0 ?_) | (refine i_at g1 ?_) | (refine i_at g2 ?_) | (refine z0j he ?_) | (refine z0j hcl ?_) | (refine And.intro (by kernel_rfl) ?_) | (refine ccA ([]) (n1) ?_) | (refine ccA ([]) (n2) ?_) | (refine stpQ ?_))
    refine hQ1 _ _ ?_
    clear hQ1 Q1
    repeat ((try conv => whnf); first | (with_reducible first | refine z08 (fun Qs hN hE hR => ?_) | refine z06 ?_ | refine z00 (fun Qb kN kE kX kR => ?_) | refine z02 ?_ | refine z03 ?_ | refine z07 ?_ | refine z04 ?_ | refine z05 ?_ | (show W _ _ _ (.cond _ _ _) _ _; refine z01 rfl ?_) | (refine hN _ ?_; try clear hN hE hR Qs) | ((first | refine hE _ _ ?_ | refine hR _ ?_); try clear hN hE hR Qs) | ((first | refine kN _ ?_ | refine kE _ ?_ | refine kX _ _ rfl ?_ | refine kR _ ?_); try clear kN kE kX kR Qb)) | (refine stpQ ?_))
    (refine z09 (by rfl) ?_ ?_ (by rfl)) <;> (repeat' (first | (exact eqA) | (refine And.intro ?_ ?_) | ((fail_if_success (with_reducible (show _ = _))); (show _ = _)))) <;> first | rfl | (cases b1 <;> rfl)
   ·repeat ((try conv => whnf); first | (with_reducible first | refine z08 (fun Qs hN hE hR => ?_) | refine z06 ?_ | refine z00 (fun Qb kN kE kX kR => ?_) | refine z02 ?_ | refine z03 ?_ | refine z07 ?_ | refine z04 ?_ | refine z05 ?_ | (show W _ _ _ (.cond _ _ _) _ _; refine z01 rfl ?_) | (refine hN _ ?_; try clear hN hE hR Qs) | ((first | refine hE _ _ ?_ | refine hR _ ?_); try clear hN hE hR Qs) | ((first | refine kN _ ?_ | refine kE _ ?_ | refine kX _ _ rfl ?_ | refine kR _ ?_); try clear kN kE kX kR Qb)) | (refine z0b f1 ?_) | (refine And.intro i1 ?_) | (refine And.intro i2 ?_) | (refine Exists.intro _ (And.intro gw ?_)) | (refine Exists.intro _ (And.intro gs ?_)) | (refine i_at g0 ?_) | (refine i_at g1 ?_) | (refine i_at g2 ?_) | (refine z0j he ?_) | (refine z0j hcl ?_) | (refine And.intro (by kernel_rfl) ?_) | (refine ccA ([]) (n1) ?_) | (refine ccA ([]) (n2) ?_) | (refine stpQ ?_))
    refine hQ1 _ _ ?_
    clear hQ1 Q1
    repeat ((try conv => whnf); first | (with_reducible first | refine z08 (fun Qs hN hE hR => ?_) | refine z06 ?_ | refine z00 (fun Qb kN kE kX kR => ?_) | refine z02 ?_ | refine z03 ?_ | refine z07 ?_ | refine z04 ?_ | refine z05 ?_ | (show W _ _ _ (.cond _ _ _) _ _; refine z01 rfl ?_) | (refine hN _ ?_; try clear hN hE hR Qs) | ((first | refine hE _ _ ?_ | refine hR _ ?_); try clear hN hE hR Qs) | ((first | refine kN _ ?_ | refine kE _ ?_ | refine kX _ _ rfl ?_ | refine kR _ ?_); try clear kN kE kX kR Qb)) | (refine stpQ ?_))
    (refine z09 (by rfl) ?_ ?_ (by rfl)) <;> (repeat' (first | (exact eqA) | (refine And.intro ?_ ?_) | ((fail_if_success (with_reducible (show _ = _))); (show _ = _)))) <;> first | rfl | (cases b1 <;> rfl)
theorem zbE (p : List Bs) (j : Nat) (hj : j = 8) (hw : mvL.getD j [] = pt p 0) (hl : p.length = mvN j) : CT Tryd.prog 45 [] [.sl 1 (strE p)] (.tup [.agg (evC (mvE j p)), .bool (mvB j p)]) [] := by
 subst hj
 have hl : p.length = 4 := hl.trans rfl
 have g0 := z0g (p := p) (i := 0) (by omega)
 have g1 := z0g (p := p) (i := 1) (by omega)
 have g2 := z0g (p := p) (i := 2) (by omega)
 have g3 := z0g (p := p) (i := 3) (by omega)
 have hcl : ((strE p).length : Int) = ((mvN 8 : Nat) : Int) := by rw [z0h, hl]; rfl
 have n1 := z0e (pt p 1)
 have n2 := z0e (pt p 2)
 have n3 := z0e (pt p 3)
 have hM : mvB 8 p = (isB (pt p 1) && (isB (pt p 2) && isB (pt p 3))) := by simp [mvB]
 have hE : mvE 8 p = { k := 1, h := decV (pt p 1), mk := ((8 + 1 : Nat) : Int), mn := decV (pt p 2), ma := decV (pt p 3) } := by simp [mvE]
 rw [hM, hE]
 clear hM hE hl
 have hskip : ∀ x, x < 8 → (¬ pt p 0 = mvL.getD x []) ∨ (pt p 0 = mvL.getD x [] ∧ ¬ ((strE p).length : Int) = ((mvN x : Nat) : Int)) := fun x hx => .inl fun c => z2I 8 (by decide) x hx (c.symm.trans hw.symm)
 generalize (decV (pt p 1) : Int) = v1 at *
 generalize isB (pt p 1) = b1 at *
 generalize (decV (pt p 2) : Int) = v2 at *
 generalize isB (pt p 2) = b2 at *
 generalize (decV (pt p 3) : Int) = v3 at *
 generalize isB (pt p 3) = b3 at *
 have he : pt p 0 = mvL.getD 8 [] := hw.symm
 clear hw
 generalize pt p 0 = w at *
 generalize strE p = z at *
 refine z0d z0f 1 rfl Tryd.func45 rfl rfl rfl ?_
 conv => arg 6; whnf
 repeat ((try conv => whnf); first | (with_reducible first | refine z08 (fun Qs hN hE hR => ?_) | refine z06 ?_ | refine z00 (fun Qb kN kE kX kR => ?_) | refine z02 ?_ | refine z03 ?_ | refine z07 ?_ | refine z04 ?_ | refine z05 ?_ | (show W _ _ _ (.cond _ _ _) _ _; refine z01 rfl ?_) | (refine hN _ ?_; try clear hN hE hR Qs) | ((first | refine hE _ _ ?_ | refine hR _ ?_); try clear hN hE hR Qs) | ((first | refine kN _ ?_ | refine kE _ ?_ | refine kX _ _ rfl ?_ | refine kR _ ?_); try clear kN kE kX kR Qb)) | (refine And.intro (by kernel_rfl) ?_) | (refine stpQ ?_))
 refine z0p Nat (fun x => ⟨[(0, .sl 1 z), (2, .ptr 1 0 0), (4, .ref 2), (5, .ref 3), (6, .int .i64 (x : Int))], [(1, some (.box zEv)), (2, some (.row 1 (strE mvL))), (3, some (.row 1 szM))], 4⟩) (fun x => x ≤ 8) (fun x => 8 + 1 - x) 0 (by omega) ?_ ?_
 ·(refine z0a (by rfl) ?_ ?_) <;> (repeat' (first | (exact eqA) | (refine And.intro ?_ ?_) | ((fail_if_success (with_reducible (show _ = _))); (show _ = _)))) <;> first | rfl | decide
 ·intro Q1 hQ1 x hx
  by_cases hxj : x < 8
  ·have i1 : x < (strE mvL).length := by show x < 10; omega
   have i2 : x < szM.length := by show x < 10; omega
   have f1 : (x : Int) < ((strE mvL).length : Int) := by show (x : Int) < 10; omega
   have gw : (strE mvL)[x]? = some [.str (mvL.getD x [])] := by rw [strE, List.getElem?_map, List.getD, List.getElem?_eq_getElem (show x < mvL.length from i2)]; rfl
   have gs := z0R x (by omega)
   rcases hskip x hxj with hne | ⟨heq, hne⟩
   ·clear hskip
    repeat ((try conv => whnf); first | (with_reducible first | refine z08 (fun Qs hN hE hR => ?_) | refine z06 ?_ | refine z00 (fun Qb kN kE kX kR => ?_) | refine z02 ?_ | refine z03 ?_ | refine z07 ?_ | refine z04 ?_ | refine z05 ?_ | (show W _ _ _ (.cond _ _ _) _ _; refine z01 rfl ?_) | (refine hN _ ?_; try clear hN hE hR Qs) | ((first | refine hE _ _ ?_ | refine hR _ ?_); try clear hN hE hR Qs) | ((first | refine kN _ ?_ | refine kE _ ?_ | refine kX _ _ rfl ?_ | refine kR _ ?_); try clear kN kE kX kR Qb)) | (refine z0b f1 ?_) | (refine And.intro i1 ?_) | (refine And.intro i2 ?_) | (refine Exists.intro _ (And.intro gw ?_)) | (refine i_at g0 ?_) | (refine z0r hne ?_) | (refine And.intro (by kernel_rfl) ?_) | (refine stpQ ?_))
    refine ⟨x + 1, by omega, by omega, ?_⟩
    (refine z0a (by rfl) ?_ ?_) <;> (repeat' (first | (exact eqA) | (refine And.intro ?_ ?_) | ((fail_if_success (with_reducible (show _ = _))); (show _ = _))))
   ·clear hskip
    repeat ((try conv => whnf); first | (with_reducible first | refine z08 (fun Qs hN hE hR => ?_) | refine z06 ?_ | refine z00 (fun Qb kN kE kX kR => ?_) | refine z02 ?_ | refine z03 ?_ | refine z07 ?_ | refine z04 ?_ | refine z05 ?_ | (show W _ _ _ (.cond _ _ _) _ _; refine z01 rfl ?_) | (refine hN _ ?_; try clear hN hE hR Qs) | ((first | refine hE _ _ ?_ | refine hR _ ?_); try clear hN hE hR Qs) | ((first | refine kN _ ?_ | refine kE _ ?_ | refine kX _ _ rfl ?_ | refine kR _ ?_); try clear kN kE kX kR Qb)) | (refine z0b f1 ?_) | (refine And.intro i1 ?_) | (refine And.intro i2 ?_) | (refine Exists.intro _ (And.intro gw ?_)) | (refine Exists.intro _ (And.intro gs ?_)) | (refine i_at g0 ?_) | (refine z0j heq ?_) | (refine z0r hne ?_) | (refine And.intro (by kernel_rfl) ?_) | (refine stpQ ?_))
    refine ⟨x + 1, by omega, by omega, ?_⟩
    (refine z0a (by rfl) ?_ ?_) <;> (repeat' (first | (exact eqA) | (refine And.intro ?_ ?_) | ((fail_if_success (with_reducible (show _ = _))); (show _ = _))))
  ·obtain rfl : x = 8 := by omega
   have i1 : 8 < (strE mvL).length := by decide
   have i2 : 8 < szM.length := by decide
   have f1 : ((8 : Nat) : Int) < ((strE mvL).length : Int) := by decide
   have gw : (strE mvL)[8]? = some [.str (mvL.getD 8 [])] := rfl
   have gs := z0R 8 (by omega)
   clear hskip hxj hx
   cases b2
   ·cases b3
    ·repeat ((try conv => whnf); first | (with_reducible first | refine z08 (fun Qs hN hE hR => ?_) | refine z06 ?_ | refine z00 (fun Qb kN kE kX kR => ?_) | refine z02 ?_ | refine z03 ?_ | refine z07 ?_ | refine z04 ?_ | refine z05 ?_ | (show W _ _ _ (.cond _ _ _) _ _; refine z01 rfl ?_) | (refine hN _ ?_; try clear hN hE hR Qs) | ((first | refine hE _ _ ?_ | refine hR _ ?_); try clear hN hE hR Qs) | ((first | refine kN _ ?_ | refine kE _ ?_ | refine kX _ _ rfl ?_ | refine kR _ ?_); try clear kN kE kX kR Qb)) | (refine z0b f1 ?_) | (refine And.intro i1 ?_) | (refine And.intro i2 ?_) | (refine Exists.intro _ (And.intro gw ?_)) | (refine Exists.intro _ (And.intro gs ?_)) | (refine i_at g0 ?_) | (refine i_at g1 ?_) | (refine i_at g2 ?_) | (refine i_at g3 ?_) | (refine z0j he ?_) | (refine z0j hcl ?_) | (refine And.intro (by kernel_rfl) ?_) | (refine ccA ([]) (n1) ?_) | (refine ccA ([]) (n2) ?_) | (refine ccA ([]) (n3) ?_) | (refine stpQ ?_))
     refine hQ1 _ _ ?_
     clear hQ1 Q1
     repeat ((try conv => whnf); first | (with_reducible first | refine z08 (fun Qs hN hE hR => ?_) | refine z06 ?_ | refine z00 (fun Qb kN kE kX kR => ?_) | refine z02 ?_ | refine z03 ?_ | refine z07 ?_ | refine z04 ?_ | refine z05 ?_ | (show W _ _ _ (.cond _ _ _) _ _; refine z01 rfl ?_) | (refine hN _ ?_; try clear hN hE hR Qs) | ((first | refine hE _ _ ?_ | refine hR _ ?_); try clear hN hE hR Qs) | ((first | refine kN _ ?_ | refine kE _ ?_ | refine kX _ _ rfl ?_ | refine kR _ ?_); try clear kN kE kX kR Qb)) | (refine stpQ ?_))
     (refine z09 (by rfl) ?_ ?_ (by rfl)) <;> (repeat' (first | (exact eqA) | (refine And.intro ?_ ?_) | ((fail_if_success (with_reducible (show _ = _))); (show _ = _)))) <;> first | rfl | (cases b1 <;> rfl)
    ·repeat ((try conv => whnf); first | (with_reducible first | refine z08 (fun Qs hN hE hR => ?_) | refine z06 ?_ | refine z00 (fun Qb kN kE kX kR => ?_) | refine z02 ?_ | refine z03 ?_ | refine z07 ?_ | refine z04 ?_ | refine z05 ?_ | (show W _ _ _ (.cond _ _ _) _ _; refine z01 rfl ?_) | (refine hN _ ?_; try clear hN hE hR Qs) | ((first | refine hE _ _ ?_ | refine hR _ ?_); try clear hN hE hR Qs) | ((first | refine kN _ ?_ | refine kE _ ?_ | refine kX _ _ rfl ?_ | refine kR _ ?_); try clear kN kE kX kR Qb)) | (refine z0b f1 ?_) | (refine And.intro i1 ?_) | (refine And.intro i2 ?_) | (refine Exists.intro _ (And.intro gw ?_)) | (refine Exists.intro _ (And.intro gs ?_)) | (refine i_at g0 ?_) | (refine i_at g1 ?_) | (refine i_at g2 ?_) | (refine i_at g3 ?_) | (refine z0j he ?_) | (refine z0j hcl ?_) | (refine And.intro (by kernel_rfl) ?_) | (refine ccA ([]) (n1) ?_) | (refine ccA ([]) (n2) ?_) | (refine ccA ([]) (n3) ?_) | (refine stpQ ?_))
     refine hQ1 _ _ ?_
     clear hQ1 Q1
     repeat ((try conv => whnf); first | (with_reducible first | refine z08 (fun Qs hN hE hR => ?_) | refine z06 ?_ | refine z00 (fun Qb kN kE kX kR => ?_) | refine z02 ?_ | refine z03 ?_ | refine z07 ?_ | refine z04 ?_ | refine z05 ?_ | (show W _ _ _ (.cond _ _ _) _ _; refine z01 rfl ?_) | (refine hN _ ?_; try clear hN hE hR Qs) | ((first | refine hE _ _ ?_ | refine hR _ ?_); try clear hN hE hR Qs) | ((first | refine kN _ ?_ | refine kE _ ?_ | refine kX _ _ rfl ?_ | refine kR _ ?_); try clear kN kE kX kR Qb)) | (refine stpQ ?_))
     (refine z09 (by rfl) ?_ ?_ (by rfl)) <;> (repeat' (first | (exact eqA) | (refine And.intro ?_ ?_) | ((fail_if_success (with_reducible (show _ = _))); (show _ = _)))) <;> first | rfl | (cases b1 <;> rfl)
   ·cases b3
    ·repeat ((try conv => whnf); first | (with_reducible first | refine z08 (fun Qs hN hE hR => ?_) | refine z06 ?_ | refine z00 (fun Qb kN kE kX kR => ?_) | refine z02 ?_ | refine z03 ?_ | refine z07 ?_ | refine z04 ?_ | refine z05 ?_ | (show W _ _ _ (.cond _ _ _) _ _; refine z01 rfl ?_) | (refine hN _ ?_; try clear hN hE hR Qs) | ((first | refine hE _ _ ?_ | refine hR _ ?_); try clear hN hE hR Qs) | ((first | refine kN _ ?_ | refine kE _ ?_ | refine kX _ _ rfl ?_ | refine kR _ ?_); try clear kN kE kX kR Qb)) | (refine z0b f1 ?_) | (refine And.intro i1 ?_) | (refine And.intro i2 ?_) | (refine Exists.intro _ (And.intro gw ?_)) | (refine Exists.intro _ (And.intro gs ?_)) | (refine i_at g0 ?_) | (refine i_at g1 ?_) | (refine i_at g2 ?_) | (refine i_at g3 ?_) | (refine z0j he ?_) | (refine z0j hcl ?_) | (refine And.intro (by kernel_rfl) ?_) | (refine ccA ([]) (n1) ?_) | (refine ccA ([]) (n2) ?_) | (refine ccA ([]) (n3) ?_) | (refine stpQ ?_))
     refine hQ1 _ _ ?_
     clear hQ1 Q1
     repeat ((try conv => whnf); first | (with_reducible first | refine z08 (fun Qs hN hE hR => ?_) | refine z06 ?_ | refine z00 (fun Qb kN kE kX kR => ?_) | refine z02 ?_ | refine z03 ?_ | refine z07 ?_ | refine z04 ?_ | refine z05 ?_ | (show W _ _ _ (.cond _ _ _) _ _; refine z01 rfl ?_) | (refine hN _ ?_; try clear hN hE hR Qs) | ((first | refine hE _ _ ?_ | refine hR _ ?_); try clear hN hE hR Qs) | ((first | refine kN _ ?_ | refine kE _ ?_ | refine kX _ _ rfl ?_ | refine kR _ ?_); try clear kN kE kX kR Qb)) | (refine stpQ ?_))
     (refine z09 (by rfl) ?_ ?_ (by rfl)) <;> (repeat' (first | (exact eqA) | (refine And.intro ?_ ?_) | ((fail_if_success (with_reducible (show _ = _))); (show _ = _)))) <;> first | rfl | (cases b1 <;> rfl)
    ·repeat ((try conv => whnf); first | (with_reducible first | refine z08 (fun Qs hN hE hR => ?_) | refine z06 ?_ | refine z00 (fun Qb kN kE kX kR => ?_) | refine z02 ?_ | refine z03 ?_ | refine z07 ?_ | refine z04 ?_ | refine z05 ?_ | (show W _ _ _ (.cond _ _ _) _ _; refine z01 rfl ?_) | (refine hN _ ?_; try clear hN hE hR Qs) | ((first | refine hE _ _ ?_ | refine hR _ ?_); try clear hN hE hR Qs) | ((first | refine kN _ ?_ | refine kE _ ?_ | refine kX _ _ rfl ?_ | refine kR _ ?_); try clear kN kE kX kR Qb)) | (refine z0b f1 ?_) | (refine And.intro i1 ?_) | (refine And.intro i2 ?_) | (refine Exists.intro _ (And.intro gw ?_)) | (refine Exists.intro _ (And.intro gs ?_)) | (refine i_at g0 ?_) | (refine i_at g1 ?_) | (refine i_at g2 ?_) | (refine i_at g3 ?_) | (refine z0j he ?_) | (refine z0j hcl ?_) | (refine And.intro (by kernel_rfl) ?_) | (refine ccA ([]) (n1) ?_) | (refine ccA ([]) (n2) ?_) | (refine ccA ([]) (n3) ?_) | (refine stpQ ?_))
     refine hQ1 _ _ ?_
     clear hQ1 Q1
     repeat ((try conv => whnf); first | (with_reducible first | refine z08 (fun Qs hN hE hR => ?_) | refine z06 ?_ | refine z00 (fun Qb kN kE kX kR => ?_) | refine z02 ?_ | refine z03 ?_ | refine z07 ?_ | refine z04 ?_ | refine z05 ?_ | (show W _ _ _ (.cond _ _ _) _ _; refine z01 rfl ?_) | (refine hN _ ?_; try clear hN hE hR Qs) | ((first | refine hE _ _ ?_ | refine hR _ ?_); try clear hN hE hR Qs) | ((first | refine kN _ ?_ | refine kE _ ?_ | refine kX _ _ rfl ?_ | refine kR _ ?_); try clear kN kE kX kR Qb)) | (refine stpQ ?_))
     (refine z09 (by rfl) ?_ ?_ (by rfl)) <;> (repeat' (first | (exact eqA) | (refine And.intro ?_ ?_) | ((fail_if_success (with_reducible (show _ = _))); (show _ = _)))) <;> first | rfl | (cases b1 <;> rfl)
theorem zbF (p : List Bs) (j : Nat) (hj : j = 9) (hw : mvL.getD j [] = pt p 0) (hl : p.length = mvN j) : CT Tryd.prog 45 [] [.sl 1 (strE p)] (.tup [.agg (evC (mvE j p)), .bool (mvB j p)]) [] := by
 subst hj
 have hl : p.length = 3 := hl.trans rfl
 have g0 := z0g (p := p) (i := 0) (by omega)
 have g1 := z0g (p := p) (i := 1) (by omega)
 have g2 := z0g (p := p) (i := 2) (by omega)
 have hcl : ((strE p).length : Int) = ((mvN 9 : Nat) : Int) := by rw [z0h, hl]; rfl
 have n1 := z0e (pt p 1)
 have n2 := z0e (pt p 2)
 have hM : mvB 9 p = (isB (pt p 1) && isB (pt p 2)) := by simp [mvB]
 have hE : mvE 9 p = { k := 1, h := decV (pt p 1), mk := ((9 + 1 : Nat) : Int), mn := decV (pt p 2) } := by simp [mvE]
 rw [hM, hE]
 clear hM hE hl
 have hskip : ∀ x, x < 9 → (¬ pt p 0 = mvL.getD x []) ∨ (pt p 0 = mvL.getD x [] ∧ ¬ ((strE p).length : Int) = ((mvN x : Nat) : Int)) := fun x hx => .inl fun c => z2I 9 (by decide) x hx (c.symm.trans hw.symm)
 generalize (decV (pt p 1) : Int) = v1 at *
 generalize isB (pt p 1) = b1 at *
 generalize (decV (pt p 2) : Int) = v2 at *
 generalize isB (pt p 2) = b2 at *
 have he : pt p 0 = mvL.getD 9 [] := hw.symm
 clear hw
 generalize pt p 0 = w at *
 generalize strE p = z at *
 refine z0d z0f 1 rfl Tryd.func45 rfl rfl rfl ?_
 conv => arg 6; whnf
 repeat ((try conv => whnf); first | (with_reducible first | refine z08 (fun Qs hN hE hR => ?_) | refine z06 ?_ | refine z00 (fun Qb kN kE kX kR => ?_) | refine z02 ?_ | refine z03 ?_ | refine z07 ?_ | refine z04 ?_ | refine z05 ?_ | (show W _ _ _ (.cond _ _ _) _ _; refine z01 rfl ?_) | (refine hN _ ?_; try clear hN hE hR Qs) | ((first | refine hE _ _ ?_ | refine hR _ ?_); try clear hN hE hR Qs) | ((first | refine kN _ ?_ | refine kE _ ?_ | refine kX _ _ rfl ?_ | refine kR _ ?_); try clear kN kE kX kR Qb)) | (refine And.intro (by kernel_rfl) ?_) | (refine stpQ ?_))
 refine z0p Nat (fun x => ⟨[(0, .sl 1 z), (2, .ptr 1 0 0), (4, .ref 2), (5, .ref 3), (6, .int .i64 (x : Int))], [(1, some (.box zEv)), (2, some (.row 1 (strE mvL))), (3, some (.row 1 szM))], 4⟩) (fun x => x ≤ 9) (fun x => 9 + 1 - x) 0 (by omega) ?_ ?_
 ·(refine z0a (by rfl) ?_ ?_) <;> (repeat' (first | (exact eqA) | (refine And.intro ?_ ?_) | ((fail_if_success (with_reducible (show _ = _))); (show _ = _)))) <;> first | rfl | decide
 ·intro Q1 hQ1 x hx
  by_cases hxj : x < 9
  ·have i1 : x < (strE mvL).length := by show x < 10; omega
   have i2 : x < szM.length := by show x < 10; omega
   have f1 : (x : Int) < ((strE mvL).length : Int) := by show (x : Int) < 10; omega
   have gw : (strE mvL)[x]? = some [.str (mvL.getD x [])] := by rw [strE, List.getElem?_map, List.getD, List.getElem?_eq_getElem (show x < mvL.length from i2)]; rfl
   have gs := z0R x (by omega)
   rcases hskip x hxj with hne | ⟨heq, hne⟩
   ·clear hskip
    repeat ((try conv => whnf); first | (with_reducible first | refine z08 (fun Qs hN hE hR => ?_) | refine z06 ?_ | refine z00 (fun Qb kN kE kX kR => ?_) | refine z02 ?_ | refine z03 ?_ | refine z07 ?_ | refine z04 ?_ | refine z05 ?_ | (show W _ _ _ (.cond _ _ _) _ _; refine z01 rfl ?_) | (refine hN _ ?_; try clear hN hE hR Qs) | ((first | refine hE _ _ ?_ | refine hR _ ?_); try clear hN hE hR Qs) | ((first | refine kN _ ?_ | refine kE _ ?_ | refine kX _ _ rfl ?_ | refine kR _ ?_); try clear kN kE kX kR Qb)) | (refine z0b f1 ?_) | (refine And.intro i1 ?_) | (refine And.intro i2 ?_) | (refine Exists.intro _ (And.intro gw ?_)) | (refine i_at g0 ?_) | (refine z0r hne ?_) | (refine And.intro (by kernel_rfl) ?_) | (refine stpQ ?_))
    refine ⟨x + 1, by omega, by omega, ?_⟩
    (refine z0a (by rfl) ?_ ?_) <;> (repeat' (first | (exact eqA) | (refine And.intro ?_ ?_) | ((fail_if_success (with_reducible (show _ = _))); (show _ = _))))
   ·clear hskip
    repeat ((try conv => whnf); first | (with_reducible first | refine z08 (fun Qs hN hE hR => ?_) | refine z06 ?_ | refine z00 (fun Qb kN kE kX kR => ?_) | refine z02 ?_ | refine z03 ?_ | refine z07 ?_ | refine z04 ?_ | refine z05 ?_ | (show W _ _ _ (.cond _ _ _) _ _; refine z01 rfl ?_) | (refine hN _ ?_; try clear hN hE hR Qs) | ((first | refine hE _ _ ?_ | refine hR _ ?_); try clear hN hE hR Qs) | ((first | refine kN _ ?_ | refine kE _ ?_ | refine kX _ _ rfl ?_ | refine kR _ ?_); try clear kN kE kX kR Qb)) | (refine z0b f1 ?_) | (refine And.intro i1 ?_) | (refine And.intro i2 ?_) | (refine Exists.intro _ (And.intro gw ?_)) | (refine Exists.intro _ (And.intro gs ?_)) | (refine i_at g0 ?_) | (refine z0j heq ?_) | (refine z0r hne ?_) | (refine And.intro (by kernel_rfl) ?_) | (refine stpQ ?_))
    refine ⟨x + 1, by omega, by omega, ?_⟩
    (refine z0a (by rfl) ?_ ?_) <;> (repeat' (first | (exact eqA) | (refine And.intro ?_ ?_) | ((fail_if_success (with_reducible (show _ = _))); (show _ = _))))
  ·obtain rfl : x = 9 := by omega
   have i1 : 9 < (strE mvL).length := by decide
   have i2 : 9 < szM.length := by decide
   have f1 : ((9 : Nat) : Int) < ((strE mvL).length : Int) := by decide
   have gw : (strE mvL)[9]? = some [.str (mvL.getD 9 [])] := rfl
   have gs := z0R 9 (by omega)
   clear hskip hxj hx
   cases b2
   ·repeat ((try conv => whnf); first | (with_reducible first | refine z08 (fun Qs hN hE hR => ?_) | refine z06 ?_ | refine z00 (fun Qb kN kE kX kR => ?_) | refine z02 ?_ | refine z03 ?_ | refine z07 ?_ | refine z04 ?_ | refine z05 ?_ | (show W _ _ _ (.cond _ _ _) _ _; refine z01 rfl ?_) | (refine hN _ ?_; try clear hN hE hR Qs) | ((first | refine hE _ _ ?_ | refine hR _ ?_); try clear hN hE hR Qs) | ((first | refine kN _ ?_ | refine kE _ ?_ | refine kX _ _ rfl ?_ | refine kR _ ?_); try clear kN kE kX kR Qb)) | (refine z0b f1 ?_) | (refine And.intro i1 ?_) | (refine And.intro i2 ?_) | (refine Exists.intro _ (And.intro gw ?_)) | (refine Exists.intro _ (And.intro gs ?_)) | (refine i_at g0 ?_) | (refine i_at g1 ?_) | (refine i_at g2 ?_) | (refine z0j he ?_) | (refine z0j hcl ?_) | (refine And.intro (by kernel_rfl) ?_) | (refine ccA ([]) (n1) ?_) | (refine ccA ([]) (n2) ?_) | (refine stpQ ?_))
    refine hQ1 _ _ ?_
    clear hQ1 Q1
    repeat ((try conv => whnf); first | (with_reducible first | refine z08 (fun Qs hN hE hR => ?_) | refine z06 ?_ | refine z00 (fun Qb kN kE kX kR => ?_) | refine z02 ?_ | refine z03 ?_ | refine z07 ?_ | refine z04 ?_ | refine z05 ?_ | (show W _ _ _ (.cond _ _ _) _ _; refine z01 rfl ?_) | (refine hN _ ?_; try clear hN hE hR Qs) | ((first | refine hE _ _ ?_ | refine hR _ ?_); try clear hN hE hR Qs) | ((first | refine kN _ ?_ | refine kE _ ?_ | refine kX _ _ rfl ?_ | refine kR _ ?_); try clear kN kE kX kR Qb)) | (refine stpQ ?_))
    (refine z09 (by rfl) ?_ ?_ (by rfl)) <;> (repeat' (first | (exact eqA) | (refine And.intro ?_ ?_) | ((fail_if_success (with_reducible (show _ = _))); (show _ = _)))) <;> first | rfl | (cases b1 <;> rfl)
   ·repeat ((try conv => whnf); first | (with_reducible first | refine z08 (fun Qs hN hE hR => ?_) | refine z06 ?_ | refine z00 (fun Qb kN kE kX kR => ?_) | refine z02 ?_ | refine z03 ?_ | refine z07 ?_ | refine z04 ?_ | refine z05 ?_ | (show W _ _ _ (.cond _ _ _) _ _; refine z01 rfl ?_) | (refine hN _ ?_; try clear hN hE hR Qs) | ((first | refine hE _ _ ?_ | refine hR _ ?_); try clear hN hE hR Qs) | ((first | refine kN _ ?_ | refine kE _ ?_ | refine kX _ _ rfl ?_ | refine kR _ ?_); try clear kN kE kX kR Qb)) | (refine z0b f1 ?_) | (refine And.intro i1 ?_) | (refine And.intro i2 ?_) | (refine Exists.intro _ (And.intro gw ?_)) | (refine Exists.intro _ (And.intro gs ?_)) | (refine i_at g0 ?_) | (refine i_at g1 ?_) | (refine i_at g2 ?_) | (refine z0j he ?_) | (refine z0j hcl ?_) | (refine And.intro (by kernel_rfl) ?_) | (refine ccA ([]) (n1) ?_) | (refine ccA ([]) (n2) ?_) | (refine stpQ ?_))
    refine hQ1 _ _ ?_
    clear hQ1 Q1
    repeat ((try conv => whnf); first | (with_reducible first | refine z08 (fun Qs hN hE hR => ?_) | refine z06 ?_ | refine z00 (fun Qb kN kE kX kR => ?_) | refine z02 ?_ | refine z03 ?_ | refine z07 ?_ | refine z04 ?_ | refine z05 ?_ | (show W _ _ _ (.cond _ _ _) _ _; refine z01 rfl ?_) | (refine hN _ ?_; try clear hN hE hR Qs) | ((first | refine hE _ _ ?_ | refine hR _ ?_); try clear hN hE hR Qs) | ((first | refine kN _ ?_ | refine kE _ ?_ | refine kX _ _ rfl ?_ | refine kR _ ?_); try clear kN kE kX kR Qb)) | (refine stpQ ?_))
    (refine z09 (by rfl) ?_ ?_ (by rfl)) <;> (repeat' (first | (exact eqA) | (refine And.intro ?_ ?_) | ((fail_if_success (with_reducible (show _ = _))); (show _ = _)))) <;> first | rfl | (cases b1 <;> rfl)
theorem z7D (p : List Bs) (h0 : 0 < p.length) : CT Tryd.prog 45 [] [.sl 1 (strE p)] (.tup [.agg (evC (evR (rawM p))), .bool (okR (rawM p))]) [] := by
 rcases zaD (w := pt p 0) with ⟨j, hj, hw, hi⟩ | ⟨hi, hn⟩
 ·by_cases hl : p.length = mvN j
  ·have hr : rawM p = some (mvE j p, mvB j p) := by rw [rawM, hi, if_pos ⟨hj, hl⟩]
   rw [hr]
   show CT _ _ _ _ (.tup [.agg (evC (mvE j p)), .bool (mvB j p)]) _
   by_cases k0 : j = 0
   ·by_cases h4 : pt p 4 = [45]
    ·exact za6 p j k0 h4 hw hl
    ·exact za7 p j k0 h4 hw hl
   by_cases k1 : j = 1
   ·exact zbx p j k1 hw hl
   by_cases k2 : j = 2
   ·exact zby p j k2 hw hl
   by_cases k3 : j = 3
   ·exact zbz p j k3 hw hl
   by_cases k4 : j = 4
   ·exact zbA p j k4 hw hl
   by_cases k5 : j = 5
   ·exact zbB p j k5 hw hl
   by_cases k6 : j = 6
   ·exact zbC p j k6 hw hl
   by_cases k7 : j = 7
   ·exact zbD p j k7 hw hl
   by_cases k8 : j = 8
   ·exact zbE p j k8 hw hl
   exact zbF p j (by omega) hw hl
  ·have hr : rawM p = none := by rw [rawM, hi, if_neg (fun c => hl c.2)]
   rw [hr]
   refine z96 p h0 fun i hi2 hw2 => ?_
   by_cases hij : i = j
   ·rw [hij]; exact hl
   ·exact absurd (hw2.trans hw.symm) (mv_ne2 j hj i hi2 hij)
 ·have hr : rawM p = none := by rw [rawM, hi, if_neg (fun c => by have := c.1; omega)]
  rw [hr]
  exact z96 p h0 fun i hi2 hw2 => absurd hw2 (hn i hi2)
end
end Go.Proofs.YtfgkjgfigjpkoaaDoor
