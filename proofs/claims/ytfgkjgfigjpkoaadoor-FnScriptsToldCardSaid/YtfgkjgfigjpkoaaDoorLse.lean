/- Functions by content: an event's line, read by the reference. -/
import Derived.Test.YtfgkjgfigjpkoaaDoorLsh
namespace Go.Proofs.YtfgkjgfigjpkoaaDoor
set_option maxRecDepth 100000
set_option maxHeartbeats 2000000
set_option linter.unusedVariables false
set_option linter.unusedSimpArgs false
set_option linter.unusedSectionVars false
open Go.RowKit Pl
def szW : List (List T) := [[.int .i64 2], [.int .i64 2], [.int .i64 2], [.int .i64 3], [.int .i64 4], [.int .i64 3], [.int .i64 2]]
theorem z1o : ∀ j, j < 7 → szW[j]? = some [.int .i64 ((wdN j : Nat) : Int)] := by
 intro j hj
 obtain rfl | rfl | rfl | rfl | rfl | rfl | rfl : j = 0 ∨ j = 1 ∨ j = 2 ∨ j = 3 ∨ j = 4 ∨ j = 5 ∨ j = 6 := by omega
 all_goals rfl
section
attribute [local irreducible] z0t z0u z0C AnsP LeP W
theorem c_le0 (p : List Bs) (hw : wdL.getD 0 [] = pt p 0) (hl : p.length = wdN 0) : CT Tryd.prog 32 [] [.sl 1 (strE p)] (.tup [.agg (evC (wdE 0 p)), .bool (wdB 0 p)]) [] := by
 have hl : p.length = 2 := hl.trans rfl
 have g0 := z0g (p := p) (i := 0) (by omega)
 have g1 := z0g (p := p) (i := 1) (by omega)
 have hcl : ((strE p).length : Int) = ((wdN 0 : Nat) : Int) := by rw [z0h, hl]; rfl
 have n1 := z0e (pt p 1)
 have hM : wdB 0 p = (isB (pt p 1)) := by simp [wdB]
 have hE : wdE 0 p = { k := ((0 + 2 : Nat) : Int), h := decV (pt p 1) } := by simp [wdE]
 rw [hM, hE]
 clear hM hE hl
 have hskip : ∀ x, x < 0 → (¬ pt p 0 = wdL.getD x []) ∨ (pt p 0 = wdL.getD x [] ∧ ¬ ((strE p).length : Int) = ((wdN x : Nat) : Int)) := fun x hx => .inl fun c => z4F 0 (by decide) x (by omega) (by omega) (c.symm.trans hw.symm)
 generalize (decV (pt p 1) : Int) = v1 at *
 generalize isB (pt p 1) = b1 at *
 have he : pt p 0 = wdL.getD 0 [] := hw.symm
 clear hw
 generalize pt p 0 = w at *
 generalize strE p = z at *
 refine z0d z0f 1 rfl Tryd.func32 rfl rfl rfl ?_
 conv => arg 6; whnf
 repeat ((try conv => whnf); first | (with_reducible first | refine z08 (fun Qs hN hE hR => ?_) | refine z06 ?_ | refine z00 (fun Qb kN kE kX kR => ?_) | refine z02 ?_ | refine z03 ?_ | refine z07 ?_ | refine z04 ?_ | refine z05 ?_ | (show W _ _ _ (.cond _ _ _) _ _; refine z01 rfl ?_) | (refine hN _ ?_; try clear hN hE hR Qs) | ((first | refine hE _ _ ?_ | refine hR _ ?_); try clear hN hE hR Qs) | ((first | refine kN _ ?_ | refine kE _ ?_ | refine kX _ _ rfl ?_ | refine kR _ ?_); try clear kN kE kX kR Qb)) | (refine And.intro (by kernel_rfl) ?_) | (refine stpQ ?_))
 refine z0p Nat (fun x => ⟨[(0, .sl 1 z), (2, .ptr 1 0 0), (4, .ref 2), (5, .ref 3), (6, .int .i64 (x : Int))], [(1, some (.box zEv)), (2, some (.row 1 (strE wdL))), (3, some (.row 1 szW))], 4⟩) (fun x => x ≤ 0) (fun x => 0 + 1 - x) 0 (by omega) ?_ ?_
 ·(refine z0a (by rfl) ?_ ?_) <;> (repeat' (first | (exact eqA) | (refine And.intro ?_ ?_) | ((fail_if_success (with_reducible (show _ = _))); (show _ = _)))) <;> first | rfl | decide
 ·intro Q1 hQ1 x hx
  by_cases hxj : x < 0
  ·have i1 : x < (strE wdL).length := by show x < 7; omega
   have i2 : x < szW.length := by show x < 7; omega
   have f1 : (x : Int) < ((strE wdL).length : Int) := by show (x : Int) < 7; omega
   have gw : (strE wdL)[x]? = some [.str (wdL.getD x [])] := by rw [strE, List.getElem?_map, List.getD, List.getElem?_eq_getElem (show x < wdL.length from i2)]; rfl
   have gs := z1o x (by omega)
   rcases hskip x hxj with hne | ⟨heq, hne⟩
   ·clear hskip
    repeat ((try conv => whnf); first | (with_reducible first | refine z08 (fun Qs hN hE hR => ?_) | refine z06 ?_ | refine z00 (fun Qb kN kE kX kR => ?_) | refine z02 ?_ | refine z03 ?_ | refine z07 ?_ | refine z04 ?_ | refine z05 ?_ | (show W _ _ _ (.cond _ _ _) _ _; refine z01 rfl ?_) | (refine hN _ ?_; try clear hN hE hR Qs) | ((first | refine hE _ _ ?_ | refine hR _ ?_); try clear hN hE hR Qs) | ((first | refine kN _ ?_ | refine kE _ ?_ | refine kX _ _ rfl ?_ | refine kR _ ?_); try clear kN kE kX kR Qb)) | (refine z0b f1 ?_) | (refine And.intro i1 ?_) | (refine And.intro i2 ?_) | (refine Exists.intro _ (And.intro gw ?_)) | (refine i_at g0 ?_) | (refine z0r hne ?_) | (refine And.intro (by kernel_rfl) ?_) | (refine stpQ ?_))
    refine ⟨x + 1, by omega, by omega, ?_⟩
    (refine z0a (by rfl) ?_ ?_) <;> (repeat' (first | (exact eqA) | (refine And.intro ?_ ?_) | ((fail_if_success (with_reducible (show _ = _))); (show _ = _))))
   ·clear hskip
    repeat ((try conv => whnf); first | (with_reducible first | refine z08 (fun Qs hN hE hR => ?_) | refine z06 ?_ | refine z00 (fun Qb kN kE kX kR => ?_) | refine z02 ?_ | refine z03 ?_ | refine z07 ?_ | refine z04 ?_ | refine z05 ?_ | (show W _ _ _ (.cond _ _ _) _ _; refine z01 rfl ?_) | (refine hN _ ?_; try clear hN hE hR Qs) | ((first | refine hE _ _ ?_ | refine hR _ ?_); try clear hN hE hR Qs) | ((first | refine kN _ ?_ | refine kE _ ?_ | refine kX _ _ rfl ?_ | refine kR _ ?_); try clear kN kE kX kR Qb)) | (refine z0b f1 ?_) | (refine And.intro i1 ?_) | (refine And.intro i2 ?_) | (refine Exists.intro _ (And.intro gw ?_)) | (refine Exists.intro _ (And.intro gs ?_)) | (refine i_at g0 ?_) | (refine z0j heq ?_) | (refine z0r hne ?_) | (refine And.intro (by kernel_rfl) ?_) | (refine stpQ ?_))
    refine ⟨x + 1, by omega, by omega, ?_⟩
    (refine z0a (by rfl) ?_ ?_) <;> (repeat' (first | (exact eqA) | (refine And.intro ?_ ?_) | ((fail_if_success (with_reducible (show _ = _))); (show _ = _))))
  ·obtain rfl : x = 0 := by omega
   have i1 : 0 < (strE wdL).length := by decide
   have i2 : 0 < szW.length := by decide
   have f1 : ((0 : Nat) : Int) < ((strE wdL).length : Int) := by decide
   have gw : (strE wdL)[0]? = some [.str (wdL.getD 0 [])] := rfl
   have gs := z1o 0 (by omega)
   clear hskip hxj hx
   cases b1
   ·repeat ((try conv => whnf); first | (with_reducible first | refine z08 (fun Qs hN hE hR => ?_) | refine z06 ?_ | refine z00 (fun Qb kN kE kX kR => ?_) | refine z02 ?_ | refine z03 ?_ | refine z07 ?_ | refine z04 ?_ | refine z05 ?_ | (show W _ _ _ (.cond _ _ _) _ _; refine z01 rfl ?_) | (refine hN _ ?_; try clear hN hE hR Qs) | ((first | refine hE _ _ ?_ | refine hR _ ?_); try clear hN hE hR Qs) | ((first | refine kN _ ?_ | refine kE _ ?_ | refine kX _ _ rfl ?_ | refine kR _ ?_); try clear kN kE kX kR Qb)) | (refine z0b f1 ?_) | (refine And.intro i1 ?_) | (refine And.intro i2 ?_) | (refine Exists.intro _ (And.intro gw ?_)) | (refine Exists.intro _ (And.intro gs ?_)) | (refine i_at g0 ?_) | (refine i_at g1 ?_) | (refine z0j he ?_) | (refine z0j hcl ?_) | (refine And.intro (by kernel_rfl) ?_) | (refine ccA ([]) (n1) ?_) | (refine stpQ ?_))
    refine hQ1 _ _ ?_
    clear hQ1 Q1
    repeat ((try conv => whnf); first | (with_reducible first | refine z08 (fun Qs hN hE hR => ?_) | refine z06 ?_ | refine z00 (fun Qb kN kE kX kR => ?_) | refine z02 ?_ | refine z03 ?_ | refine z07 ?_ | refine z04 ?_ | refine z05 ?_ | (show W _ _ _ (.cond _ _ _) _ _; refine z01 rfl ?_) | (refine hN _ ?_; try clear hN hE hR Qs) | ((first | refine hE _ _ ?_ | refine hR _ ?_); try clear hN hE hR Qs) | ((first | refine kN _ ?_ | refine kE _ ?_ | refine kX _ _ rfl ?_ | refine kR _ ?_); try clear kN kE kX kR Qb)) | (refine stpQ ?_))
    (refine z09 (by rfl) ?_ ?_ (by rfl)) <;> (repeat' (first | (exact eqA) | (refine And.intro ?_ ?_) | ((fail_if_success (with_reducible (show _ = _))); (show _ = _)))) <;> first | rfl | (rfl)
   ·repeat ((try conv => whnf); first | (with_reducible first | refine z08 (fun Qs hN hE hR => ?_) | refine z06 ?_ | refine z00 (fun Qb kN kE kX kR => ?_) | refine z02 ?_ | refine z03 ?_ | refine z07 ?_ | refine z04 ?_ | refine z05 ?_ | (show W _ _ _ (.cond _ _ _) _ _; refine z01 rfl ?_) | (refine hN _ ?_; try clear hN hE hR Qs) | ((first | refine hE _ _ ?_ | refine hR _ ?_); try clear hN hE hR Qs) | ((first | refine kN _ ?_ | refine kE _ ?_ | refine kX _ _ rfl ?_ | refine kR _ ?_); try clear kN kE kX kR Qb)) | (refine z0b f1 ?_) | (refine And.intro i1 ?_) | (refine And.intro i2 ?_) | (refine Exists.intro _ (And.intro gw ?_)) | (refine Exists.intro _ (And.intro gs ?_)) | (refine i_at g0 ?_) | (refine i_at g1 ?_) | (refine z0j he ?_) | (refine z0j hcl ?_) | (refine And.intro (by kernel_rfl) ?_) | (refine ccA ([]) (n1) ?_) | (refine stpQ ?_))
    refine hQ1 _ _ ?_
    clear hQ1 Q1
    repeat ((try conv => whnf); first | (with_reducible first | refine z08 (fun Qs hN hE hR => ?_) | refine z06 ?_ | refine z00 (fun Qb kN kE kX kR => ?_) | refine z02 ?_ | refine z03 ?_ | refine z07 ?_ | refine z04 ?_ | refine z05 ?_ | (show W _ _ _ (.cond _ _ _) _ _; refine z01 rfl ?_) | (refine hN _ ?_; try clear hN hE hR Qs) | ((first | refine hE _ _ ?_ | refine hR _ ?_); try clear hN hE hR Qs) | ((first | refine kN _ ?_ | refine kE _ ?_ | refine kX _ _ rfl ?_ | refine kR _ ?_); try clear kN kE kX kR Qb)) | (refine stpQ ?_))
    (refine z09 (by rfl) ?_ ?_ (by rfl)) <;> (repeat' (first | (exact eqA) | (refine And.intro ?_ ?_) | ((fail_if_success (with_reducible (show _ = _))); (show _ = _)))) <;> first | rfl | (rfl)
theorem c_le1 (p : List Bs) (hw : wdL.getD 1 [] = pt p 0) (hl : p.length = wdN 1) : CT Tryd.prog 32 [] [.sl 1 (strE p)] (.tup [.agg (evC (wdE 1 p)), .bool (wdB 1 p)]) [] := by
 have hl : p.length = 2 := hl.trans rfl
 have g0 := z0g (p := p) (i := 0) (by omega)
 have g1 := z0g (p := p) (i := 1) (by omega)
 have hcl : ((strE p).length : Int) = ((wdN 1 : Nat) : Int) := by rw [z0h, hl]; rfl
 have n1 := z0e (pt p 1)
 have hM : wdB 1 p = (isB (pt p 1)) := by simp [wdB]
 have hE : wdE 1 p = { k := ((1 + 2 : Nat) : Int), a := decV (pt p 1) } := by simp [wdE]
 rw [hM, hE]
 clear hM hE hl
 have hskip : ∀ x, x < 1 → (¬ pt p 0 = wdL.getD x []) ∨ (pt p 0 = wdL.getD x [] ∧ ¬ ((strE p).length : Int) = ((wdN x : Nat) : Int)) := fun x hx => .inl fun c => z4F 1 (by decide) x (by omega) (by omega) (c.symm.trans hw.symm)
 generalize (decV (pt p 1) : Int) = v1 at *
 generalize isB (pt p 1) = b1 at *
 have he : pt p 0 = wdL.getD 1 [] := hw.symm
 clear hw
 generalize pt p 0 = w at *
 generalize strE p = z at *
 refine z0d z0f 1 rfl Tryd.func32 rfl rfl rfl ?_
 conv => arg 6; whnf
 repeat ((try conv => whnf); first | (with_reducible first | refine z08 (fun Qs hN hE hR => ?_) | refine z06 ?_ | refine z00 (fun Qb kN kE kX kR => ?_) | refine z02 ?_ | refine z03 ?_ | refine z07 ?_ | refine z04 ?_ | refine z05 ?_ | (show W _ _ _ (.cond _ _ _) _ _; refine z01 rfl ?_) | (refine hN _ ?_; try clear hN hE hR Qs) | ((first | refine hE _ _ ?_ | refine hR _ ?_); try clear hN hE hR Qs) | ((first | refine kN _ ?_ | refine kE _ ?_ | refine kX _ _ rfl ?_ | refine kR _ ?_); try clear kN kE kX kR Qb)) | (refine And.intro (by kernel_rfl) ?_) | (refine stpQ ?_))
 refine z0p Nat (fun x => ⟨[(0, .sl 1 z), (2, .ptr 1 0 0), (4, .ref 2), (5, .ref 3), (6, .int .i64 (x : Int))], [(1, some (.box zEv)), (2, some (.row 1 (strE wdL))), (3, some (.row 1 szW))], 4⟩) (fun x => x ≤ 1) (fun x => 1 + 1 - x) 0 (by omega) ?_ ?_
 ·(refine z0a (by rfl) ?_ ?_) <;> (repeat' (first | (exact eqA) | (refine And.intro ?_ ?_) | ((fail_if_success (with_reducible (show _ = _))); (show _ = _)))) <;> first | rfl | decide
 ·intro Q1 hQ1 x hx
  by_cases hxj : x < 1
  ·have i1 : x < (strE wdL).length := by show x < 7; omega
   have i2 : x < szW.length := by show x < 7; omega
   have f1 : (x : Int) < ((strE wdL).length : Int) := by show (x : Int) < 7; omega
   have gw : (strE wdL)[x]? = some [.str (wdL.getD x [])] := by rw [strE, List.getElem?_map, List.getD, List.getElem?_eq_getElem (show x < wdL.length from i2)]; rfl
   have gs := z1o x (by omega)
   rcases hskip x hxj with hne | ⟨heq, hne⟩
   ·clear hskip
    repeat ((try conv => whnf); first | (with_reducible first | refine z08 (fun Qs hN hE hR => ?_) | refine z06 ?_ | refine z00 (fun Qb kN kE kX kR => ?_) | refine z02 ?_ | refine z03 ?_ | refine z07 ?_ | refine z04 ?_ | refine z05 ?_ | (show W _ _ _ (.cond _ _ _) _ _; refine z01 rfl ?_) | (refine hN _ ?_; try clear hN hE hR Qs) | ((first | refine hE _ _ ?_ | refine hR _ ?_); try clear hN hE hR Qs) | ((first | refine kN _ ?_ | refine kE _ ?_ | refine kX _ _ rfl ?_ | refine kR _ ?_); try clear kN kE kX kR Qb)) | (refine z0b f1 ?_) | (refine And.intro i1 ?_) | (refine And.intro i2 ?_) | (refine Exists.intro _ (And.intro gw ?_)) | (refine i_at g0 ?_) | (refine z0r hne ?_) | (refine And.intro (by kernel_rfl) ?_) | (refine stpQ ?_))
    refine ⟨x + 1, by omega, by omega, ?_⟩
    (refine z0a (by rfl) ?_ ?_) <;> (repeat' (first | (exact eqA) | (refine And.intro ?_ ?_) | ((fail_if_success (with_reducible (show _ = _))); (show _ = _))))
   ·clear hskip
    repeat ((try conv => whnf); first | (with_reducible first | refine z08 (fun Qs hN hE hR => ?_) | refine z06 ?_ | refine z00 (fun Qb kN kE kX kR => ?_) | refine z02 ?_ | refine z03 ?_ | refine z07 ?_ | refine z04 ?_ | refine z05 ?_ | (show W _ _ _ (.cond _ _ _) _ _; refine z01 rfl ?_) | (refine hN _ ?_; try clear hN hE hR Qs) | ((first | refine hE _ _ ?_ | refine hR _ ?_); try clear hN hE hR Qs) | ((first | refine kN _ ?_ | refine kE _ ?_ | refine kX _ _ rfl ?_ | refine kR _ ?_); try clear kN kE kX kR Qb)) | (refine z0b f1 ?_) | (refine And.intro i1 ?_) | (refine And.intro i2 ?_) | (refine Exists.intro _ (And.intro gw ?_)) | (refine Exists.intro _ (And.intro gs ?_)) | (refine i_at g0 ?_) | (refine z0j heq ?_) | (refine z0r hne ?_) | (refine And.intro (by kernel_rfl) ?_) | (refine stpQ ?_))
    refine ⟨x + 1, by omega, by omega, ?_⟩
    (refine z0a (by rfl) ?_ ?_) <;> (repeat' (first | (exact eqA) | (refine And.intro ?_ ?_) | ((fail_if_success (with_reducible (show _ = _))); (show _ = _))))
  ·obtain rfl : x = 1 := by omega
   have i1 : 1 < (strE wdL).length := by decide
   have i2 : 1 < szW.length := by decide
   have f1 : ((1 : Nat) : Int) < ((strE wdL).length : Int) := by decide
   have gw : (strE wdL)[1]? = some [.str (wdL.getD 1 [])] := rfl
   have gs := z1o 1 (by omega)
   clear hskip hxj hx
   cases b1
   ·repeat ((try conv => whnf); first | (with_reducible first | refine z08 (fun Qs hN hE hR => ?_) | refine z06 ?_ | refine z00 (fun Qb kN kE kX kR => ?_) | refine z02 ?_ | refine z03 ?_ | refine z07 ?_ | refine z04 ?_ | refine z05 ?_ | (show W _ _ _ (.cond _ _ _) _ _; refine z01 rfl ?_) | (refine hN _ ?_; try clear hN hE hR Qs) | ((first | refine hE _ _ ?_ | refine hR _ ?_); try clear hN hE hR Qs) | ((first | refine kN _ ?_ | refine kE _ ?_ | refine kX _ _ rfl ?_ | refine kR _ ?_); try clear kN kE kX kR Qb)) | (refine z0b f1 ?_) | (refine And.intro i1 ?_) | (refine And.intro i2 ?_) | (refine Exists.intro _ (And.intro gw ?_)) | (refine Exists.intro _ (And.intro gs ?_)) | (refine i_at g0 ?_) | (refine i_at g1 ?_) | (refine z0j he ?_) | (refine z0j hcl ?_) | (refine And.intro (by kernel_rfl) ?_) | (refine ccA ([]) (n1) ?_) | (refine stpQ ?_))
    refine hQ1 _ _ ?_
    clear hQ1 Q1
    repeat ((try conv => whnf); first | (with_reducible first | refine z08 (fun Qs hN hE hR => ?_) | refine z06 ?_ | refine z00 (fun Qb kN kE kX kR => ?_) | refine z02 ?_ | refine z03 ?_ | refine z07 ?_ | refine z04 ?_ | refine z05 ?_ | (show W _ _ _ (.cond _ _ _) _ _; refine z01 rfl ?_) | (refine hN _ ?_; try clear hN hE hR Qs) | ((first | refine hE _ _ ?_ | refine hR _ ?_); try clear hN hE hR Qs) | ((first | refine kN _ ?_ | refine kE _ ?_ | refine kX _ _ rfl ?_ | refine kR _ ?_); try clear kN kE kX kR Qb)) | (refine stpQ ?_))
    (refine z09 (by rfl) ?_ ?_ (by rfl)) <;> (repeat' (first | (exact eqA) | (refine And.intro ?_ ?_) | ((fail_if_success (with_reducible (show _ = _))); (show _ = _)))) <;> first | rfl | (rfl)
   ·repeat ((try conv => whnf); first | (with_reducible first | refine z08 (fun Qs hN hE hR => ?_) | refine z06 ?_ | refine z00 (fun Qb kN kE kX kR => ?_) | refine z02 ?_ | refine z03 ?_ | refine z07 ?_ | refine z04 ?_ | refine z05 ?_ | (show W _ _ _ (.cond _ _ _) _ _; refine z01 rfl ?_) | (refine hN _ ?_; try clear hN hE hR Qs) | ((first | refine hE _ _ ?_ | refine hR _ ?_); try clear hN hE hR Qs) | ((first | refine kN _ ?_ | refine kE _ ?_ | refine kX _ _ rfl ?_ | refine kR _ ?_); try clear kN kE kX kR Qb)) | (refine z0b f1 ?_) | (refine And.intro i1 ?_) | (refine And.intro i2 ?_) | (refine Exists.intro _ (And.intro gw ?_)) | (refine Exists.intro _ (And.intro gs ?_)) | (refine i_at g0 ?_) | (refine i_at g1 ?_) | (refine z0j he ?_) | (refine z0j hcl ?_) | (refine And.intro (by kernel_rfl) ?_) | (refine ccA ([]) (n1) ?_) | (refine stpQ ?_))
    refine hQ1 _ _ ?_
    clear hQ1 Q1
    repeat ((try conv => whnf); first | (with_reducible first | refine z08 (fun Qs hN hE hR => ?_) | refine z06 ?_ | refine z00 (fun Qb kN kE kX kR => ?_) | refine z02 ?_ | refine z03 ?_ | refine z07 ?_ | refine z04 ?_ | refine z05 ?_ | (show W _ _ _ (.cond _ _ _) _ _; refine z01 rfl ?_) | (refine hN _ ?_; try clear hN hE hR Qs) | ((first | refine hE _ _ ?_ | refine hR _ ?_); try clear hN hE hR Qs) | ((first | refine kN _ ?_ | refine kE _ ?_ | refine kX _ _ rfl ?_ | refine kR _ ?_); try clear kN kE kX kR Qb)) | (refine stpQ ?_))
    (refine z09 (by rfl) ?_ ?_ (by rfl)) <;> (repeat' (first | (exact eqA) | (refine And.intro ?_ ?_) | ((fail_if_success (with_reducible (show _ = _))); (show _ = _)))) <;> first | rfl | (rfl)
theorem c_le2 (p : List Bs) (hw : wdL.getD 2 [] = pt p 0) (hl : p.length = wdN 2) : CT Tryd.prog 32 [] [.sl 1 (strE p)] (.tup [.agg (evC (wdE 2 p)), .bool (wdB 2 p)]) [] := by
 have hl : p.length = 2 := hl.trans rfl
 have g0 := z0g (p := p) (i := 0) (by omega)
 have g1 := z0g (p := p) (i := 1) (by omega)
 have hcl : ((strE p).length : Int) = ((wdN 2 : Nat) : Int) := by rw [z0h, hl]; rfl
 have n1 := z0e (pt p 1)
 have hM : wdB 2 p = (isB (pt p 1)) := by simp [wdB]
 have hE : wdE 2 p = { k := ((2 + 2 : Nat) : Int), a := decV (pt p 1) } := by simp [wdE]
 rw [hM, hE]
 clear hM hE hl
 have hskip : ∀ x, x < 2 → (¬ pt p 0 = wdL.getD x []) ∨ (pt p 0 = wdL.getD x [] ∧ ¬ ((strE p).length : Int) = ((wdN x : Nat) : Int)) := fun x hx => .inl fun c => z4F 2 (by decide) x (by omega) (by omega) (c.symm.trans hw.symm)
 generalize (decV (pt p 1) : Int) = v1 at *
 generalize isB (pt p 1) = b1 at *
 have he : pt p 0 = wdL.getD 2 [] := hw.symm
 clear hw
 generalize pt p 0 = w at *
 generalize strE p = z at *
 refine z0d z0f 1 rfl Tryd.func32 rfl rfl rfl ?_
 conv => arg 6; whnf
 repeat ((try conv => whnf); first | (with_reducible first | refine z08 (fun Qs hN hE hR => ?_) | refine z06 ?_ | refine z00 (fun Qb kN kE kX kR => ?_) | refine z02 ?_ | refine z03 ?_ | refine z07 ?_ | refine z04 ?_ | refine z05 ?_ | (show W _ _ _ (.cond _ _ _) _ _; refine z01 rfl ?_) | (refine hN _ ?_; try clear hN hE hR Qs) | ((first | refine hE _ _ ?_ | refine hR _ ?_); try clear hN hE hR Qs) | ((first | refine kN _ ?_ | refine kE _ ?_ | refine kX _ _ rfl ?_ | refine kR _ ?_); try clear kN kE kX kR Qb)) | (refine And.intro (by kernel_rfl) ?_) | (refine stpQ ?_))
 refine z0p Nat (fun x => ⟨[(0, .sl 1 z), (2, .ptr 1 0 0), (4, .ref 2), (5, .ref 3), (6, .int .i64 (x : Int))], [(1, some (.box zEv)), (2, some (.row 1 (strE wdL))), (3, some (.row 1 szW))], 4⟩) (fun x => x ≤ 2) (fun x => 2 + 1 - x) 0 (by omega) ?_ ?_
 ·(refine z0a (by rfl) ?_ ?_) <;> (repeat' (first | (exact eqA) | (refine And.intro ?_ ?_) | ((fail_if_success (with_reducible (show _ = _))); (show _ = _)))) <;> first | rfl | decide
 ·intro Q1 hQ1 x hx
  by_cases hxj : x < 2
  ·have i1 : x < (strE wdL).length := by show x < 7; omega
   have i2 : x < szW.length := by show x < 7; omega
   have f1 : (x : Int) < ((strE wdL).length : Int) := by show (x : Int) < 7; omega
   have gw : (strE wdL)[x]? = some [.str (wdL.getD x [])] := by rw [strE, List.getElem?_map, List.getD, List.getElem?_eq_getElem (show x < wdL.length from i2)]; rfl
   have gs := z1o x (by omega)
   rcases hskip x hxj with hne | ⟨heq, hne⟩
   ·clear hskip
    repeat ((try conv => whnf); first | (with_reducible first | refine z08 (fun Qs hN hE hR => ?_) | refine z06 ?_ | refine z00 (fun Qb kN kE kX kR => ?_) | refine z02 ?_ | refine z03 ?_ | refine z07 ?_ | refine z04 ?_ | refine z05 ?_ | (show W _ _ _ (.cond _ _ _) _ _; refine z01 rfl ?_) | (refine hN _ ?_; try clear hN hE hR Qs) | ((first | refine hE _ _ ?_ | refine hR _ ?_); try clear hN hE hR Qs) | ((first | refine kN _ ?_ | refine kE _ ?_ | refine kX _ _ rfl ?_ | refine kR _ ?_); try clear kN kE kX kR Qb)) | (refine z0b f1 ?_) | (refine And.intro i1 ?_) | (refine And.intro i2 ?_) | (refine Exists.intro _ (And.intro gw ?_)) | (refine i_at g0 ?_) | (refine z0r hne ?_) | (refine And.intro (by kernel_rfl) ?_) | (refine stpQ ?_))
    refine ⟨x + 1, by omega, by omega, ?_⟩
    (refine z0a (by rfl) ?_ ?_) <;> (repeat' (first | (exact eqA) | (refine And.intro ?_ ?_) | ((fail_if_success (with_reducible (show _ = _))); (show _ = _))))
   ·clear hskip
    repeat ((try conv => whnf); first | (with_reducible first | refine z08 (fun Qs hN hE hR => ?_) | refine z06 ?_ | refine z00 (fun Qb kN kE kX kR => ?_) | refine z02 ?_ | refine z03 ?_ | refine z07 ?_ | refine z04 ?_ | refine z05 ?_ | (show W _ _ _ (.cond _ _ _) _ _; refine z01 rfl ?_) | (refine hN _ ?_; try clear hN hE hR Qs) | ((first | refine hE _ _ ?_ | refine hR _ ?_); try clear hN hE hR Qs) | ((first | refine kN _ ?_ | refine kE _ ?_ | refine kX _ _ rfl ?_ | refine kR _ ?_); try clear kN kE kX kR Qb)) | (refine z0b f1 ?_) | (refine And.intro i1 ?_) | (refine And.intro i2 ?_) | (refine Exists.intro _ (And.intro gw ?_)) | (refine Exists.intro _ (And.intro gs ?_)) | (refine i_at g0 ?_) | (refine z0j heq ?_) | (refine z0r hne ?_) | (refine And.intro (by kernel_rfl) ?_) | (refine stpQ ?_))
    refine ⟨x + 1, by omega, by omega, ?_⟩
    (refine z0a (by rfl) ?_ ?_) <;> (repeat' (first | (exact eqA) | (refine And.intro ?_ ?_) | ((fail_if_success (with_reducible (show _ = _))); (show _ = _))))
  ·obtain rfl : x = 2 := by omega
   have i1 : 2 < (strE wdL).length := by decide
   have i2 : 2 < szW.length := by decide
   have f1 : ((2 : Nat) : Int) < ((strE wdL).length : Int) := by decide
   have gw : (strE wdL)[2]? = some [.str (wdL.getD 2 [])] := rfl
   have gs := z1o 2 (by omega)
   clear hskip hxj hx
   cases b1
   ·repeat ((try conv => whnf); first | (with_reducible first | refine z08 (fun Qs hN hE hR => ?_) | refine z06 ?_ | refine z00 (fun Qb kN kE kX kR => ?_) | refine z02 ?_ | refine z03 ?_ | refine z07 ?_ | refine z04 ?_ | refine z05 ?_ | (show W _ _ _ (.cond _ _ _) _ _; refine z01 rfl ?_) | (refine hN _ ?_; try clear hN hE hR Qs) | ((first | refine hE _ _ ?_ | refine hR _ ?_); try clear hN hE hR Qs) | ((first | refine kN _ ?_ | refine kE _ ?_ | refine kX _ _ rfl ?_ | refine kR _ ?_); try clear kN kE kX kR Qb)) | (refine z0b f1 ?_) | (refine And.intro i1 ?_) | (refine And.intro i2 ?_) | (refine Exists.intro _ (And.intro gw ?_)) | (refine Exists.intro _ (And.intro gs ?_)) | (refine i_at g0 ?_) | (refine i_at g1 ?_) | (refine z0j he ?_) | (refine z0j hcl ?_) | (refine And.intro (by kernel_rfl) ?_) | (refine ccA ([]) (n1) ?_) | (refine stpQ ?_))
    refine hQ1 _ _ ?_
    clear hQ1 Q1
    repeat ((try conv => whnf); first | (with_reducible first | refine z08 (fun Qs hN hE hR => ?_) | refine z06 ?_ | refine z00 (fun Qb kN kE kX kR => ?_) | refine z02 ?_ | refine z03 ?_ | refine z07 ?_ | refine z04 ?_ | refine z05 ?_ | (show W _ _ _ (.cond _ _ _) _ _; refine z01 rfl ?_) | (refine hN _ ?_; try clear hN hE hR Qs) | ((first | refine hE _ _ ?_ | refine hR _ ?_); try clear hN hE hR Qs) | ((first | refine kN _ ?_ | refine kE _ ?_ | refine kX _ _ rfl ?_ | refine kR _ ?_); try clear kN kE kX kR Qb)) | (refine stpQ ?_))
    (refine z09 (by rfl) ?_ ?_ (by rfl)) <;> (repeat' (first | (exact eqA) | (refine And.intro ?_ ?_) | ((fail_if_success (with_reducible (show _ = _))); (show _ = _)))) <;> first | rfl | (rfl)
   ·repeat ((try conv => whnf); first | (with_reducible first | refine z08 (fun Qs hN hE hR => ?_) | refine z06 ?_ | refine z00 (fun Qb kN kE kX kR => ?_) | refine z02 ?_ | refine z03 ?_ | refine z07 ?_ | refine z04 ?_ | refine z05 ?_ | (show W _ _ _ (.cond _ _ _) _ _; refine z01 rfl ?_) | (refine hN _ ?_; try clear hN hE hR Qs) | ((first | refine hE _ _ ?_ | refine hR _ ?_); try clear hN hE hR Qs) | ((first | refine kN _ ?_ | refine kE _ ?_ | refine kX _ _ rfl ?_ | refine kR _ ?_); try clear kN kE kX kR Qb)) | (refine z0b f1 ?_) | (refine And.intro i1 ?_) | (refine And.intro i2 ?_) | (refine Exists.intro _ (And.intro gw ?_)) | (refine Exists.intro _ (And.intro gs ?_)) | (refine i_at g0 ?_) | (refine i_at g1 ?_) | (refine z0j he ?_) | (refine z0j hcl ?_) | (refine And.intro (by kernel_rfl) ?_) | (refine ccA ([]) (n1) ?_) | (refine stpQ ?_))
    refine hQ1 _ _ ?_
    clear hQ1 Q1
    repeat ((try conv => whnf); first | (with_reducible first | refine z08 (fun Qs hN hE hR => ?_) | refine z06 ?_ | refine z00 (fun Qb kN kE kX kR => ?_) | refine z02 ?_ | refine z03 ?_ | refine z07 ?_ | refine z04 ?_ | refine z05 ?_ | (show W _ _ _ (.cond _ _ _) _ _; refine z01 rfl ?_) | (refine hN _ ?_; try clear hN hE hR Qs) | ((first | refine hE _ _ ?_ | refine hR _ ?_); try clear hN hE hR Qs) | ((first | refine kN _ ?_ | refine kE _ ?_ | refine kX _ _ rfl ?_ | refine kR _ ?_); try clear kN kE kX kR Qb)) | (refine stpQ ?_))
    (refine z09 (by rfl) ?_ ?_ (by rfl)) <;> (repeat' (first | (exact eqA) | (refine And.intro ?_ ?_) | ((fail_if_success (with_reducible (show _ = _))); (show _ = _)))) <;> first | rfl | (rfl)
theorem c_le3 (p : List Bs) (hw : wdL.getD 3 [] = pt p 0) (hl : p.length = wdN 3) : CT Tryd.prog 32 [] [.sl 1 (strE p)] (.tup [.agg (evC (wdE 3 p)), .bool (wdB 3 p)]) [] := by
 have hl : p.length = 3 := hl.trans rfl
 have g0 := z0g (p := p) (i := 0) (by omega)
 have g1 := z0g (p := p) (i := 1) (by omega)
 have g2 := z0g (p := p) (i := 2) (by omega)
 have hcl : ((strE p).length : Int) = ((wdN 3 : Nat) : Int) := by rw [z0h, hl]; rfl
 have n1 := z0e (pt p 1)
 have hM : wdB 3 p = (isB (pt p 1)) := by simp [wdB]
 have hE : wdE 3 p = { k := ((3 + 2 : Nat) : Int), h := decV (pt p 1), tx := pt p 2 } := by simp [wdE]
 rw [hM, hE]
 clear hM hE hl
 have hskip : ∀ x, x < 3 → (¬ pt p 0 = wdL.getD x []) ∨ (pt p 0 = wdL.getD x [] ∧ ¬ ((strE p).length : Int) = ((wdN x : Nat) : Int)) := fun x hx => .inl fun c => z4F 3 (by decide) x (by omega) (by omega) (c.symm.trans hw.symm)
 generalize (decV (pt p 1) : Int) = v1 at *
 generalize isB (pt p 1) = b1 at *
 generalize pt p 2 = s2 at *
 have he : pt p 0 = wdL.getD 3 [] := hw.symm
 clear hw
 generalize pt p 0 = w at *
 generalize strE p = z at *
 refine z0d z0f 1 rfl Tryd.func32 rfl rfl rfl ?_
 conv => arg 6; whnf
 repeat ((try conv => whnf); first | (with_reducible first | refine z08 (fun Qs hN hE hR => ?_) | refine z06 ?_ | refine z00 (fun Qb kN kE kX kR => ?_) | refine z02 ?_ | refine z03 ?_ | refine z07 ?_ | refine z04 ?_ | refine z05 ?_ | (show W _ _ _ (.cond _ _ _) _ _; refine z01 rfl ?_) | (refine hN _ ?_; try clear hN hE hR Qs) | ((first | refine hE _ _ ?_ | refine hR _ ?_); try clear hN hE hR Qs) | ((first | refine kN _ ?_ | refine kE _ ?_ | refine kX _ _ rfl ?_ | refine kR _ ?_); try clear kN kE kX kR Qb)) | (refine And.intro (by kernel_rfl) ?_) | (refine stpQ ?_))
 refine z0p Nat (fun x => ⟨[(0, .sl 1 z), (2, .ptr 1 0 0), (4, .ref 2), (5, .ref 3), (6, .int .i64 (x : Int))], [(1, some (.box zEv)), (2, some (.row 1 (strE wdL))), (3, some (.row 1 szW))], 4⟩) (fun x => x ≤ 3) (fun x => 3 + 1 - x) 0 (by omega) ?_ ?_
 ·(refine z0a (by rfl) ?_ ?_) <;> (repeat' (first | (exact eqA) | (refine And.intro ?_ ?_) | ((fail_if_success (with_reducible (show _ = _))); (show _ = _)))) <;> first | rfl | decide
 ·intro Q1 hQ1 x hx
  by_cases hxj : x < 3
  ·have i1 : x < (strE wdL).length := by show x < 7; omega
   have i2 : x < szW.length := by show x < 7; omega
   have f1 : (x : Int) < ((strE wdL).length : Int) := by show (x : Int) < 7; omega
   have gw : (strE wdL)[x]? = some [.str (wdL.getD x [])] := by rw [strE, List.getElem?_map, List.getD, List.getElem?_eq_getElem (show x < wdL.length from i2)]; rfl
   have gs := z1o x (by omega)
   rcases hskip x hxj with hne | ⟨heq, hne⟩
   ·clear hskip
    repeat ((try conv => whnf); first | (with_reducible first | refine z08 (fun Qs hN hE hR => ?_) | refine z06 ?_ | refine z00 (fun Qb kN kE kX kR => ?_) | refine z02 ?_ | refine z03 ?_ | refine z07 ?_ | refine z04 ?_ | refine z05 ?_ | (show W _ _ _ (.cond _ _ _) _ _; refine z01 rfl ?_) | (refine hN _ ?_; try clear hN hE hR Qs) | ((first | refine hE _ _ ?_ | refine hR _ ?_); try clear hN hE hR Qs) | ((first | refine kN _ ?_ | refine kE _ ?_ | refine kX _ _ rfl ?_ | refine kR _ ?_); try clear kN kE kX kR Qb)) | (refine z0b f1 ?_) | (refine And.intro i1 ?_) | (refine And.intro i2 ?_) | (refine Exists.intro _ (And.intro gw ?_)) | (refine i_at g0 ?_) | (refine z0r hne ?_) | (refine And.intro (by kernel_rfl) ?_) | (refine stpQ ?_))
    refine ⟨x + 1, by omega, by omega, ?_⟩
    (refine z0a (by rfl) ?_ ?_) <;> (repeat' (first | (exact eqA) | (refine And.intro ?_ ?_) | ((fail_if_success (with_reducible (show _ = _))); (show _ = _))))
   ·clear hskip
    repeat ((try conv => whnf); first | (with_reducible first | refine z08 (fun Qs hN hE hR => ?_) | refine z06 ?_ | refine z00 (fun Qb kN kE kX kR => ?_) | refine z02 ?_ | refine z03 ?_ | refine z07 ?_ | refine z04 ?_ | refine z05 ?_ | (show W _ _ _ (.cond _ _ _) _ _; refine z01 rfl ?_) | (refine hN _ ?_; try clear hN hE hR Qs) | ((first | refine hE _ _ ?_ | refine hR _ ?_); try clear hN hE hR Qs) | ((first | refine kN _ ?_ | refine kE _ ?_ | refine kX _ _ rfl ?_ | refine kR _ ?_); try clear kN kE kX kR Qb)) | (refine z0b f1 ?_) | (refine And.intro i1 ?_) | (refine And.intro i2 ?_) | (refine Exists.intro _ (And.intro gw ?_)) | (refine Exists.intro _ (And.intro gs ?_)) | (refine i_at g0 ?_) | (refine z0j heq ?_) | (refine z0r hne ?_) | (refine And.intro (by kernel_rfl) ?_) | (refine stpQ ?_))
    refine ⟨x + 1, by omega, by omega, ?_⟩
    (refine z0a (by rfl) ?_ ?_) <;> (repeat' (first | (exact eqA) | (refine And.intro ?_ ?_) | ((fail_if_success (with_reducible (show _ = _))); (show _ = _))))
  ·obtain rfl : x = 3 := by omega
   have i1 : 3 < (strE wdL).length := by decide
   have i2 : 3 < szW.length := by decide
   have f1 : ((3 : Nat) : Int) < ((strE wdL).length : Int) := by decide
   have gw : (strE wdL)[3]? = some [.str (wdL.getD 3 [])] := rfl
   have gs := z1o 3 (by omega)
   clear hskip hxj hx
   cases b1
   ·repeat ((try conv => whnf); first | (with_reducible first | refine z08 (fun Qs hN hE hR => ?_) | refine z06 ?_ | refine z00 (fun Qb kN kE kX kR => ?_) | refine z02 ?_ | refine z03 ?_ | refine z07 ?_ | refine z04 ?_ | refine z05 ?_ | (show W _ _ _ (.cond _ _ _) _ _; refine z01 rfl ?_) | (refine hN _ ?_; try clear hN hE hR Qs) | ((first | refine hE _ _ ?_ | refine hR _ ?_); try clear hN hE hR Qs) | ((first | refine kN _ ?_ | refine kE _ ?_ | refine kX _ _ rfl ?_ | refine kR _ ?_); try clear kN kE kX kR Qb)) | (refine z0b f1 ?_) | (refine And.intro i1 ?_) | (refine And.intro i2 ?_) | (refine Exists.intro _ (And.intro gw ?_)) | (refine Exists.intro _ (And.intro gs ?_)) | (refine i_at g0 ?_) | (refine i_at g1 ?_) | (refine i_at g2 ?_) | (refine z0j he ?_) | (refine z0j hcl ?_) | (refine And.intro (by kernel_rfl) ?_) | (refine ccA ([]) (n1) ?_) | (refine stpQ ?_))
    refine hQ1 _ _ ?_
    clear hQ1 Q1
    repeat ((try conv => whnf); first | (with_reducible first | refine z08 (fun Qs hN hE hR => ?_) | refine z06 ?_ | refine z00 (fun Qb kN kE kX kR => ?_) | refine z02 ?_ | refine z03 ?_ | refine z07 ?_ | refine z04 ?_ | refine z05 ?_ | (show W _ _ _ (.cond _ _ _) _ _; refine z01 rfl ?_) | (refine hN _ ?_; try clear hN hE hR Qs) | ((first | refine hE _ _ ?_ | refine hR _ ?_); try clear hN hE hR Qs) | ((first | refine kN _ ?_ | refine kE _ ?_ | refine kX _ _ rfl ?_ | refine kR _ ?_); try clear kN kE kX kR Qb)) | (refine stpQ ?_))
    (refine z09 (by rfl) ?_ ?_ (by rfl)) <;> (repeat' (first | (exact eqA) | (refine And.intro ?_ ?_) | ((fail_if_success (with_reducible (show _ = _))); (show _ = _)))) <;> first | rfl | (rfl)
   ·repeat ((try conv => whnf); first | (with_reducible first | refine z08 (fun Qs hN hE hR => ?_) | refine z06 ?_ | refine z00 (fun Qb kN kE kX kR => ?_) | refine z02 ?_ | refine z03 ?_ | refine z07 ?_ | refine z04 ?_ | refine z05 ?_ | (show W _ _ _ (.cond _ _ _) _ _; refine z01 rfl ?_) | (refine hN _ ?_; try clear hN hE hR Qs) | ((first | refine hE _ _ ?_ | refine hR _ ?_); try clear hN hE hR Qs) | ((first | refine kN _ ?_ | refine kE _ ?_ | refine kX _ _ rfl ?_ | refine kR _ ?_); try clear kN kE kX kR Qb)) | (refine z0b f1 ?_) | (refine And.intro i1 ?_) | (refine And.intro i2 ?_) | (refine Exists.intro _ (And.intro gw ?_)) | (refine Exists.intro _ (And.intro gs ?_)) | (refine i_at g0 ?_) | (refine i_at g1 ?_) | (refine i_at g2 ?_) | (refine z0j he ?_) | (refine z0j hcl ?_) | (refine And.intro (by kernel_rfl) ?_) | (refine ccA ([]) (n1) ?_) | (refine stpQ ?_))
    refine hQ1 _ _ ?_
    clear hQ1 Q1
    repeat ((try conv => whnf); first | (with_reducible first | refine z08 (fun Qs hN hE hR => ?_) | refine z06 ?_ | refine z00 (fun Qb kN kE kX kR => ?_) | refine z02 ?_ | refine z03 ?_ | refine z07 ?_ | refine z04 ?_ | refine z05 ?_ | (show W _ _ _ (.cond _ _ _) _ _; refine z01 rfl ?_) | (refine hN _ ?_; try clear hN hE hR Qs) | ((first | refine hE _ _ ?_ | refine hR _ ?_); try clear hN hE hR Qs) | ((first | refine kN _ ?_ | refine kE _ ?_ | refine kX _ _ rfl ?_ | refine kR _ ?_); try clear kN kE kX kR Qb)) | (refine stpQ ?_))
    (refine z09 (by rfl) ?_ ?_ (by rfl)) <;> (repeat' (first | (exact eqA) | (refine And.intro ?_ ?_) | ((fail_if_success (with_reducible (show _ = _))); (show _ = _)))) <;> first | rfl | (rfl)
theorem c_le4 (p : List Bs) (hw : wdL.getD 4 [] = pt p 0) (hl : p.length = wdN 4) : CT Tryd.prog 32 [] [.sl 1 (strE p)] (.tup [.agg (evC (wdE 4 p)), .bool (wdB 4 p)]) [] := by
 have hl : p.length = 4 := hl.trans rfl
 have g0 := z0g (p := p) (i := 0) (by omega)
 have g1 := z0g (p := p) (i := 1) (by omega)
 have g2 := z0g (p := p) (i := 2) (by omega)
 have g3 := z0g (p := p) (i := 3) (by omega)
 have hcl : ((strE p).length : Int) = ((wdN 4 : Nat) : Int) := by rw [z0h, hl]; rfl
 have n1 := z0e (pt p 1)
 have n2 := z0e (pt p 2)
 have hM : wdB 4 p = (isB (pt p 1) && isB (pt p 2)) := by simp [wdB]
 have hE : wdE 4 p = { k := ((4 + 2 : Nat) : Int), h := decV (pt p 1), a := decV (pt p 2), tx := pt p 3 } := by simp [wdE]
 rw [hM, hE]
 clear hM hE hl
 have hskip : ∀ x, x < 4 → (¬ pt p 0 = wdL.getD x []) ∨ (pt p 0 = wdL.getD x [] ∧ ¬ ((strE p).length : Int) = ((wdN x : Nat) : Int)) := fun x hx => .inl fun c => z4F 4 (by decide) x (by omega) (by omega) (c.symm.trans hw.symm)
 generalize (decV (pt p 1) : Int) = v1 at *
 generalize isB (pt p 1) = b1 at *
 generalize (decV (pt p 2) : Int) = v2 at *
 generalize isB (pt p 2) = b2 at *
 generalize pt p 3 = s3 at *
 have he : pt p 0 = wdL.getD 4 [] := hw.symm
 clear hw
 generalize pt p 0 = w at *
 generalize strE p = z at *
 refine z0d z0f 1 rfl Tryd.func32 rfl rfl rfl ?_
 conv => arg 6; whnf
 repeat ((try conv => whnf); first | (with_reducible first | refine z08 (fun Qs hN hE hR => ?_) | refine z06 ?_ | refine z00 (fun Qb kN kE kX kR => ?_) | refine z02 ?_ | refine z03 ?_ | refine z07 ?_ | refine z04 ?_ | refine z05 ?_ | (show W _ _ _ (.cond _ _ _) _ _; refine z01 rfl ?_) | (refine hN _ ?_; try clear hN hE hR Qs) | ((first | refine hE _ _ ?_ | refine hR _ ?_); try clear hN hE hR Qs) | ((first | refine kN _ ?_ | refine kE _ ?_ | refine kX _ _ rfl ?_ | refine kR _ ?_); try clear kN kE kX kR Qb)) | (refine And.intro (by kernel_rfl) ?_) | (refine stpQ ?_))
 refine z0p Nat (fun x => ⟨[(0, .sl 1 z), (2, .ptr 1 0 0), (4, .ref 2), (5, .ref 3), (6, .int .i64 (x : Int))], [(1, some (.box zEv)), (2, some (.row 1 (strE wdL))), (3, some (.row 1 szW))], 4⟩) (fun x => x ≤ 4) (fun x => 4 + 1 - x) 0 (by omega) ?_ ?_
 ·(refine z0a (by rfl) ?_ ?_) <;> (repeat' (first | (exact eqA) | (refine And.intro ?_ ?_) | ((fail_if_success (with_reducible (show _ = _))); (show _ = _)))) <;> first | rfl | decide
 ·intro Q1 hQ1 x hx
  by_cases hxj : x < 4
  ·have i1 : x < (strE wdL).length := by show x < 7; omega
   have i2 : x < szW.length := by show x < 7; omega
   have f1 : (x : Int) < ((strE wdL).length : Int) := by show (x : Int) < 7; omega
   have gw : (strE wdL)[x]? = some [.str (wdL.getD x [])] := by rw [strE, List.getElem?_map, List.getD, List.getElem?_eq_getElem (show x < wdL.length from i2)]; rfl
   have gs := z1o x (by omega)
   rcases hskip x hxj with hne | ⟨heq, hne⟩
   ·clear hskip
    repeat ((try conv => whnf); first | (with_reducible first | refine z08 (fun Qs hN hE hR => ?_) | refine z06 ?_ | refine z00 (fun Qb kN kE kX kR => ?_) | refine z02 ?_ | refine z03 ?_ | refine z07 ?_ | refine z04 ?_ | refine z05 ?_ | (show W _ _ _ (.cond _ _ _) _ _; refine z01 rfl ?_) | (refine hN _ ?_; try clear hN hE hR Qs) | ((first | refine hE _ _ ?_ | refine hR _ ?_); try clear hN hE hR Qs) | ((first | refine kN _ ?_ | refine kE _ ?_ | refine kX _ _ rfl ?_ | refine kR _ ?_); try clear kN kE kX kR Qb)) | (refine z0b f1 ?_) | (refine And.intro i1 ?_) | (refine And.intro i2 ?_) | (refine Exists.intro _ (And.intro gw ?_)) | (refine i_at g0 ?_) | (refine z0r hne ?_) | (refine And.intro (by kernel_rfl) ?_) | (refine stpQ ?_))
    refine ⟨x + 1, by omega, by omega, ?_⟩
    (refine z0a (by rfl) ?_ ?_) <;> (repeat' (first | (exact eqA) | (refine And.intro ?_ ?_) | ((fail_if_success (with_reducible (show _ = _))); (show _ = _))))
   ·clear hskip
    repeat ((try conv => whnf); first | (with_reducible first | refine z08 (fun Qs hN hE hR => ?_) | refine z06 ?_ | refine z00 (fun Qb kN kE kX kR => ?_) | refine z02 ?_ | refine z03 ?_ | refine z07 ?_ | refine z04 ?_ | refine z05 ?_ | (show W _ _ _ (.cond _ _ _) _ _; refine z01 rfl ?_) | (refine hN _ ?_; try clear hN hE hR Qs) | ((first | refine hE _ _ ?_ | refine hR _ ?_); try clear hN hE hR Qs) | ((first | refine kN _ ?_ | refine kE _ ?_ | refine kX _ _ rfl ?_ | refine kR _ ?_); try clear kN kE kX kR Qb)) | (refine z0b f1 ?_) | (refine And.intro i1 ?_) | (refine And.intro i2 ?_) | (refine Exists.intro _ (And.intro gw ?_)) | (refine Exists.intro _ (And.intro gs ?_)) | (refine i_at g0 ?_) | (refine z0j heq ?_) | (refine z0r hne ?_) | (refine And.intro (by kernel_rfl) ?_) | (refine stpQ ?_))
    refine ⟨x + 1, by omega, by omega, ?_⟩
    (refine z0a (by rfl) ?_ ?_) <;> (repeat' (first | (exact eqA) | (refine And.intro ?_ ?_) | ((fail_if_success (with_reducible (show _ = _))); (show _ = _))))
  ·obtain rfl : x = 4 := by omega
   have i1 : 4 < (strE wdL).length := by decide
   have i2 : 4 < szW.length := by decide
   have f1 : ((4 : Nat) : Int) < ((strE wdL).length : Int) := by decide
   have gw : (strE wdL)[4]? = some [.str (wdL.getD 4 [])] := rfl
   have gs := z1o 4 (by omega)
   clear hskip hxj hx
   cases b1
   ·repeat ((try conv => whnf); first | (with_reducible first | refine z08 (fun Qs hN hE hR => ?_) | refine z06 ?_ | refine z00 (fun Qb kN kE kX kR => ?_) | refine z02 ?_ | refine z03 ?_ | refine z07 ?_ | refine z04 ?_ | refine z05 ?_ | (show W _ _ _ (.cond _ _ _) _ _; refine z01 rfl ?_) | (refine hN _ ?_; try clear hN hE hR Qs) | ((first | refine hE _ _ ?_ | refine hR _ ?_); try clear hN hE hR Qs) | ((first | refine kN _ ?_ | refine kE _ ?_ | refine kX _ _ rfl ?_ | refine kR _ ?_); try clear kN kE kX kR Qb)) | (refine z0b f1 ?_) | (refine And.intro i1 ?_) | (refine And.intro i2 ?_) | (refine Exists.intro _ (And.intro gw ?_)) | (refine Exists.intro _ (And.intro gs ?_)) | (refine i_at g0 ?_) | (refine i_at g1 ?_) | (refine i_at g2 ?_) | (refine i_at g3 ?_) | (refine z0j he ?_) | (refine z0j hcl ?_) | (refine And.intro (by kernel_rfl) ?_) | (refine ccA ([]) (n1) ?_) | (refine ccA ([]) (n2) ?_) | (refine stpQ ?_))
    refine hQ1 _ _ ?_
    clear hQ1 Q1
    repeat ((try conv => whnf); first | (with_reducible first | refine z08 (fun Qs hN hE hR => ?_) | refine z06 ?_ | refine z00 (fun Qb kN kE kX kR => ?_) | refine z02 ?_ | refine z03 ?_ | refine z07 ?_ | refine z04 ?_ | refine z05 ?_ | (show W _ _ _ (.cond _ _ _) _ _; refine z01 rfl ?_) | (refine hN _ ?_; try clear hN hE hR Qs) | ((first | refine hE _ _ ?_ | refine hR _ ?_); try clear hN hE hR Qs) | ((first | refine kN _ ?_ | refine kE _ ?_ | refine kX _ _ rfl ?_ | refine kR _ ?_); try clear kN kE kX kR Qb)) | (refine stpQ ?_))
    (refine z09 (by rfl) ?_ ?_ (by rfl)) <;> (repeat' (first | (exact eqA) | (refine And.intro ?_ ?_) | ((fail_if_success (with_reducible (show _ = _))); (show _ = _)))) <;> first | rfl | (cases b2 <;> rfl)
   ·repeat ((try conv => whnf); first | (with_reducible first | refine z08 (fun Qs hN hE hR => ?_) | refine z06 ?_ | refine z00 (fun Qb kN kE kX kR => ?_) | refine z02 ?_ | refine z03 ?_ | refine z07 ?_ | refine z04 ?_ | refine z05 ?_ | (show W _ _ _ (.cond _ _ _) _ _; refine z01 rfl ?_) | (refine hN _ ?_; try clear hN hE hR Qs) | ((first | refine hE _ _ ?_ | refine hR _ ?_); try clear hN hE hR Qs) | ((first | refine kN _ ?_ | refine kE _ ?_ | refine kX _ _ rfl ?_ | refine kR _ ?_); try clear kN kE kX kR Qb)) | (refine z0b f1 ?_) | (refine And.intro i1 ?_) | (refine And.intro i2 ?_) | (refine Exists.intro _ (And.intro gw ?_)) | (refine Exists.intro _ (And.intro gs ?_)) | (refine i_at g0 ?_) | (refine i_at g1 ?_) | (refine i_at g2 ?_) | (refine i_at g3 ?_) | (refine z0j he ?_) | (refine z0j hcl ?_) | (refine And.intro (by kernel_rfl) ?_) | (refine ccA ([]) (n1) ?_) | (refine ccA ([]) (n2) ?_) | (refine stpQ ?_))
    refine hQ1 _ _ ?_
    clear hQ1 Q1
    repeat ((try conv => whnf); first | (with_reducible first | refine z08 (fun Qs hN hE hR => ?_) | refine z06 ?_ | refine z00 (fun Qb kN kE kX kR => ?_) | refine z02 ?_ | refine z03 ?_ | refine z07 ?_ | refine z04 ?_ | refine z05 ?_ | (show W _ _ _ (.cond _ _ _) _ _; refine z01 rfl ?_) | (refine hN _ ?_; try clear hN hE hR Qs) | ((first | refine hE _ _ ?_ | refine hR _ ?_); try clear hN hE hR Qs) | ((first | refine kN _ ?_ | refine kE _ ?_ | refine kX _ _ rfl ?_ | refine kR _ ?_); try clear kN kE kX kR Qb)) | (refine stpQ ?_))
    (refine z09 (by rfl) ?_ ?_ (by rfl)) <;> (repeat' (first | (exact eqA) | (refine And.intro ?_ ?_) | ((fail_if_success (with_reducible (show _ = _))); (show _ = _)))) <;> first | rfl | (cases b2 <;> rfl)
theorem c_le5 (p : List Bs) (hw : wdL.getD 5 [] = pt p 0) (hl : p.length = wdN 5) : CT Tryd.prog 32 [] [.sl 1 (strE p)] (.tup [.agg (evC (wdE 5 p)), .bool (wdB 5 p)]) [] := by
 have hl : p.length = 3 := hl.trans rfl
 have g0 := z0g (p := p) (i := 0) (by omega)
 have g1 := z0g (p := p) (i := 1) (by omega)
 have g2 := z0g (p := p) (i := 2) (by omega)
 have hcl : ((strE p).length : Int) = ((wdN 5 : Nat) : Int) := by rw [z0h, hl]; rfl
 have n1 := z0e (pt p 1)
 have n2 := z0e (pt p 2)
 have hM : wdB 5 p = (isB (pt p 1) && isB (pt p 2)) := by simp [wdB]
 have hE : wdE 5 p = { k := ((5 + 2 : Nat) : Int), h := decV (pt p 1), a := decV (pt p 2) } := by simp [wdE]
 rw [hM, hE]
 clear hM hE hl
 have hskip : ∀ x, x < 5 → (¬ pt p 0 = wdL.getD x []) ∨ (pt p 0 = wdL.getD x [] ∧ ¬ ((strE p).length : Int) = ((wdN x : Nat) : Int)) := fun x hx => .inl fun c => z4F 5 (by decide) x (by omega) (by omega) (c.symm.trans hw.symm)
 generalize (decV (pt p 1) : Int) = v1 at *
 generalize isB (pt p 1) = b1 at *
 generalize (decV (pt p 2) : Int) = v2 at *
 generalize isB (pt p 2) = b2 at *
 have he : pt p 0 = wdL.getD 5 [] := hw.symm
 clear hw
 generalize pt p 0 = w at *
 generalize strE p = z at *
 refine z0d z0f 1 rfl Tryd.func32 rfl rfl rfl ?_
 conv => arg 6; whnf
 repeat ((try conv => whnf); first | (with_reducible first | refine z08 (fun Qs hN hE hR => ?_) | refine z06 ?_ | refine z00 (fun Qb kN kE kX kR => ?_) | refine z02 ?_ | refine z03 ?_ | refine z07 ?_ | refine z04 ?_ | refine z05 ?_ | (show W _ _ _ (.cond _ _ _) _ _; refine z01 rfl ?_) | (refine hN _ ?_; try clear hN hE hR Qs) | ((first | refine hE _ _ ?_ | refine hR _ ?_); try clear hN hE hR Qs) | ((first | refine kN _ ?_ | refine kE _ ?_ | refine kX _ _ rfl ?_ | refine kR _ ?_); try clear kN kE kX kR Qb)) | (refine And.intro (by kernel_rfl) ?_) | (refine stpQ ?_))
 refine z0p Nat (fun x => ⟨[(0, .sl 1 z), (2, .ptr 1 0 0), (4, .ref 2), (5, .ref 3), (6, .int .i64 (x : Int))], [(1, some (.box zEv)), (2, some (.row 1 (strE wdL))), (3, some (.row 1 szW))], 4⟩) (fun x => x ≤ 5) (fun x => 5 + 1 - x) 0 (by omega) ?_ ?_
 ·(refine z0a (by rfl) ?_ ?_) <;> (repeat' (first | (exact eqA) | (refine And.intro ?_ ?_) | ((fail_if_success (with_reducible (show _ = _))); (show _ = _)))) <;> first | rfl | decide
 ·intro Q1 hQ1 x hx
  by_cases hxj : x < 5
  ·have i1 : x < (strE wdL).length := by show x < 7; omega
   have i2 : x < szW.length := by show x < 7; omega
   have f1 : (x : Int) < ((strE wdL).length : Int) := by show (x : Int) < 7; omega
   have gw : (strE wdL)[x]? = some [.str (wdL.getD x [])] := by rw [strE, List.getElem?_map, List.getD, List.getElem?_eq_getElem (show x < wdL.length from i2)]; rfl
   have gs := z1o x (by omega)
   rcases hskip x hxj with hne | ⟨heq, hne⟩
   ·clear hskip
    repeat ((try conv => whnf); first | (with_reducible first | refine z08 (fun Qs hN hE hR => ?_) | refine z06 ?_ | refine z00 (fun Qb kN kE kX kR => ?_) | refine z02 ?_ | refine z03 ?_ | refine z07 ?_ | refine z04 ?_ | refine z05 ?_ | (show W _ _ _ (.cond _ _ _) _ _; refine z01 rfl ?_) | (refine hN _ ?_; try clear hN hE hR Qs) | ((first | refine hE _ _ ?_ | refine hR _ ?_); try clear hN hE hR Qs) | ((first | refine kN _ ?_ | refine kE _ ?_ | refine kX _ _ rfl ?_ | refine kR _ ?_); try clear kN kE kX kR Qb)) | (refine z0b f1 ?_) | (refine And.intro i1 ?_) | (refine And.intro i2 ?_) | (refine Exists.intro _ (And.intro gw ?_)) | (refine i_at g0 ?_) | (refine z0r hne ?_) | (refine And.intro (by kernel_rfl) ?_) | (refine stpQ ?_))
    refine ⟨x + 1, by omega, by omega, ?_⟩
    (refine z0a (by rfl) ?_ ?_) <;> (repeat' (first | (exact eqA) | (refine And.intro ?_ ?_) | ((fail_if_success (with_reducible (show _ = _))); (show _ = _))))
   ·clear hskip
    repeat ((try conv => whnf); first | (with_reducible first | refine z08 (fun Qs hN hE hR => ?_) | refine z06 ?_ | refine z00 (fun Qb kN kE kX kR => ?_) | refine z02 ?_ | refine z03 ?_ | refine z07 ?_ | refine z04 ?_ | refine z05 ?_ | (show W _ _ _ (.cond _ _ _) _ _; refine z01 rfl ?_) | (refine hN _ ?_; try clear hN hE hR Qs) | ((first | refine hE _ _ ?_ | refine hR _ ?_); try clear hN hE hR Qs) | ((first | refine kN _ ?_ | refine kE _ ?_ | refine kX _ _ rfl ?_ | refine kR _ ?_); try clear kN kE kX kR Qb)) | (refine z0b f1 ?_) | (refine And.intro i1 ?_) | (refine And.intro i2 ?_) | (refine Exists.intro _ (And.intro gw ?_)) | (refine Exists.intro _ (And.intro gs ?_)) | (refine i_at g0 ?_) | (refine z0j heq ?_) | (refine z0r hne ?_) | (refine And.intro (by kernel_rfl) ?_) | (refine stpQ ?_))
    refine ⟨x + 1, by omega, by omega, ?_⟩
    (refine z0a (by rfl) ?_ ?_) <;> (repeat' (first | (exact eqA) | (refine And.intro ?_ ?_) | ((fail_if_success (with_reducible (show _ = _))); (show _ = _))))
  ·obtain rfl : x = 5 := by omega
   have i1 : 5 < (strE wdL).length := by decide
   have i2 : 5 < szW.length := by decide
   have f1 : ((5 : Nat) : Int) < ((strE wdL).length : Int) := by decide
   have gw : (strE wdL)[5]? = some [.str (wdL.getD 5 [])] := rfl
   have gs := z1o 5 (by omega)
   clear hskip hxj hx
   cases b1
   ·repeat ((try conv => whnf); first | (with_reducible first | refine z08 (fun Qs hN hE hR => ?_) | refine z06 ?_ | refine z00 (fun Qb kN kE kX kR => ?_) | refine z02 ?_ | refine z03 ?_ | refine z07 ?_ | refine z04 ?_ | refine z05 ?_ | (show W _ _ _ (.cond _ _ _) _ _; refine z01 rfl ?_) | (refine hN _ ?_; try clear hN hE hR Qs) | ((first | refine hE _ _ ?_ | refine hR _ ?_); try clear hN hE hR Qs) | ((first | refine kN _ ?_ | refine kE _ ?_ | refine kX _ _ rfl ?_ | refine kR _ ?_); try clear kN kE kX kR Qb)) | (refine z0b f1 ?_) | (refine And.intro i1 ?_) | (refine And.intro i2 ?_) | (refine Exists.intro _ (And.intro gw ?_)) | (refine Exists.intro _ (And.intro gs ?_)) | (refine i_at g0 ?_) | (refine i_at g1 ?_) | (refine i_at g2 ?_) | (refine z0j he ?_) | (refine z0j hcl ?_) | (refine And.intro (by kernel_rfl) ?_) | (refine ccA ([]) (n1) ?_) | (refine ccA ([]) (n2) ?_) | (refine stpQ ?_))
    refine hQ1 _ _ ?_
    clear hQ1 Q1
    repeat ((try conv => whnf); first | (with_reducible first | refine z08 (fun Qs hN hE hR => ?_) | refine z06 ?_ | refine z00 (fun Qb kN kE kX kR => ?_) | refine z02 ?_ | refine z03 ?_ | refine z07 ?_ | refine z04 ?_ | refine z05 ?_ | (show W _ _ _ (.cond _ _ _) _ _; refine z01 rfl ?_) | (refine hN _ ?_; try clear hN hE hR Qs) | ((first | refine hE _ _ ?_ | refine hR _ ?_); try clear hN hE hR Qs) | ((first | refine kN _ ?_ | refine kE _ ?_ | refine kX _ _ rfl ?_ | refine kR _ ?_); try clear kN kE kX kR Qb)) | (refine stpQ ?_))
    (refine z09 (by rfl) ?_ ?_ (by rfl)) <;> (repeat' (first | (exact eqA) | (refine And.intro ?_ ?_) | ((fail_if_success (with_reducible (show _ = _))); (show _ = _)))) <;> first | rfl | (cases b2 <;> rfl)
   ·repeat ((try conv => whnf); first | (with_reducible first | refine z08 (fun Qs hN hE hR => ?_) | refine z06 ?_ | refine z00 (fun Qb kN kE kX kR => ?_) | refine z02 ?_ | refine z03 ?_ | refine z07 ?_ | refine z04 ?_ | refine z05 ?_ | (show W _ _ _ (.cond _ _ _) _ _; refine z01 rfl ?_) | (refine hN _ ?_; try clear hN hE hR Qs) | ((first | refine hE _ _ ?_ | refine hR _ ?_); try clear hN hE hR Qs) | ((first | refine kN _ ?_ | refine kE _ ?_ | refine kX _ _ rfl ?_ | refine kR _ ?_); try clear kN kE kX kR Qb)) | (refine z0b f1 ?_) | (refine And.intro i1 ?_) | (refine And.intro i2 ?_) | (refine Exists.intro _ (And.intro gw ?_)) | (refine Exists.intro _ (And.intro gs ?_)) | (refine i_at g0 ?_) | (refine i_at g1 ?_) | (refine i_at g2 ?_) | (refine z0j he ?_) | (refine z0j hcl ?_) | (refine And.intro (by kernel_rfl) ?_) | (refine ccA ([]) (n1) ?_) | (refine ccA ([]) (n2) ?_) | (refine stpQ ?_))
    refine hQ1 _ _ ?_
    clear hQ1 Q1
    repeat ((try conv => whnf); first | (with_reducible first | refine z08 (fun Qs hN hE hR => ?_) | refine z06 ?_ | refine z00 (fun Qb kN kE kX kR => ?_) | refine z02 ?_ | refine z03 ?_ | refine z07 ?_ | refine z04 ?_ | refine z05 ?_ | (show W _ _ _ (.cond _ _ _) _ _; refine z01 rfl ?_) | (refine hN _ ?_; try clear hN hE hR Qs) | ((first | refine hE _ _ ?_ | refine hR _ ?_); try clear hN hE hR Qs) | ((first | refine kN _ ?_ | refine kE _ ?_ | refine kX _ _ rfl ?_ | refine kR _ ?_); try clear kN kE kX kR Qb)) | (refine stpQ ?_))
    (refine z09 (by rfl) ?_ ?_ (by rfl)) <;> (repeat' (first | (exact eqA) | (refine And.intro ?_ ?_) | ((fail_if_success (with_reducible (show _ = _))); (show _ = _)))) <;> first | rfl | (cases b2 <;> rfl)
theorem c_le6 (p : List Bs) (hw : wdL.getD 6 [] = pt p 0) (hl : p.length = wdN 6) : CT Tryd.prog 32 [] [.sl 1 (strE p)] (.tup [.agg (evC (wdE 6 p)), .bool (wdB 6 p)]) [] := by
 have hl : p.length = 2 := hl.trans rfl
 have g0 := z0g (p := p) (i := 0) (by omega)
 have g1 := z0g (p := p) (i := 1) (by omega)
 have hcl : ((strE p).length : Int) = ((wdN 6 : Nat) : Int) := by rw [z0h, hl]; rfl
 have n1 := z0e (pt p 1)
 have hM : wdB 6 p = (isB (pt p 1)) := by simp [wdB]
 have hE : wdE 6 p = { k := ((6 + 2 : Nat) : Int), h := decV (pt p 1) } := by simp [wdE]
 rw [hM, hE]
 clear hM hE hl
 have hskip : ∀ x, x < 6 → (¬ pt p 0 = wdL.getD x []) ∨ (pt p 0 = wdL.getD x [] ∧ ¬ ((strE p).length : Int) = ((wdN x : Nat) : Int)) := fun x hx => .inl fun c => z4F 6 (by decide) x (by omega) (by omega) (c.symm.trans hw.symm)
 generalize (decV (pt p 1) : Int) = v1 at *
 generalize isB (pt p 1) = b1 at *
 have he : pt p 0 = wdL.getD 6 [] := hw.symm
 clear hw
 generalize pt p 0 = w at *
 generalize strE p = z at *
 refine z0d z0f 1 rfl Tryd.func32 rfl rfl rfl ?_
 conv => arg 6; whnf
 repeat ((try conv => whnf); first | (with_reducible first | refine z08 (fun Qs hN hE hR => ?_) | refine z06 ?_ | refine z00 (fun Qb kN kE kX kR => ?_) | refine z02 ?_ | refine z03 ?_ | refine z07 ?_ | refine z04 ?_ | refine z05 ?_ | (show W _ _ _ (.cond _ _ _) _ _; refine z01 rfl ?_) | (refine hN _ ?_; try clear hN hE hR Qs) | ((first | refine hE _ _ ?_ | refine hR _ ?_); try clear hN hE hR Qs) | ((first | refine kN _ ?_ | refine kE _ ?_ | refine kX _ _ rfl ?_ | refine kR _ ?_); try clear kN kE kX kR Qb)) | (refine And.intro (by kernel_rfl) ?_) | (refine stpQ ?_))
 refine z0p Nat (fun x => ⟨[(0, .sl 1 z), (2, .ptr 1 0 0), (4, .ref 2), (5, .ref 3), (6, .int .i64 (x : Int))], [(1, some (.box zEv)), (2, some (.row 1 (strE wdL))), (3, some (.row 1 szW))], 4⟩) (fun x => x ≤ 6) (fun x => 6 + 1 - x) 0 (by omega) ?_ ?_
 ·(refine z0a (by rfl) ?_ ?_) <;> (repeat' (first | (exact eqA) | (refine And.intro ?_ ?_) | ((fail_if_success (with_reducible (show _ = _))); (show _ = _)))) <;> first | rfl | decide
 ·intro Q1 hQ1 x hx
  by_cases hxj : x < 6
  ·have i1 : x < (strE wdL).length := by show x < 7; omega
   have i2 : x < szW.length := by show x < 7; omega
   have f1 : (x : Int) < ((strE wdL).length : Int) := by show (x : Int) < 7; omega
   have gw : (strE wdL)[x]? = some [.str (wdL.getD x [])] := by rw [strE, List.getElem?_map, List.getD, List.getElem?_eq_getElem (show x < wdL.length from i2)]; rfl
   have gs := z1o x (by omega)
   rcases hskip x hxj with hne | ⟨heq, hne⟩
   ·clear hskip
    repeat ((try conv => whnf); first | (with_reducible first | refine z08 (fun Qs hN hE hR => ?_) | refine z06 ?_ | refine z00 (fun Qb kN kE kX kR => ?_) | refine z02 ?_ | refine z03 ?_ | refine z07 ?_ | refine z04 ?_ | refine z05 ?_ | (show W _ _ _ (.cond _ _ _) _ _; refine z01 rfl ?_) | (refine hN _ ?_; try clear hN hE hR Qs) | ((first | refine hE _ _ ?_ | refine hR _ ?_); try clear hN hE hR Qs) | ((first | refine kN _ ?_ | refine kE _ ?_ | refine kX _ _ rfl ?_ | refine kR _ ?_); try clear kN kE kX kR Qb)) | (refine z0b f1 ?_) | (refine And.intro i1 ?_) | (refine And.intro i2 ?_) | (refine Exists.intro _ (And.intro gw ?_)) | (refine i_at g0 ?_) | (refine z0r hne ?_) | (refine And.intro (by kernel_rfl) ?_) | (refine stpQ ?_))
    refine ⟨x + 1, by omega, by omega, ?_⟩
    (refine z0a (by rfl) ?_ ?_) <;> (repeat' (first | (exact eqA) | (refine And.intro ?_ ?_) | ((fail_if_success (with_reducible (show _ = _))); (show _ = _))))
   ·clear hskip
    repeat ((try conv => whnf); first | (with_reducible first | refine z08 (fun Qs hN hE hR => ?_) | refine z06 ?_ | refine z00 (fun Qb kN kE kX kR => ?_) | refine z02 ?_ | refine z03 ?_ | refine z07 ?_ | refine z04 ?_ | refine z05 ?_ | (show W _ _ _ (.cond _ _ _) _ _; refine z01 rfl ?_) | (refine hN _ ?_; try clear hN hE hR Qs) | ((first | refine hE _ _ ?_ | refine hR _ ?_); try clear hN hE hR Qs) | ((first | refine kN _ ?_ | refine kE _ ?_ | refine kX _ _ rfl ?_ | refine kR _ ?_); try clear kN kE kX kR Qb)) | (refine z0b f1 ?_) | (refine And.intro i1 ?_) | (refine And.intro i2 ?_) | (refine Exists.intro _ (And.intro gw ?_)) | (refine Exists.intro _ (And.intro gs ?_)) | (refine i_at g0 ?_) | (refine z0j heq ?_) | (refine z0r hne ?_) | (refine And.intro (by kernel_rfl) ?_) | (refine stpQ ?_))
    refine ⟨x + 1, by omega, by omega, ?_⟩
    (refine z0a (by rfl) ?_ ?_) <;> (repeat' (first | (exact eqA) | (refine And.intro ?_ ?_) | ((fail_if_success (with_reducible (show _ = _))); (show _ = _))))
  ·obtain rfl : x = 6 := by omega
   have i1 : 6 < (strE wdL).length := by decide
   have i2 : 6 < szW.length := by decide
   have f1 : ((6 : Nat) : Int) < ((strE wdL).length : Int) := by decide
   have gw : (strE wdL)[6]? = some [.str (wdL.getD 6 [])] := rfl
   have gs := z1o 6 (by omega)
   clear hskip hxj hx
   cases b1
   ·repeat ((try conv => whnf); first | (with_reducible first | refine z08 (fun Qs hN hE hR => ?_) | refine z06 ?_ | refine z00 (fun Qb kN kE kX kR => ?_) | refine z02 ?_ | refine z03 ?_ | refine z07 ?_ | refine z04 ?_ | refine z05 ?_ | (show W _ _ _ (.cond _ _ _) _ _; refine z01 rfl ?_) | (refine hN _ ?_; try clear hN hE hR Qs) | ((first | refine hE _ _ ?_ | refine hR _ ?_); try clear hN hE hR Qs) | ((first | refine kN _ ?_ | refine kE _ ?_ | refine kX _ _ rfl ?_ | refine kR _ ?_); try clear kN kE kX kR Qb)) | (refine z0b f1 ?_) | (refine And.intro i1 ?_) | (refine And.intro i2 ?_) | (refine Exists.intro _ (And.intro gw ?_)) | (refine Exists.intro _ (And.intro gs ?_)) | (refine i_at g0 ?_) | (refine i_at g1 ?_) | (refine z0j he ?_) | (refine z0j hcl ?_) | (refine And.intro (by kernel_rfl) ?_) | (refine ccA ([]) (n1) ?_) | (refine stpQ ?_))
    refine hQ1 _ _ ?_
    clear hQ1 Q1
    repeat ((try conv => whnf); first | (with_reducible first | refine z08 (fun Qs hN hE hR => ?_) | refine z06 ?_ | refine z00 (fun Qb kN kE kX kR => ?_) | refine z02 ?_ | refine z03 ?_ | refine z07 ?_ | refine z04 ?_ | refine z05 ?_ | (show W _ _ _ (.cond _ _ _) _ _; refine z01 rfl ?_) | (refine hN _ ?_; try clear hN hE hR Qs) | ((first | refine hE _ _ ?_ | refine hR _ ?_); try clear hN hE hR Qs) | ((first | refine kN _ ?_ | refine kE _ ?_ | refine kX _ _ rfl ?_ | refine kR _ ?_); try clear kN kE kX kR Qb)) | (refine stpQ ?_))
    (refine z09 (by rfl) ?_ ?_ (by rfl)) <;> (repeat' (first | (exact eqA) | (refine And.intro ?_ ?_) | ((fail_if_success (with_reducible (show _ = _))); (show _ = _)))) <;> first | rfl | (rfl)
   ·repeat ((try conv => whnf); first | (with_reducible first | refine z08 (fun Qs hN hE hR => ?_) | refine z06 ?_ | refine z00 (fun Qb kN kE kX kR => ?_) | refine z02 ?_ | refine z03 ?_ | refine z07 ?_ | refine z04 ?_ | refine z05 ?_ | (show W _ _ _ (.cond _ _ _) _ _; refine z01 rfl ?_) | (refine hN _ ?_; try clear hN hE hR Qs) | ((first | refine hE _ _ ?_ | refine hR _ ?_); try clear hN hE hR Qs) | ((first | refine kN _ ?_ | refine kE _ ?_ | refine kX _ _ rfl ?_ | refine kR _ ?_); try clear kN kE kX kR Qb)) | (refine z0b f1 ?_) | (refine And.intro i1 ?_) | (refine And.intro i2 ?_) | (refine Exists.intro _ (And.intro gw ?_)) | (refine Exists.intro _ (And.intro gs ?_)) | (refine i_at g0 ?_) | (refine i_at g1 ?_) | (refine z0j he ?_) | (refine z0j hcl ?_) | (refine And.intro (by kernel_rfl) ?_) | (refine ccA ([]) (n1) ?_) | (refine stpQ ?_))
    refine hQ1 _ _ ?_
    clear hQ1 Q1
    repeat ((try conv => whnf); first | (with_reducible first | refine z08 (fun Qs hN hE hR => ?_) | refine z06 ?_ | refine z00 (fun Qb kN kE kX kR => ?_) | refine z02 ?_ | refine z03 ?_ | refine z07 ?_ | refine z04 ?_ | refine z05 ?_ | (show W _ _ _ (.cond _ _ _) _ _; refine z01 rfl ?_) | (refine hN _ ?_; try clear hN hE hR Qs) | ((first | refine hE _ _ ?_ | refine hR _ ?_); try clear hN hE hR Qs) | ((first | refine kN _ ?_ | refine kE _ ?_ | refine kX _ _ rfl ?_ | refine kR _ ?_); try clear kN kE kX kR Qb)) | (refine stpQ ?_))
    (refine z09 (by rfl) ?_ ?_ (by rfl)) <;> (repeat' (first | (exact eqA) | (refine And.intro ?_ ?_) | ((fail_if_success (with_reducible (show _ = _))); (show _ = _)))) <;> first | rfl | (rfl)
theorem c_le_m (p : List Bs) (h0 : 0 < p.length) (hn : ∀ j, j < 7 → wdL.getD j [] = pt p 0 → ¬ p.length = wdN j) : CT Tryd.prog 32 [] [.sl 1 (strE p)] (.tup [.agg (evC (evR (rawM p))), .bool (okR (rawM p))]) [] := by
 have cm := z7D p h0
 generalize okR (rawM p) = q at cm ⊢
 generalize evR (rawM p) = e at cm ⊢
 obtain ⟨k, h, a, mk, mn, ma, ci, cn, cv, tx⟩ := e
 unfold evC at *
 simp only at cm ⊢
 have g0 := z0g h0
 have hcl : (strE p).length = p.length := z0h p
 have hskip : ∀ x, x < 7 → (¬ pt p 0 = wdL.getD x []) ∨ (pt p 0 = wdL.getD x [] ∧ ¬ ((strE p).length : Int) = ((wdN x : Nat) : Int)) := fun x hx => by
  by_cases h : pt p 0 = wdL.getD x []
  ·exact .inr ⟨h, by have := hn x hx h.symm; omega⟩
  ·exact .inl h
 clear hn h0 hcl
 generalize pt p 0 = w at *
 generalize strE p = z at *
 refine z0d z0f 1 rfl Tryd.func32 rfl rfl rfl ?_
 conv => arg 6; whnf
 repeat ((try conv => whnf); first | (with_reducible first | refine z08 (fun Qs hN hE hR => ?_) | refine z06 ?_ | refine z00 (fun Qb kN kE kX kR => ?_) | refine z02 ?_ | refine z03 ?_ | refine z07 ?_ | refine z04 ?_ | refine z05 ?_ | (show W _ _ _ (.cond _ _ _) _ _; refine z01 rfl ?_) | (refine hN _ ?_; try clear hN hE hR Qs) | ((first | refine hE _ _ ?_ | refine hR _ ?_); try clear hN hE hR Qs) | ((first | refine kN _ ?_ | refine kE _ ?_ | refine kX _ _ rfl ?_ | refine kR _ ?_); try clear kN kE kX kR Qb)) | (refine And.intro (by kernel_rfl) ?_) | (refine stpQ ?_))
 refine z0p Nat (fun x => ⟨[(0, .sl 1 z), (2, .ptr 1 0 0), (4, .ref 2), (5, .ref 3), (6, .int .i64 (x : Int))], [(1, some (.box zEv)), (2, some (.row 1 (strE wdL))), (3, some (.row 1 szW))], 4⟩) (fun x => x ≤ 7) (fun x => 7 + 1 - x) 0 (by omega) ?_ ?_
 ·(refine z0a (by rfl) ?_ ?_) <;> (repeat' (first | (exact eqA) | (refine And.intro ?_ ?_) | ((fail_if_success (with_reducible (show _ = _))); (show _ = _)))) <;> first | rfl | decide
 ·intro Q1 hQ1 x hx
  by_cases hxj : x < 7
  ·have i1 : x < (strE wdL).length := by show x < 7; omega
   have i2 : x < szW.length := by show x < 7; omega
   have f1 : (x : Int) < ((strE wdL).length : Int) := by show (x : Int) < 7; omega
   have gw : (strE wdL)[x]? = some [.str (wdL.getD x [])] := by rw [strE, List.getElem?_map, List.getD, List.getElem?_eq_getElem (show x < wdL.length from i2)]; rfl
   have gs := z1o x (by omega)
   rcases hskip x hxj with hne | ⟨heq, hne⟩
   ·clear hskip
    repeat ((try conv => whnf); first | (with_reducible first | refine z08 (fun Qs hN hE hR => ?_) | refine z06 ?_ | refine z00 (fun Qb kN kE kX kR => ?_) | refine z02 ?_ | refine z03 ?_ | refine z07 ?_ | refine z04 ?_ | refine z05 ?_ | (show W _ _ _ (.cond _ _ _) _ _; refine z01 rfl ?_) | (refine hN _ ?_; try clear hN hE hR Qs) | ((first | refine hE _ _ ?_ | refine hR _ ?_); try clear hN hE hR Qs) | ((first | refine kN _ ?_ | refine kE _ ?_ | refine kX _ _ rfl ?_ | refine kR _ ?_); try clear kN kE kX kR Qb)) | (refine z0b f1 ?_) | (refine And.intro i1 ?_) | (refine And.intro i2 ?_) | (refine Exists.intro _ (And.intro gw ?_)) | (refine i_at g0 ?_) | (refine z0r hne ?_) | (refine And.intro (by kernel_rfl) ?_) | (refine stpQ ?_))
    refine ⟨x + 1, by omega, by omega, ?_⟩
    (refine z0a (by rfl) ?_ ?_) <;> (repeat' (first | (exact eqA) | (refine And.intro ?_ ?_) | ((fail_if_success (with_reducible (show _ = _))); (show _ = _))))
   ·clear hskip
    repeat ((try conv => whnf); first | (with_reducible first | refine z08 (fun Qs hN hE hR => ?_) | refine z06 ?_ | refine z00 (fun Qb kN kE kX kR => ?_) | refine z02 ?_ | refine z03 ?_ | refine z07 ?_ | refine z04 ?_ | refine z05 ?_ | (show W _ _ _ (.cond _ _ _) _ _; refine z01 rfl ?_) | (refine hN _ ?_; try clear hN hE hR Qs) | ((first | refine hE _ _ ?_ | refine hR _ ?_); try clear hN hE hR Qs) | ((first | refine kN _ ?_ | refine kE _ ?_ | refine kX _ _ rfl ?_ | refine kR _ ?_); try clear kN kE kX kR Qb)) | (refine z0b f1 ?_) | (refine And.intro i1 ?_) | (refine And.intro i2 ?_) | (refine Exists.intro _ (And.intro gw ?_)) | (refine Exists.intro _ (And.intro gs ?_)) | (refine i_at g0 ?_) | (refine z0j heq ?_) | (refine z0r hne ?_) | (refine And.intro (by kernel_rfl) ?_) | (refine stpQ ?_))
    refine ⟨x + 1, by omega, by omega, ?_⟩
    (refine z0a (by rfl) ?_ ?_) <;> (repeat' (first | (exact eqA) | (refine And.intro ?_ ?_) | ((fail_if_success (with_reducible (show _ = _))); (show _ = _))))
  ·obtain rfl : x = 7 := by omega
   have f1 : ¬ ((7 : Nat) : Int) < ((strE wdL).length : Int) := by show ¬ (7 : Int) < 7; omega
   clear hskip
   repeat ((try conv => whnf); first | (with_reducible first | refine z08 (fun Qs hN hE hR => ?_) | refine z06 ?_ | refine z00 (fun Qb kN kE kX kR => ?_) | refine z02 ?_ | refine z03 ?_ | refine z07 ?_ | refine z04 ?_ | refine z05 ?_ | (show W _ _ _ (.cond _ _ _) _ _; refine z01 rfl ?_) | (refine hN _ ?_; try clear hN hE hR Qs) | ((first | refine hE _ _ ?_ | refine hR _ ?_); try clear hN hE hR Qs) | ((first | refine kN _ ?_ | refine kE _ ?_ | refine kX _ _ rfl ?_ | refine kR _ ?_); try clear kN kE kX kR Qb)) | (refine z0c f1 ?_) | (refine stpQ ?_))
   refine hQ1 _ _ ?_
   clear hQ1 Q1
   repeat ((try conv => whnf); first | (with_reducible first | refine z08 (fun Qs hN hE hR => ?_) | refine z06 ?_ | refine z00 (fun Qb kN kE kX kR => ?_) | refine z02 ?_ | refine z03 ?_ | refine z07 ?_ | refine z04 ?_ | refine z05 ?_ | (show W _ _ _ (.cond _ _ _) _ _; refine z01 rfl ?_) | (refine hN _ ?_; try clear hN hE hR Qs) | ((first | refine hE _ _ ?_ | refine hR _ ?_); try clear hN hE hR Qs) | ((first | refine kN _ ?_ | refine kE _ ?_ | refine kX _ _ rfl ?_ | refine kR _ ?_); try clear kN kE kX kR Qb)) | (refine ccA ([]) (cm) ?_) | (refine stpQ ?_))
   (refine z09 (by rfl) ?_ ?_ (by rfl)) <;> (repeat' (first | (exact eqA) | (refine And.intro ?_ ?_) | ((fail_if_success (with_reducible (show _ = _))); (show _ = _))))
theorem z7E (p : List Bs) (h0 : 0 < p.length) : CT Tryd.prog 32 [] [.sl 1 (strE p)] (.tup [.agg (evC (evR (rawE p))), .bool (okR (rawE p))]) [] := by
 have no : (∀ j, j < 7 → wdL.getD j [] = pt p 0 → ¬ p.length = wdN j) → rawE p = rawM p → CT Tryd.prog 32 [] [.sl 1 (strE p)] (.tup [.agg (evC (evR (rawE p))), .bool (okR (rawE p))]) [] := fun h1 h2 => by
  rw [h2]
  exact c_le_m p h0 h1
 rcases zaE (w := pt p 0) with ⟨j, hj, hw, hi⟩ | ⟨hi, hn⟩
 ·by_cases hl : p.length = wdN j
  ·have hr : rawE p = some (wdE j p, wdB j p) := by rw [rawE, hi, if_pos ⟨hj, hl⟩]
   rw [hr]
   show CT _ _ _ _ (.tup [.agg (evC (wdE j p)), .bool (wdB j p)]) _
   clear no hr hi
   obtain rfl | rfl | rfl | rfl | rfl | rfl | rfl : j = 0 ∨ j = 1 ∨ j = 2 ∨ j = 3 ∨ j = 4 ∨ j = 5 ∨ j = 6 := by omega
   ·exact c_le0 p hw hl
   ·exact c_le1 p hw hl
   ·exact c_le2 p hw hl
   ·exact c_le3 p hw hl
   ·exact c_le4 p hw hl
   ·exact c_le5 p hw hl
   ·exact c_le6 p hw hl
  ·refine no (fun i hi2 hw2 => ?_) (by rw [rawE, hi, if_neg (fun c => hl c.2)])
   by_cases hij : i = j
   ·rw [hij]; exact hl
   ·exact absurd (hw2.trans hw.symm) (z4F j hj i hi2 hij)
 ·exact no (fun i hi2 hw2 => absurd hw2 (hn i hi2)) (by rw [rawE, hi, if_neg (fun c => by have := c.1; omega)])
end
end Go.Proofs.YtfgkjgfigjpkoaaDoor
