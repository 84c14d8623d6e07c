/- Functions by content: letters of both sides. Functions by content: letters drawn; a byte turned. Functions by content: the laws compare a shard with itself. -/
import Derived.Test.YtkjjacndfieeoaaGreatDoorFb
import Derived.Test.YtkjjacndfieeoaaGreatDoorLts
import Derived.Test.YtkjjacndfieeoaaGreatDoorFa
import Derived.Test.YtkjjacndfieeoaaGreatDoorVd
import Derived.Test.YtkjjacndfieeoaaGreatDoorFc
import Derived.Test.YtkjjacndfieeoaaGreatDoorHa
import Derived.Test.YtkjjacndfieeoaaGreatDoorSvz
import Derived.Test.YtkjjacndfieeoaaGreatDoorTyL
namespace Go.Proofs.YtkjjacndfieeoaaGreatDoor
set_option linter.unusedVariables false
set_option linter.unusedSimpArgs false
set_option linter.unusedSectionVars false
open Go.RowKit Pl
attribute [local irreducible] z0m z0n z0q AnsP LeP
def ltL (k f t e y : Int) (r : Bs) : List T := [.int .i64 k, .int .i64 f, .int .i64 t, .int .i64 e, .int .i64 y, .str r]
theorem z4T (k f t e y : Int) (r : Bs) : CT Tryz.prog 40 [] [.agg (ltL k f t e y r)] (.bool (z04 k f t e y r)) [] :=
 z3D ⟨_, Tryz.func40, rfl, rfl⟩ rfl (fun X => z1r X _) fun w => by
  have h := zac k f t e y (bs r) w
  rwa [z1e] at h
theorem z1O (k f t e y : Int) (r : Bs) : CT Tryz.prog 97 [] [.agg (ltL k f t e y r)] (.bool (z04 k f t e y r)) [] :=
 z3D ⟨_, Tryz.func97, rfl, rfl⟩ rfl (fun X => z1r X _) fun w => by
  have h := z8U k f t e y (bs r) w
  rwa [z1e] at h
end Go.Proofs.YtkjjacndfieeoaaGreatDoor
namespace Go.Proofs.YtkjjacndfieeoaaGreatDoor
set_option maxRecDepth 100000
set_option maxHeartbeats 1000000
set_option linter.unusedVariables false
set_option linter.unusedSimpArgs false
set_option linter.unusedSectionVars false
open Go.RowKit Pl
attribute [local irreducible] z0m z0n z0q AnsP LeP
theorem z3Z (t : Bs) (w : Nat) (ht : (t.length : Int) ≤ 100000000) (hw : 1 ≤ w ∧ w ≤ 32) : CT Tryz.prog 14 [] [.str t, .int .i64 (w : Int)] (.str ((z1c t).take w)) [] := by
 have hin : (!inB (w : Int) 1 32) = false := by rw [z0u.2 (by omega)]; rfl
 have hl := z1s t
 have cd := zcl t ht
 generalize z1c t = d at hl cd ⊢
 refine z01 z0A 1 rfl Tryz.func14 rfl rfl rfl ?_
 repeat ((try conv => whnf); first | (refine ccA ([]) (z0U _ _ _) ?_) | (refine ccA ([]) (cd) ?_) | (refine And.intro (by kernel_rfl) ?_) | (refine stpQ ?_))
 (refine z00 (by rfl) ?_ ?_ (by rfl)) <;> (repeat' (first | (exact eqA) | (refine shE ?_) | (refine And.intro ?_ ?_)))
theorem za2 (c : Bs) (i : Nat) (h : Int) (hc : (c.length : Int) ≤ 1048576) (hi : i ≤ c.length) : ∃ (s : Bs) (i' : Nat) (h' : Int), s.length = 16 ∧ i' ≤ c.length ∧ CT Tryz.prog 59 [curE c i h] [.ptr 1 0 0] (.str s) [curE c i' h'] := by
 obtain ⟨u, i1, h1, hu, hi1, k1⟩ := zi0 c i h 2 hc hi (by omega)
 have k2 := z3Z u 16 (by omega) (by omega)
 have hl := z1s u
 generalize z1c u = d at hl k2
 refine ⟨d.take 16, i1, h1, by rw [List.length_take, hl]; rfl, hi1, z01 z0A 2 rfl Tryz.func59 rfl rfl rfl ?_⟩
 repeat ((try conv => whnf); first | (refine ccB ([1]) (k1) ?_) | (refine ccA ([]) (k2) ?_) | (refine And.intro (by kernel_rfl) ?_) | (refine stpQ ?_))
 (refine z00 (by rfl) ?_ ?_ (by rfl)) <;> (repeat' (first | (exact eqA) | (refine shE ?_) | (refine And.intro ?_ ?_)))
end Go.Proofs.YtkjjacndfieeoaaGreatDoor
namespace Go.Proofs.YtkjjacndfieeoaaGreatDoor
set_option maxRecDepth 100000
set_option maxHeartbeats 8000000
set_option linter.unusedVariables false
set_option linter.unusedSimpArgs false
set_option linter.unusedSectionVars false
open Go.RowKit Pl
section
attribute [local irreducible] z0m z0n z0q AnsP LeP W CvE
theorem ziL (l : List Nat) (h : l.length ≤ 10000) : CT Tryz.prog 44 [] [.sl 1 (ntE l), .sl 1 (ntE l)] (.bool true) [] := by
 have hl := z7A l
 have f0 : ((l.length : Nat) : Int) = ((l.length : Nat) : Int) := rfl
 refine z01 z0f 1 rfl Tryz.func44 rfl rfl rfl ?_
 conv => arg 6; whnf
 repeat ((try conv => whnf); first | (with_reducible first | refine z0c (fun Qs hN hE hR => ?_) | refine z0a ?_ | refine z03 (fun Qb kN kE kX kR => ?_) | refine z06 ?_ | refine z07 ?_ | refine z0b ?_ | refine z08 ?_ | refine z09 ?_ | (show W _ _ _ (.cond _ _ _) _ _; refine z05 rfl ?_) | (refine hN _ ?_; try clear hN hE hR Qs; (try (conv => arg 6; dsimp only [ovl, List.set, List.map, ren0]))) | ((first | refine hE _ _ ?_ | refine hR _ ?_); try clear hN hE hR Qs) | ((first | refine kN _ ?_ | refine kE _ ?_ | refine kX _ _ rfl ?_ | refine kR _ ?_); try clear kN kE kX kR Qb)) | (refine Exists.intro l.length (And.intro hl ?_)) | (refine z0F f0 ?_) | (refine And.intro (by kernel_rfl) ?_) | (refine stpQ ?_))
 refine z11 Nat (fun i => ⟨[(0, .sl 1 (ntE l)), (1, .sl 1 (ntE l)), (5, .int .i64 (i : Int))], [], 1⟩) (fun i => i ≤ l.length) (fun i => l.length - i) 0 (Nat.zero_le _) ?_ ?_
 ·(refine z02 (by rfl) ?_ ?_) <;> (repeat' (first | (exact eqA) | (refine And.intro ?_ ?_) | ((fail_if_success (with_reducible (show _ = _))); (show _ = _)))) <;> first | rfl | decide
 ·intro Q1 hQ1 i hi
  by_cases hlt : i < l.length
  ·have f1 : (i : Int) < ((l.length : Nat) : Int) := by omega
   have gi := zhQ hlt
   generalize l[i] = x at *
   have fe : ((x : Nat) : Int) = ((x : Nat) : Int) := rfl
   repeat ((try conv => whnf); first | (with_reducible first | refine z0c (fun Qs hN hE hR => ?_) | refine z0a ?_ | refine z03 (fun Qb kN kE kX kR => ?_) | refine z06 ?_ | refine z07 ?_ | refine z0b ?_ | refine z08 ?_ | refine z09 ?_ | (show W _ _ _ (.cond _ _ _) _ _; refine z05 rfl ?_) | (refine hN _ ?_; try clear hN hE hR Qs; (try (conv => arg 6; dsimp only [ovl, List.set, List.map, ren0]))) | ((first | refine hE _ _ ?_ | refine hR _ ?_); try clear hN hE hR Qs) | ((first | refine kN _ ?_ | refine kE _ ?_ | refine kX _ _ rfl ?_ | refine kR _ ?_); try clear kN kE kX kR Qb)) | (refine Exists.intro l.length (And.intro hl ?_)) | (refine z0k f1 ?_) | (refine i_at gi ?_) | (refine z0F fe ?_) | (refine cb_f fq ?_) | (refine And.intro (by kernel_rfl) ?_) | (refine stpQ ?_))
   refine ⟨i + 1, hlt, by (try dsimp only); omega, ?_⟩
   (refine z02 (by rfl) ?_ ?_) <;> (repeat' (first | (exact eqA) | (refine And.intro ?_ ?_) | ((fail_if_success (with_reducible (show _ = _))); (show _ = _)))) <;> rfl
  ·obtain rfl : i = l.length := by omega
   have f1 : ¬ ((l.length : Nat) : Int) < ((l.length : Nat) : Int) := by omega
   repeat ((try conv => whnf); first | (with_reducible first | refine z0c (fun Qs hN hE hR => ?_) | refine z0a ?_ | refine z03 (fun Qb kN kE kX kR => ?_) | refine z06 ?_ | refine z07 ?_ | refine z0b ?_ | refine z08 ?_ | refine z09 ?_ | (show W _ _ _ (.cond _ _ _) _ _; refine z05 rfl ?_) | (refine hN _ ?_; try clear hN hE hR Qs; (try (conv => arg 6; dsimp only [ovl, List.set, List.map, ren0]))) | ((first | refine hE _ _ ?_ | refine hR _ ?_); try clear hN hE hR Qs) | ((first | refine kN _ ?_ | refine kE _ ?_ | refine kX _ _ rfl ?_ | refine kR _ ?_); try clear kN kE kX kR Qb)) | (refine Exists.intro l.length (And.intro hl ?_)) | (refine z0o f1 ?_) | (refine And.intro (by kernel_rfl) ?_) | (refine stpQ ?_))
   refine hQ1 _ _ ?_
   clear hQ1 Q1
   repeat ((try conv => whnf); first | (with_reducible first | refine z0c (fun Qs hN hE hR => ?_) | refine z0a ?_ | refine z03 (fun Qb kN kE kX kR => ?_) | refine z06 ?_ | refine z07 ?_ | refine z0b ?_ | refine z08 ?_ | refine z09 ?_ | (show W _ _ _ (.cond _ _ _) _ _; refine z05 rfl ?_) | (refine hN _ ?_; try clear hN hE hR Qs; (try (conv => arg 6; dsimp only [ovl, List.set, List.map, ren0]))) | ((first | refine hE _ _ ?_ | refine hR _ ?_); try clear hN hE hR Qs) | ((first | refine kN _ ?_ | refine kE _ ?_ | refine kX _ _ rfl ?_ | refine kR _ ?_); try clear kN kE kX kR Qb)) | (refine And.intro (by kernel_rfl) ?_) | (refine stpQ ?_))
   (refine z00 (by rfl) ?_ ?_ (by rfl)) <;> (repeat' (first | (exact eqA) | (refine And.intro ?_ ?_) | ((fail_if_success (with_reducible (show _ = _))); (show _ = _)))) <;> rfl
theorem ziM (l : List Fl) (h : l.length ≤ 10000) : CT Tryz.prog 46 [] [.agg [.sl 3 (flE l)], .agg [.sl 3 (flE l)]] (.bool true) [] := by
 have hl := z2j l
 have f0 : ((l.length : Nat) : Int) = ((l.length : Nat) : Int) := rfl
 refine z01 z0f 1 rfl Tryz.func46 rfl rfl rfl ?_
 conv => arg 6; whnf
 repeat ((try conv => whnf); first | (with_reducible first | refine z0c (fun Qs hN hE hR => ?_) | refine z0a ?_ | refine z03 (fun Qb kN kE kX kR => ?_) | refine z06 ?_ | refine z07 ?_ | refine z0b ?_ | refine z08 ?_ | refine z09 ?_ | (show W _ _ _ (.cond _ _ _) _ _; refine z05 rfl ?_) | (refine hN _ ?_; try clear hN hE hR Qs; (try (conv => arg 6; dsimp only [ovl, List.set, List.map, ren0]))) | ((first | refine hE _ _ ?_ | refine hR _ ?_); try clear hN hE hR Qs) | ((first | refine kN _ ?_ | refine kE _ ?_ | refine kX _ _ rfl ?_ | refine kR _ ?_); try clear kN kE kX kR Qb)) | (refine Exists.intro l.length (And.intro hl ?_)) | (refine z0F f0 ?_) | (refine And.intro (by kernel_rfl) ?_) | (refine stpQ ?_))
 refine z11 Nat (fun i => ⟨[(2, .ptr 1 0 0), (3, .ptr 2 0 0), (5, .int .i64 (i : Int))], [(1, some (.box [.sl 3 (flE l)])), (2, some (.box [.sl 3 (flE l)]))], 3⟩) (fun i => i ≤ l.length) (fun i => l.length - i) 0 (Nat.zero_le _) ?_ ?_
 ·(refine z02 (by rfl) ?_ ?_) <;> (repeat' (first | (exact eqA) | (refine And.intro ?_ ?_) | ((fail_if_success (with_reducible (show _ = _))); (show _ = _)))) <;> first | rfl | decide
 ·intro Q1 hQ1 i hi
  by_cases hlt : i < l.length
  ·have f1 : (i : Int) < ((l.length : Nat) : Int) := by omega
   have gi := z2k hlt
   generalize flAt l i = x at *
   have fq : (!(eqC [.str x.1, .str x.2.1, .int .i64 x.2.2] [.str x.1, .str x.2.1, .int .i64 x.2.2])) = false := by simp [eqC]
   repeat ((try conv => whnf); first | (with_reducible first | refine z0c (fun Qs hN hE hR => ?_) | refine z0a ?_ | refine z03 (fun Qb kN kE kX kR => ?_) | refine z06 ?_ | refine z07 ?_ | refine z0b ?_ | refine z08 ?_ | refine z09 ?_ | (show W _ _ _ (.cond _ _ _) _ _; refine z05 rfl ?_) | (refine hN _ ?_; try clear hN hE hR Qs; (try (conv => arg 6; dsimp only [ovl, List.set, List.map, ren0]))) | ((first | refine hE _ _ ?_ | refine hR _ ?_); try clear hN hE hR Qs) | ((first | refine kN _ ?_ | refine kE _ ?_ | refine kX _ _ rfl ?_ | refine kR _ ?_); try clear kN kE kX kR Qb)) | (refine Exists.intro l.length (And.intro hl ?_)) | (refine z0k f1 ?_) | (refine i_at gi ?_) | (refine z0F fe ?_) | (refine cb_f fq ?_) | (refine And.intro (by kernel_rfl) ?_) | (refine stpQ ?_))
   refine ⟨i + 1, hlt, by (try dsimp only); omega, ?_⟩
   (refine z02 (by rfl) ?_ ?_) <;> (repeat' (first | (exact eqA) | (refine And.intro ?_ ?_) | ((fail_if_success (with_reducible (show _ = _))); (show _ = _)))) <;> rfl
  ·obtain rfl : i = l.length := by omega
   have f1 : ¬ ((l.length : Nat) : Int) < ((l.length : Nat) : Int) := by omega
   repeat ((try conv => whnf); first | (with_reducible first | refine z0c (fun Qs hN hE hR => ?_) | refine z0a ?_ | refine z03 (fun Qb kN kE kX kR => ?_) | refine z06 ?_ | refine z07 ?_ | refine z0b ?_ | refine z08 ?_ | refine z09 ?_ | (show W _ _ _ (.cond _ _ _) _ _; refine z05 rfl ?_) | (refine hN _ ?_; try clear hN hE hR Qs; (try (conv => arg 6; dsimp only [ovl, List.set, List.map, ren0]))) | ((first | refine hE _ _ ?_ | refine hR _ ?_); try clear hN hE hR Qs) | ((first | refine kN _ ?_ | refine kE _ ?_ | refine kX _ _ rfl ?_ | refine kR _ ?_); try clear kN kE kX kR Qb)) | (refine Exists.intro l.length (And.intro hl ?_)) | (refine z0o f1 ?_) | (refine And.intro (by kernel_rfl) ?_) | (refine stpQ ?_))
   refine hQ1 _ _ ?_
   clear hQ1 Q1
   repeat ((try conv => whnf); first | (with_reducible first | refine z0c (fun Qs hN hE hR => ?_) | refine z0a ?_ | refine z03 (fun Qb kN kE kX kR => ?_) | refine z06 ?_ | refine z07 ?_ | refine z0b ?_ | refine z08 ?_ | refine z09 ?_ | (show W _ _ _ (.cond _ _ _) _ _; refine z05 rfl ?_) | (refine hN _ ?_; try clear hN hE hR Qs; (try (conv => arg 6; dsimp only [ovl, List.set, List.map, ren0]))) | ((first | refine hE _ _ ?_ | refine hR _ ?_); try clear hN hE hR Qs) | ((first | refine kN _ ?_ | refine kE _ ?_ | refine kX _ _ rfl ?_ | refine kR _ ?_); try clear kN kE kX kR Qb)) | (refine And.intro (by kernel_rfl) ?_) | (refine stpQ ?_))
   (refine z00 (by rfl) ?_ ?_ (by rfl)) <;> (repeat' (first | (exact eqA) | (refine And.intro ?_ ?_) | ((fail_if_success (with_reducible (show _ = _))); (show _ = _)))) <;> rfl
end
end Go.Proofs.YtkjjacndfieeoaaGreatDoor
