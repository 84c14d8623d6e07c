/- Functions by content: the reference's one-time keys, pools, and signatures. Functions by content: the reference signs; heads, seals and stamps. -/
import Derived.Test.YtnhcfmmdaihneaaPs
namespace Go.Proofs.Ytnhcfmmdaihneaa
set_option maxRecDepth 100000
set_option maxHeartbeats 2000000
set_option linter.unusedVariables false
set_option linter.unusedSimpArgs false
set_option linter.unusedSectionVars false
open Go.RowKit Pl
attribute [local irreducible] z0m z0o z0s AnsP LeP
theorem zd9 {x lo hi : Int} (h : lo ≤ x ∧ x ≤ hi) : CT Try.prog 49 [] [.int .i64 x, .int .i64 lo, .int .i64 hi] (.bool true) [] := by
 have := z2D x lo hi
 rwa [z12.2 h] at this
end Go.Proofs.Ytnhcfmmdaihneaa
namespace Go.Proofs.Ytnhcfmmdaihneaa
set_option maxRecDepth 100000
set_option maxHeartbeats 2000000
set_option linter.unusedVariables false
set_option linter.unusedSimpArgs false
set_option linter.unusedSectionVars false
open Go.RowKit Pl
attribute [local irreducible] z0m z0o z0s AnsP LeP
theorem zaU (h : Hd) (g : h.good) : CT Try.prog 68 [] [.agg (hdE h)] (.bool true) [] := by
 obtain ⟨ho, ep, ro, pr⟩ := h
 obtain ⟨h1, h2, h3, h4, h5⟩ := g
 simp only at h1 h2 h3 h4 h5
 have c1 := zd9 (x := (ho : Int)) (lo := 0) (hi := 2) (by omega)
 have c2 := zd9 (x := (ep : Int)) (lo := 1) (hi := 4) (by omega)
 have hr : (ro.length : Int) = 16 := by omega
 by_cases he : ep = 1
 ·rw [if_pos he] at h5
  subst he h5
  refine z01 z0y 1 rfl Try.func68 rfl rfl rfl ?_
  repeat ((try conv => whnf); first | (refine ccA ([]) (c1) ?_) | (refine ccA ([]) (c2) ?_) | (refine stpQ ?_))
  (refine z00 (by rfl) ?_ ?_ (by rfl)) <;> (repeat' (first | (exact eqA) | (refine shE ?_) | (refine And.intro ?_ ?_))) <;> first | rfl | decide
 ·rw [if_neg he] at h5
  have he2 : ¬ (ep : Int) = 1 := by omega
  have hq : (pr.length : Int) = 16 := by omega
  refine z01 z0y 1 rfl Try.func68 rfl rfl rfl ?_
  repeat ((try conv => whnf); first | (refine ccA ([]) (c1) ?_) | (refine ccA ([]) (c2) ?_) | (refine stpQ ?_))
  (refine z00 (by rfl) ?_ ?_ (by rfl)) <;> (repeat' (first | (exact eqA) | (refine shE ?_) | (refine And.intro ?_ ?_))) <;> first | rfl | (exact decide_eq_true hq) | simp [hq]
theorem z4K (h : Hd) (g : h.good) : CT Try.prog 69 [] [.agg (hdE h)] (.tup [.str (z0E h), .bool true]) [] := by
 have c1 := zaU h g
 obtain ⟨ho, ep, ro, pr⟩ := h
 obtain ⟨h1, h2, h3, h4, h5⟩ := g
 simp only at h1 h2 h3 h4 h5
 have hq : pr.length ≤ 16 := by
  split at h5
  ·rw [h5]; simp
  ·omega
 refine z01 z0y 1 rfl Try.func69 rfl rfl rfl ?_
 repeat ((try conv => whnf); first | (refine ccA ([]) (c1) ?_) | (refine w_u8 ?_) | (refine Exists.intro [UInt8.ofNat ho, UInt8.ofNat ep] (And.intro rfl ?_)) | (refine And.intro (by simp; omega) ?_) | (refine stpQ ?_))
 (refine z00 (by rfl) ?_ ?_ (by rfl)) <;> (repeat' (first | (exact eqA) | (refine shE ?_) | (refine And.intro ?_ ?_))) <;> rfl
end Go.Proofs.Ytnhcfmmdaihneaa
