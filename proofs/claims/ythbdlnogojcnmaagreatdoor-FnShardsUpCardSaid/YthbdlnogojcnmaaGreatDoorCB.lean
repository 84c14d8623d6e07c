/- Functions by content: changes drawn. -/
import Derived.Test.YthbdlnogojcnmaaGreatDoorVd
import Derived.Test.YthbdlnogojcnmaaGreatDoorCap
import Derived.Test.YthbdlnogojcnmaaGreatDoorFc
namespace Go.Proofs.YthbdlnogojcnmaaGreatDoor
set_option linter.unusedVariables false
set_option linter.unusedSimpArgs false
set_option linter.unusedSectionVars false
open Go.RowKit Pl
attribute [local irreducible] z0p z0r z0y AnsP LeP
def ChDraw (u : Ch) : Prop := z0h u.1 u.2.1 u.2.2 = true ∧ ChGood u
set_option maxRecDepth 100000 in
set_option maxHeartbeats 1000000 in
theorem zaq (c : Bs) (i : Nat) (h : Int) (hc : (c.length : Int) ≤ 1048576) (hi : i ≤ c.length) : ∃ (u : Ch) (i' : Nat) (h' : Int), ChDraw u ∧ i' ≤ c.length ∧ CT Tryz.prog 72 [curE c i h] [.ptr 1 0 0] (.agg (chL u)) [curE c i' h'] := by
 obtain ⟨x, i1, h1, hx, hi1, k1⟩ := z4A c i h 30 hc hi (by omega)
 obtain ⟨n, i2, h2, hn, hi2, k2⟩ := zdU c i1 h1 hc hi1
 obtain ⟨v, i3, h3, hv, hi3, k3⟩ := zci c i2 h2 hc hi2
 obtain ⟨b, i4, h4, hi4, k4⟩ := c_once c i3 h3 5 hc hi3 (by omega)
 cases b
 ·refine ⟨(((1 + x : Nat) : Int), n, v), i4, h4, ⟨?_, hn.1, .inr hv.1⟩, hi4, z01 z0M 2 rfl Tryz.func72 rfl rfl rfl ?_⟩
  ·unfold z0h
   simp only [hn.1, hv.1, Bool.or_true, Bool.and_true, Bool.and_eq_true, decide_eq_true_eq]
   omega
  ·repeat ((try conv => whnf); first | (refine ccB ([1]) (k1) ?_) | (refine ccB ([1]) (k2) ?_) | (refine ccB ([1]) (k3) ?_) | (refine ccB ([1]) (k4) ?_) | (refine zdH (by omega) ?_) | (refine stpQ ?_))
   (refine z00 (by rfl) ?_ ?_ (by rfl)) <;> (repeat' (first | (exact eqA) | (refine shE ?_) | (refine And.intro ?_ ?_)))
 ·refine ⟨(((1 + x : Nat) : Int), n, []), i4, h4, ⟨?_, hn.1, .inl rfl⟩, hi4, z01 z0M 2 rfl Tryz.func72 rfl rfl rfl ?_⟩
  ·unfold z0h
   simp only [hn.1, List.isEmpty_nil, Bool.true_or, Bool.and_true, Bool.and_eq_true, decide_eq_true_eq]
   omega
  ·repeat ((try conv => whnf); first | (refine ccB ([1]) (k1) ?_) | (refine ccB ([1]) (k2) ?_) | (refine ccB ([1]) (k3) ?_) | (refine ccB ([1]) (k4) ?_) | (refine zdH (by omega) ?_) | (refine stpQ ?_))
   (refine z00 (by rfl) ?_ ?_ (by rfl)) <;> (repeat' (first | (exact eqA) | (refine shE ?_) | (refine And.intro ?_ ?_)))
inductive CR (c : Bs) : Nat → List Ch → Nat → Int → List Ch → Nat → Int → Prop
 | stop {k l i h x i' h'} : i' ≤ c.length → x ≤ k → CT Tryz.prog 54 [curE c i h] [.ptr 1 0 0, .int .i64 8] (.int .i64 ((x : Nat) : Int)) [curE c i' h'] → CR c k l i h l i' h'
 | step {k l i h x i1 h1 u i2 h2 l' i' h'} : x < 8 → k < x → i1 ≤ c.length → CT Tryz.prog 54 [curE c i h] [.ptr 1 0 0, .int .i64 8] (.int .i64 ((x : Nat) : Int)) [curE c i1 h1] →
    i2 ≤ c.length → CT Tryz.prog 72 [curE c i1 h1] [.ptr 1 0 0] (.agg (chL u)) [curE c i2 h2] → CR c (k + 1) (l ++ [u]) i2 h2 l' i' h' → CR c k l i h l' i' h'
end Go.Proofs.YthbdlnogojcnmaaGreatDoor
