/- Functions by content: changes drawn. -/
import Derived.Test.YtfjbinbpgdiafaaGreatDoorVd
import Derived.Test.YtfjbinbpgdiafaaGreatDoorCap
import Derived.Test.YtfjbinbpgdiafaaGreatDoorFc
namespace Go.Proofs.YtfjbinbpgdiafaaGreatDoor
set_option maxRecDepth 100000
set_option maxHeartbeats 2000000
set_option linter.unusedVariables false
set_option linter.unusedSimpArgs false
set_option linter.unusedSectionVars false
open Go.RowKit Pl
attribute [local irreducible] z0r z0s z0z AnsP LeP
def ChDraw (u : Ch) : Prop := z0g u.1 u.2.1 u.2.2 = true ∧ zg0 u
theorem zfD {u : Ch} (h : zg0 u) : z52 u := by
 obtain ⟨h1, h2⟩ := h
 have := z0D h1
 refine ⟨by omega, ?_⟩
 rcases h2 with h2 | h2
 ·rw [h2]; simp
 ·have := z11 h2; omega
theorem zas (c : Bs) (i : Nat) (h : Int) (hc : (c.length : Int) ≤ 1048576) (hi : i ≤ c.length) : ∃ (u : Ch) (i' : Nat) (h' : Int), ChDraw u ∧ i' ≤ c.length ∧ CT Tryz.prog 100 [curE c i h] [.ptr 1 0 0] (.agg (chL u)) [curE c i' h'] := by
 obtain ⟨x, i1, h1, hx, hi1, k1⟩ := z2a c i h 30 hc hi (by omega)
 obtain ⟨n, i2, h2, hn, hi2, k2⟩ := z4i c i1 h1 hc hi1
 obtain ⟨v, i3, h3, hv, hi3, k3⟩ := z72 c i2 h2 hc hi2
 obtain ⟨b, i4, h4, hi4, k4⟩ := zg7 c i3 h3 5 hc hi3 (by omega)
 cases b
 ·refine ⟨(((1 + x : Nat) : Int), n, v), i4, h4, ⟨?_, hn.1, .inr hv.1⟩, hi4, z01 z0v 2 rfl Tryz.func100 rfl rfl rfl ?_⟩
  ·unfold z0g
   simp only [hn.1, hv.1, Bool.or_true, Bool.and_true, Bool.and_eq_true, decide_eq_true_eq]
   omega
  ·repeat ((try conv => whnf); first | (refine ccB ([1]) (k1) ?_) | (refine ccB ([1]) (k2) ?_) | (refine ccB ([1]) (k3) ?_) | (refine ccB ([1]) (k4) ?_) | (refine z8B (by omega) ?_) | (refine stpQ ?_))
   (refine z00 (by rfl) ?_ ?_ (by rfl)) <;> (repeat' (first | (exact eqA) | (refine shE ?_) | (refine And.intro ?_ ?_)))
 ·refine ⟨(((1 + x : Nat) : Int), n, []), i4, h4, ⟨?_, hn.1, .inl rfl⟩, hi4, z01 z0v 2 rfl Tryz.func100 rfl rfl rfl ?_⟩
  ·unfold z0g
   simp only [hn.1, List.isEmpty_nil, Bool.true_or, Bool.and_true, Bool.and_eq_true, decide_eq_true_eq]
   omega
  ·repeat ((try conv => whnf); first | (refine ccB ([1]) (k1) ?_) | (refine ccB ([1]) (k2) ?_) | (refine ccB ([1]) (k3) ?_) | (refine ccB ([1]) (k4) ?_) | (refine z8B (by omega) ?_) | (refine stpQ ?_))
   (refine z00 (by rfl) ?_ ?_ (by rfl)) <;> (repeat' (first | (exact eqA) | (refine shE ?_) | (refine And.intro ?_ ?_)))
inductive CR (c : Bs) : Nat → List Ch → Nat → Int → List Ch → Nat → Int → Prop
 | stop {k l i h x i' h'} : i' ≤ c.length → x ≤ k → CT Tryz.prog 71 [curE c i h] [.ptr 1 0 0, .int .i64 8] (.int .i64 ((x : Nat) : Int)) [curE c i' h'] → CR c k l i h l i' h'
 | step {k l i h x i1 h1 u i2 h2 l' i' h'} : x < 8 → k < x → i1 ≤ c.length → CT Tryz.prog 71 [curE c i h] [.ptr 1 0 0, .int .i64 8] (.int .i64 ((x : Nat) : Int)) [curE c i1 h1] →
    i2 ≤ c.length → CT Tryz.prog 100 [curE c i1 h1] [.ptr 1 0 0] (.agg (chL u)) [curE c i2 h2] → CR c (k + 1) (l ++ [u]) i2 h2 l' i' h' → CR c k l i h l' i' h'
def ints4 : List Int := [0, 99, 100, -1]
def strs3 : List Bs := [[], [65], [116, 104, 105, 114, 116, 101, 101, 110, 116, 104, 105, 114, 116]]
def strs2 : List Bs := [[97, 32, 98], [116, 104, 105, 114, 116, 101, 101, 110, 116, 104, 105, 114, 116]]
theorem zeu : ∀ s ∈ strs3, s.length ≤ 13 := by decide
theorem zev : ∀ s ∈ strs2, s.length ≤ 13 := by decide
theorem zfE (c : Bs) (i : Nat) (h : Int) (hc : (c.length : Int) ≤ 1048576) (hi : i ≤ c.length) : ∃ (u : Ch) (i' : Nat) (h' : Int), z52 u ∧ i' ≤ c.length ∧ CT Tryz.prog 113 [curE c i h] [.ptr 1 0 0] (.agg (chL u)) [curE c i' h'] := by
 obtain ⟨u, i1, h1, hu, hi1, k1⟩ := zas c i h hc hi
 have hfu := zfD hu.2
 obtain ⟨a, n, v⟩ := u
 obtain ⟨x, i2, h2, hx, hi2, k2⟩ := z2a c i1 h1 12 hc hi1 (by omega)
 by_cases x0 : x = 0
 ·subst x0
  obtain ⟨a', i3, h3, _, hi3, k3⟩ := z92 c i2 h2 ints4 hc hi2 (by decide)
  refine ⟨(a', n, v), i3, h3, hfu, hi3, z01 z0v 2 rfl Tryz.func113 rfl rfl rfl ?_⟩
  repeat ((try conv => whnf); first | (refine ccB ([1]) (k1) ?_) | (refine ccB ([1]) (k2) ?_) | (refine z38 ([1]) (k3) (by ((repeat' (first | (exact trivial) | (exact rfl) | (decide) | (refine And.intro ?_ ?_))); first | done | fail)) (by ((repeat' (first | (exact trivial) | (exact rfl) | (decide) | (refine And.intro ?_ ?_))); first | done | fail)) (by decide) (by rfl) (by first | exact .inl rfl | (refine .inr ⟨?_, ?_⟩ <;> simp [own2, own1, own0, ownE])) ?_) | (refine stpQ ?_))
  (refine z00 (by rfl) ?_ ?_ (by rfl)) <;> (repeat' (first | (exact eqA) | (refine shE ?_) | (refine And.intro ?_ ?_)))
 ·by_cases x1 : x = 1
  ·subst x1
   obtain ⟨n', i3, h3, hn', hi3, k3⟩ := z4h c i2 h2 strs3 hc hi2 (by decide)
   have := zeu n' hn'
   refine ⟨(a, n', v), i3, h3, ⟨by show (n'.length : Int) ≤ _; omega, hfu.2⟩, hi3, z01 z0v 2 rfl Tryz.func113 rfl rfl rfl ?_⟩
   repeat ((try conv => whnf); first | (refine ccB ([1]) (k1) ?_) | (refine ccB ([1]) (k2) ?_) | (refine z38 ([1]) (k3) (by ((repeat' (first | (exact trivial) | (exact rfl) | (decide) | (refine And.intro ?_ ?_))); first | done | fail)) (by ((repeat' (first | (exact trivial) | (exact rfl) | (decide) | (refine And.intro ?_ ?_))); first | done | fail)) (by decide) (by rfl) (by first | exact .inl rfl | (refine .inr ⟨?_, ?_⟩ <;> simp [own2, own1, own0, ownE])) ?_) | (refine stpQ ?_))
   (refine z00 (by rfl) ?_ ?_ (by rfl)) <;> (repeat' (first | (exact eqA) | (refine shE ?_) | (refine And.intro ?_ ?_)))
  ·by_cases x2 : x = 2
   ·subst x2
    obtain ⟨v', i3, h3, hv', hi3, k3⟩ := z4h c i2 h2 strs2 hc hi2 (by decide)
    have := zev v' hv'
    refine ⟨(a, n, v'), i3, h3, ⟨hfu.1, by show (v'.length : Int) ≤ _; omega⟩, hi3, z01 z0v 2 rfl Tryz.func113 rfl rfl rfl ?_⟩
    repeat ((try conv => whnf); first | (refine ccB ([1]) (k1) ?_) | (refine ccB ([1]) (k2) ?_) | (refine z38 ([1]) (k3) (by ((repeat' (first | (exact trivial) | (exact rfl) | (decide) | (refine And.intro ?_ ?_))); first | done | fail)) (by ((repeat' (first | (exact trivial) | (exact rfl) | (decide) | (refine And.intro ?_ ?_))); first | done | fail)) (by decide) (by rfl) (by first | exact .inl rfl | (refine .inr ⟨?_, ?_⟩ <;> simp [own2, own1, own0, ownE])) ?_) | (refine stpQ ?_))
    (refine z00 (by rfl) ?_ ?_ (by rfl)) <;> (repeat' (first | (exact eqA) | (refine shE ?_) | (refine And.intro ?_ ?_)))
   ·refine ⟨(a, n, v), i2, h2, hfu, hi2, z01 z0v 2 rfl Tryz.func113 rfl rfl rfl ?_⟩
    repeat ((try conv => whnf); first | (refine ccB ([1]) (k1) ?_) | (refine ccB ([1]) (k2) ?_) | (refine stpQ ?_))
    (refine z00 (by rfl) ?_ ?_ (by rfl)) <;> (repeat' (first | (exact eqA) | (refine shE ?_) | (refine And.intro ?_ ?_)))
end Go.Proofs.YtfjbinbpgdiafaaGreatDoor
