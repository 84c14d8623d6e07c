/- Functions by content: houses and events are drawn. -/
import Derived.Test.YtfgkjgfigjpkoaaDoorDrn
import Derived.Test.YtfgkjgfigjpkoaaDoorDru
namespace Go.Proofs.YtfgkjgfigjpkoaaDoor
set_option maxRecDepth 100000
set_option maxHeartbeats 8000000
set_option linter.unusedVariables false
set_option linter.unusedSimpArgs false
set_option linter.unusedSectionVars false
open Go.RowKit Pl
section
attribute [local irreducible] z0t z0u z0C AnsP LeP W
theorem c_evs (c : Bs) (i : Nat) (h : Int) (n : Nat) (ev : Bool) (hc : (c.length : Int) ≤ 1048576) (hi : i ≤ c.length) (hn : 0 < n ∧ n ≤ 3) : ∃ (L : List Evt) (i' : Nat) (h' : Int), (∀ e ∈ L, EvG e) ∧ L.length ≤ 86 ∧ i' ≤ c.length ∧
 CT Tryd.prog 35 [curE c i h] [.ptr 1 0 0, .sl 1 (z0n c), .int .i64 (n : Int), .bool ev] (.ref 2) [curE c i' h', .row 10 (evE L)] := by
 cases ev with
 | false => exact c_evsN c i h n hc hi hn
 | true =>
   by_cases hm : 86 < 24 + c.length / 3
   ·exact zbP c i h n hc hi hn hm
   ·exact zbQ c i h n hc hi hn hm
theorem c_life (c : Bs) (ev : Bool) (hc : (c.length : Int) ≤ 1048576) : ∃ (n k : Nat) (L : List Evt), (n ≤ 3 ∧ k ≤ 3) ∧ (∀ e ∈ L, EvG e) ∧ L.length ≤ 86 ∧
 CT Tryd.prog 21 [] [.sl 1 (z0n c), .bool ev] (.tup [.int .i64 (n : Int), .int .i64 (k : Int), .ref 1]) [.row 10 (evE L)] := by
 obtain ⟨h0, k0⟩ := z6L c hc
 obtain ⟨x, i1, h1, kx⟩ := z1p c 0 h0 3 hc (Nat.zero_le _) (by decide)
 obtain ⟨y, i2, h2, ky⟩ := z1p c i1 h1 3 hc kx.2.1 (by decide)
 obtain ⟨L, i3, h3, hL, hl, hi3, kl⟩ := c_evs c i2 h2 (1 + x) ev hc ky.2.1 (by have := kx.1; omega)
 have hx := kx.1
 have hy := ky.1
 have cx := kx.2.2
 have cy := ky.2.2
 refine ⟨1 + x, y, L, ⟨by omega, by omega⟩, hL, hl, ?_⟩
 clear kx ky hL hl
 refine z0d z0f 1 rfl Tryd.func21 rfl rfl rfl ?_
 conv => arg 6; whnf
 repeat ((try conv => whnf); first | (with_reducible first | refine z08 (fun Qs hN hE hR => ?_) | refine z06 ?_ | refine z00 (fun Qb kN kE kX kR => ?_) | refine z02 ?_ | refine z03 ?_ | refine z07 ?_ | refine z04 ?_ | refine z05 ?_ | (show W _ _ _ (.cond _ _ _) _ _; refine z01 rfl ?_) | (refine hN _ ?_; try clear hN hE hR Qs) | ((first | refine hE _ _ ?_ | refine hR _ ?_); try clear hN hE hR Qs) | ((first | refine kN _ ?_ | refine kE _ ?_ | refine kX _ _ rfl ?_ | refine kR _ ?_); try clear kN kE kX kR Qb)) | (refine ccA ([]) (k0) ?_) | (refine ccB ([_]) (cx) ?_) | (refine ccB ([_]) (cy) ?_) | (refine ccB ([_]) (kl) ?_) | (refine z1O (by omega) ?_) | (refine stpQ ?_))
 (refine z09 (by rfl) ?_ ?_ (by rfl)) <;> (repeat' (first | (exact eqA) | (refine And.intro ?_ ?_) | ((fail_if_success (with_reducible (show _ = _))); (show _ = _))))
end
end Go.Proofs.YtfgkjgfigjpkoaaDoor
