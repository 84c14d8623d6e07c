/- Functions by content: events drawn, one by one. -/
import Derived.Test.YtfgkjgfigjpkoaaDoorFc
import Derived.Test.YtfgkjgfigjpkoaaDoorPlE
import Derived.Test.YtfgkjgfigjpkoaaDoorVQ
namespace Go.Proofs.YtfgkjgfigjpkoaaDoor
set_option maxRecDepth 100000
set_option maxHeartbeats 2000000
set_option linter.unusedVariables false
set_option linter.unusedSimpArgs false
set_option linter.unusedSectionVars false
open Go.RowKit Pl
def NatB (z : Int) : Prop := ∃ n : Nat, z = n ∧ n ≤ 1000
theorem natB (n : Nat) (h : n ≤ 1000) : NatB (n : Int) := ⟨n, rfl, h⟩
theorem z9b {z : Int} (h0 : 0 ≤ z) (h : z ≤ 1000) : NatB z := ⟨z.toNat, by omega, by omega⟩
def ChG (ci : Int) (cn cv : Bs) : Prop := NatB ci ∧ cn.length ≤ 20 ∧ cv.length ≤ 20
def MvG (mk mn ma ci : Int) (cn cv : Bs) : Prop := (∃ j : Nat, mk = j ∧ j ≤ 10) ∧ NatB mn ∧ NatB ma ∧ ChG ci cn cv
def EvG (e : Evt) : Prop := (∃ j : Nat, e.k = j ∧ 1 ≤ j ∧ j ≤ 8) ∧ NatB e.h ∧ NatB e.a ∧ MvG e.mk e.mn e.ma e.ci e.cn e.cv ∧ e.tx.length ≤ 20
def dk19 : List Int := [1, 1, 1, 2, 4, 4, 5, 5, 5, 5, 5, 5, 6, 7, 8, 9, 10, 10, 3]
def dk6 : List Int := [0, 0, 0, 1, 2, 7]
def dk14 : List Int := [1, 1, 1, 1, 1, 2, 3, 3, 3, 3, 4, 7, 8, 8]
def dk5 : List Int := [0, 0, 1, 2, 5]
theorem zbJ : ∀ a ∈ dk19, 1 ≤ a ∧ a ≤ 10 := by decide
theorem dk6_in : ∀ a ∈ dk6, 0 ≤ a ∧ a ≤ 7 := by decide
theorem zbK : ∀ a ∈ dk14, 1 ≤ a ∧ a ≤ 8 := by decide
theorem dk5_in : ∀ a ∈ dk5, 0 ≤ a ∧ a ≤ 5 := by decide
theorem chg0 : ChG 0 [] [] := ⟨natB 0 (by decide), by decide, by decide⟩
section
attribute [local irreducible] z0t z0u z0C AnsP LeP W
theorem z6R (c : Bs) (i : Nat) (h : Int) (hc : (c.length : Int) ≤ 1048576) (hi : i ≤ c.length) : ∃ (ci : Int) (cn cv : Bs) (i' : Nat) (h' : Int), ChG ci cn cv ∧ i' ≤ c.length ∧ CT Tryd.prog 48 [curE c i h] [.ptr 1 0 0] (.agg [.int .i64 ci, .str cn, .str cv]) [curE c i' h'] := by
 obtain ⟨x, i1, h1, hx, hi1, k1⟩ := z0X c i h 30 hc hi (by omega)
 obtain ⟨n, i2, h2, hn, hi2, k2⟩ := z5q c i1 h1 hc hi1
 obtain ⟨v, i3, h3, hv, hi3, k3⟩ := z7p c i2 h2 hc hi2
 obtain ⟨b, i4, h4, hi4, k4⟩ := z99 c i3 h3 5 hc hi3 (by omega)
 have hnl := hn.2
 have hvl := hv.2
 clear hn hv
 cases b
 ·refine ⟨((1 + x : Nat) : Int), n, v, i4, h4, ⟨natB _ (by omega), by omega, by omega⟩, hi4, ?_⟩
  refine z0d z13 2 rfl Tryd.func48 rfl rfl rfl ?_
  conv => arg 6; whnf
  repeat ((try conv => whnf); first | (with_reducible first | refine z08 (fun Qs hN hE hR => ?_) | refine z06 ?_ | refine z00 (fun Qb kN kE kX kR => ?_) | refine z02 ?_ | refine z03 ?_ | refine z07 ?_ | refine z04 ?_ | refine z05 ?_ | (show W _ _ _ (.cond _ _ _) _ _; refine z01 rfl ?_) | (refine hN _ ?_; try clear hN hE hR Qs) | ((first | refine hE _ _ ?_ | refine hR _ ?_); try clear hN hE hR Qs) | ((first | refine kN _ ?_ | refine kE _ ?_ | refine kX _ _ rfl ?_ | refine kR _ ?_); try clear kN kE kX kR Qb)) | (refine ccB ([1]) (k1) ?_) | (refine ccB ([1]) (k2) ?_) | (refine ccB ([1]) (k3) ?_) | (refine ccB ([1]) (k4) ?_) | (refine z1O (by omega) ?_) | (refine stpQ ?_))
  (refine z09 (by rfl) ?_ ?_ (by rfl)) <;> (repeat' (first | (exact eqA) | (refine And.intro ?_ ?_) | ((fail_if_success (with_reducible (show _ = _))); (show _ = _))))
 ·refine ⟨((1 + x : Nat) : Int), n, [], i4, h4, ⟨natB _ (by omega), by omega, by decide⟩, hi4, ?_⟩
  refine z0d z13 2 rfl Tryd.func48 rfl rfl rfl ?_
  conv => arg 6; whnf
  repeat ((try conv => whnf); first | (with_reducible first | refine z08 (fun Qs hN hE hR => ?_) | refine z06 ?_ | refine z00 (fun Qb kN kE kX kR => ?_) | refine z02 ?_ | refine z03 ?_ | refine z07 ?_ | refine z04 ?_ | refine z05 ?_ | (show W _ _ _ (.cond _ _ _) _ _; refine z01 rfl ?_) | (refine hN _ ?_; try clear hN hE hR Qs) | ((first | refine hE _ _ ?_ | refine hR _ ?_); try clear hN hE hR Qs) | ((first | refine kN _ ?_ | refine kE _ ?_ | refine kX _ _ rfl ?_ | refine kR _ ?_); try clear kN kE kX kR Qb)) | (refine ccB ([1]) (k1) ?_) | (refine ccB ([1]) (k2) ?_) | (refine ccB ([1]) (k3) ?_) | (refine ccB ([1]) (k4) ?_) | (refine z1O (by omega) ?_) | (refine stpQ ?_))
  (refine z09 (by rfl) ?_ ?_ (by rfl)) <;> (repeat' (first | (exact eqA) | (refine And.intro ?_ ?_) | ((fail_if_success (with_reducible (show _ = _))); (show _ = _))))
theorem zaa (c : Bs) (i : Nat) (h : Int) (hc : (c.length : Int) ≤ 1048576) (hi : i ≤ c.length) : ∃ (mk mn ma ci : Int) (cn cv : Bs) (i' : Nat) (h' : Int), MvG mk mn ma ci cn cv ∧ i' ≤ c.length ∧ CT Tryd.prog 61 [curE c i h] [.ptr 1 0 0] (.agg [.int .i64 mk, .int .i64 mn, .int .i64 ma, .int .i64 ci, .str cn, .str cv]) [curE c i' h'] := by
 obtain ⟨a, i1, h1, ha, hi1, k1⟩ := z2r c i h dk19 hc hi (by decide)
 obtain ⟨b, i2, h2, hb, hi2, k2⟩ := z0X c i1 h1 5 hc hi1 (by omega)
 obtain ⟨d, i3, h3, hd, hi3, k3⟩ := z2r c i2 h2 dk6 hc hi2 (by decide)
 have ha := zbJ a ha
 have hd := dk6_in d hd
 have ga : ∃ j : Nat, a = j ∧ j ≤ 10 := ⟨a.toNat, by omega, by omega⟩
 have gd := z9b (z := d) (by omega) (by omega)
 have gb := natB b (by omega)
 by_cases a1 : a = 1
 ·obtain ⟨ci, cn, cv, i4, h4, hu, hi4, k4⟩ := z6R c i3 h3 hc hi3
  have n9 : ¬ a = 9 := by omega
  have n3 : ¬ a = 3 := by omega
  refine ⟨a, (b : Int), d, ci, cn, cv, i4, h4, ⟨ga, gb, gd, hu⟩, hi4, ?_⟩
  clear ga gb gd hu ha hd hb
  refine z0d z0f 2 rfl Tryd.func61 rfl rfl rfl ?_
  conv => arg 6; whnf
  repeat ((try conv => whnf); first | (with_reducible first | refine z08 (fun Qs hN hE hR => ?_) | refine z06 ?_ | refine z00 (fun Qb kN kE kX kR => ?_) | refine z02 ?_ | refine z03 ?_ | refine z07 ?_ | refine z04 ?_ | refine z05 ?_ | (show W _ _ _ (.cond _ _ _) _ _; refine z01 rfl ?_) | (refine hN _ ?_; try clear hN hE hR Qs) | ((first | refine hE _ _ ?_ | refine hR _ ?_); try clear hN hE hR Qs) | ((first | refine kN _ ?_ | refine kE _ ?_ | refine kX _ _ rfl ?_ | refine kR _ ?_); try clear kN kE kX kR Qb)) | (refine z0z ([1]) (k1) (by ((repeat' (first | (exact trivial) | (exact rfl) | (decide) | (refine And.intro ?_ ?_))); first | done | fail)) (by ((repeat' (first | (exact trivial) | (exact rfl) | (decide) | (refine And.intro ?_ ?_))); first | done | fail)) (by decide) (by rfl) (by first | exact .inl rfl | (refine .inr ⟨?_, ?_⟩ <;> simp [own2, own1, own0, ownE])) ?_) | (refine ccB ([1]) (k2) ?_) | (refine z0z ([1]) (k3) (by ((repeat' (first | (exact trivial) | (exact rfl) | (decide) | (refine And.intro ?_ ?_))); first | done | fail)) (by ((repeat' (first | (exact trivial) | (exact rfl) | (decide) | (refine And.intro ?_ ?_))); first | done | fail)) (by decide) (by rfl) (by first | exact .inl rfl | (refine .inr ⟨?_, ?_⟩ <;> simp [own2, own1, own0, ownE])) ?_) | (refine ccB ([1]) (k4) ?_) | (refine z0b a1 ?_) | (refine z0c n9 ?_) | (refine z0c n3 ?_) | (refine And.intro (by kernel_rfl) ?_) | (refine stpQ ?_))
  (refine z09 (by rfl) ?_ ?_ (by rfl)) <;> (repeat' (first | (exact eqA) | (refine And.intro ?_ ?_) | ((fail_if_success (with_reducible (show _ = _))); (show _ = _))))
 ·by_cases a9 : a = 9
  ·obtain ⟨y, i4, h4, hy, hi4, k4⟩ := z0X c i3 h3 60 hc hi3 (by omega)
   have n3 : ¬ a = 3 := by omega
   refine ⟨a, (b : Int), (y : Int), 0, [], [], i4, h4, ⟨ga, gb, natB y (by omega), chg0⟩, hi4, ?_⟩
   clear ga gb gd ha hd hb
   refine z0d z0f 2 rfl Tryd.func61 rfl rfl rfl ?_
   conv => arg 6; whnf
   repeat ((try conv => whnf); first | (with_reducible first | refine z08 (fun Qs hN hE hR => ?_) | refine z06 ?_ | refine z00 (fun Qb kN kE kX kR => ?_) | refine z02 ?_ | refine z03 ?_ | refine z07 ?_ | refine z04 ?_ | refine z05 ?_ | (show W _ _ _ (.cond _ _ _) _ _; refine z01 rfl ?_) | (refine hN _ ?_; try clear hN hE hR Qs) | ((first | refine hE _ _ ?_ | refine hR _ ?_); try clear hN hE hR Qs) | ((first | refine kN _ ?_ | refine kE _ ?_ | refine kX _ _ rfl ?_ | refine kR _ ?_); try clear kN kE kX kR Qb)) | (refine z0z ([1]) (k1) (by ((repeat' (first | (exact trivial) | (exact rfl) | (decide) | (refine And.intro ?_ ?_))); first | done | fail)) (by ((repeat' (first | (exact trivial) | (exact rfl) | (decide) | (refine And.intro ?_ ?_))); first | done | fail)) (by decide) (by rfl) (by first | exact .inl rfl | (refine .inr ⟨?_, ?_⟩ <;> simp [own2, own1, own0, ownE])) ?_) | (refine ccB ([1]) (k2) ?_) | (refine z0z ([1]) (k3) (by ((repeat' (first | (exact trivial) | (exact rfl) | (decide) | (refine And.intro ?_ ?_))); first | done | fail)) (by ((repeat' (first | (exact trivial) | (exact rfl) | (decide) | (refine And.intro ?_ ?_))); first | done | fail)) (by decide) (by rfl) (by first | exact .inl rfl | (refine .inr ⟨?_, ?_⟩ <;> simp [own2, own1, own0, ownE])) ?_) | (refine ccB ([1]) (k4) ?_) | (refine z0c a1 ?_) | (refine z0b a9 ?_) | (refine z0c n3 ?_) | (refine And.intro (by kernel_rfl) ?_) | (refine stpQ ?_))
   (refine z09 (by rfl) ?_ ?_ (by rfl)) <;> (repeat' (first | (exact eqA) | (refine And.intro ?_ ?_) | ((fail_if_success (with_reducible (show _ = _))); (show _ = _))))
  ·by_cases a3 : a = 3
   ·obtain ⟨y, i4, h4, hi4, k4⟩ := z99 c i3 h3 3 hc hi3 (by omega)
    cases y
    ·refine ⟨5, (b : Int), d, 0, [], [], i4, h4, ⟨⟨5, rfl, by decide⟩, gb, gd, chg0⟩, hi4, ?_⟩
     clear ga gb gd ha hd hb
     refine z0d z0f 2 rfl Tryd.func61 rfl rfl rfl ?_
     conv => arg 6; whnf
     repeat ((try conv => whnf); first | (with_reducible first | refine z08 (fun Qs hN hE hR => ?_) | refine z06 ?_ | refine z00 (fun Qb kN kE kX kR => ?_) | refine z02 ?_ | refine z03 ?_ | refine z07 ?_ | refine z04 ?_ | refine z05 ?_ | (show W _ _ _ (.cond _ _ _) _ _; refine z01 rfl ?_) | (refine hN _ ?_; try clear hN hE hR Qs) | ((first | refine hE _ _ ?_ | refine hR _ ?_); try clear hN hE hR Qs) | ((first | refine kN _ ?_ | refine kE _ ?_ | refine kX _ _ rfl ?_ | refine kR _ ?_); try clear kN kE kX kR Qb)) | (refine z0z ([1]) (k1) (by ((repeat' (first | (exact trivial) | (exact rfl) | (decide) | (refine And.intro ?_ ?_))); first | done | fail)) (by ((repeat' (first | (exact trivial) | (exact rfl) | (decide) | (refine And.intro ?_ ?_))); first | done | fail)) (by decide) (by rfl) (by first | exact .inl rfl | (refine .inr ⟨?_, ?_⟩ <;> simp [own2, own1, own0, ownE])) ?_) | (refine ccB ([1]) (k2) ?_) | (refine z0z ([1]) (k3) (by ((repeat' (first | (exact trivial) | (exact rfl) | (decide) | (refine And.intro ?_ ?_))); first | done | fail)) (by ((repeat' (first | (exact trivial) | (exact rfl) | (decide) | (refine And.intro ?_ ?_))); first | done | fail)) (by decide) (by rfl) (by first | exact .inl rfl | (refine .inr ⟨?_, ?_⟩ <;> simp [own2, own1, own0, ownE])) ?_) | (refine ccB ([1]) (k4) ?_) | (refine z0c a1 ?_) | (refine z0c a9 ?_) | (refine z0b a3 ?_) | (refine And.intro (by kernel_rfl) ?_) | (refine stpQ ?_))
     (refine z09 (by rfl) ?_ ?_ (by rfl)) <;> (repeat' (first | (exact eqA) | (refine And.intro ?_ ?_) | ((fail_if_success (with_reducible (show _ = _))); (show _ = _))))
    ·refine ⟨a, (b : Int), d, 0, [], [], i4, h4, ⟨ga, gb, gd, chg0⟩, hi4, ?_⟩
     clear ga gb gd ha hd hb
     refine z0d z0f 2 rfl Tryd.func61 rfl rfl rfl ?_
     conv => arg 6; whnf
     repeat ((try conv => whnf); first | (with_reducible first | refine z08 (fun Qs hN hE hR => ?_) | refine z06 ?_ | refine z00 (fun Qb kN kE kX kR => ?_) | refine z02 ?_ | refine z03 ?_ | refine z07 ?_ | refine z04 ?_ | refine z05 ?_ | (show W _ _ _ (.cond _ _ _) _ _; refine z01 rfl ?_) | (refine hN _ ?_; try clear hN hE hR Qs) | ((first | refine hE _ _ ?_ | refine hR _ ?_); try clear hN hE hR Qs) | ((first | refine kN _ ?_ | refine kE _ ?_ | refine kX _ _ rfl ?_ | refine kR _ ?_); try clear kN kE kX kR Qb)) | (refine z0z ([1]) (k1) (by ((repeat' (first | (exact trivial) | (exact rfl) | (decide) | (refine And.intro ?_ ?_))); first | done | fail)) (by ((repeat' (first | (exact trivial) | (exact rfl) | (decide) | (refine And.intro ?_ ?_))); first | done | fail)) (by decide) (by rfl) (by first | exact .inl rfl | (refine .inr ⟨?_, ?_⟩ <;> simp [own2, own1, own0, ownE])) ?_) | (refine ccB ([1]) (k2) ?_) | (refine z0z ([1]) (k3) (by ((repeat' (first | (exact trivial) | (exact rfl) | (decide) | (refine And.intro ?_ ?_))); first | done | fail)) (by ((repeat' (first | (exact trivial) | (exact rfl) | (decide) | (refine And.intro ?_ ?_))); first | done | fail)) (by decide) (by rfl) (by first | exact .inl rfl | (refine .inr ⟨?_, ?_⟩ <;> simp [own2, own1, own0, ownE])) ?_) | (refine ccB ([1]) (k4) ?_) | (refine z0c a1 ?_) | (refine z0c a9 ?_) | (refine z0b a3 ?_) | (refine And.intro (by kernel_rfl) ?_) | (refine stpQ ?_))
     (refine z09 (by rfl) ?_ ?_ (by rfl)) <;> (repeat' (first | (exact eqA) | (refine And.intro ?_ ?_) | ((fail_if_success (with_reducible (show _ = _))); (show _ = _))))
   ·refine ⟨a, (b : Int), d, 0, [], [], i3, h3, ⟨ga, gb, gd, chg0⟩, hi3, ?_⟩
    clear ga gb gd ha hd hb
    refine z0d z0f 2 rfl Tryd.func61 rfl rfl rfl ?_
    conv => arg 6; whnf
    repeat ((try conv => whnf); first | (with_reducible first | refine z08 (fun Qs hN hE hR => ?_) | refine z06 ?_ | refine z00 (fun Qb kN kE kX kR => ?_) | refine z02 ?_ | refine z03 ?_ | refine z07 ?_ | refine z04 ?_ | refine z05 ?_ | (show W _ _ _ (.cond _ _ _) _ _; refine z01 rfl ?_) | (refine hN _ ?_; try clear hN hE hR Qs) | ((first | refine hE _ _ ?_ | refine hR _ ?_); try clear hN hE hR Qs) | ((first | refine kN _ ?_ | refine kE _ ?_ | refine kX _ _ rfl ?_ | refine kR _ ?_); try clear kN kE kX kR Qb)) | (refine z0z ([1]) (k1) (by ((repeat' (first | (exact trivial) | (exact rfl) | (decide) | (refine And.intro ?_ ?_))); first | done | fail)) (by ((repeat' (first | (exact trivial) | (exact rfl) | (decide) | (refine And.intro ?_ ?_))); first | done | fail)) (by decide) (by rfl) (by first | exact .inl rfl | (refine .inr ⟨?_, ?_⟩ <;> simp [own2, own1, own0, ownE])) ?_) | (refine ccB ([1]) (k2) ?_) | (refine z0z ([1]) (k3) (by ((repeat' (first | (exact trivial) | (exact rfl) | (decide) | (refine And.intro ?_ ?_))); first | done | fail)) (by ((repeat' (first | (exact trivial) | (exact rfl) | (decide) | (refine And.intro ?_ ?_))); first | done | fail)) (by decide) (by rfl) (by first | exact .inl rfl | (refine .inr ⟨?_, ?_⟩ <;> simp [own2, own1, own0, ownE])) ?_) | (refine z0c a1 ?_) | (refine z0c a9 ?_) | (refine z0c a3 ?_) | (refine And.intro (by kernel_rfl) ?_) | (refine stpQ ?_))
    (refine z09 (by rfl) ?_ ?_ (by rfl)) <;> (repeat' (first | (exact eqA) | (refine And.intro ?_ ?_) | ((fail_if_success (with_reducible (show _ = _))); (show _ = _))))
theorem zab (c : Bs) (i : Nat) (h : Int) (n : Nat) (hc : (c.length : Int) ≤ 1048576) (hi : i ≤ c.length) (hn : 0 < n ∧ n ≤ 3) : ∃ (e : Evt) (i' : Nat) (h' : Int), EvG e ∧ i' ≤ c.length ∧ CT Tryd.prog 47 [curE c i h] [.ptr 1 0 0, .int .i64 (n : Int)] (.agg (evC e)) [curE c i' h'] := by
 obtain ⟨a, i1, h1, ha, hi1, k1⟩ := z2r c i h dk14 hc hi (by decide)
 obtain ⟨b, i2, h2, hb, hi2, k2⟩ := z0X c i1 h1 n hc hi1 (by omega)
 obtain ⟨d, i3, h3, hd, hi3, k3⟩ := z2r c i2 h2 dk5 hc hi2 (by decide)
 have ha := zbK a ha
 have hd := dk5_in d hd
 have ga : ∃ j : Nat, a = j ∧ 1 ≤ j ∧ j ≤ 8 := ⟨a.toNat, by omega, by omega, by omega⟩
 have gd := z9b (z := d) (by omega) (by omega)
 have gb := natB b (by omega)
 by_cases a1 : a = 1
 ·obtain ⟨mk, mn, ma, ci, cn, cv, i4, h4, hu, hi4, k4⟩ := zaa c i3 h3 hc hi3
  refine ⟨{ k := a, h := b, a := d, mk := mk, mn := mn, ma := ma, ci := ci, cn := cn, cv := cv }, i4, h4, ⟨ga, gb, gd, hu, Nat.zero_le _⟩, hi4, ?_⟩
  clear ga gb gd hu ha hd hb hn
  refine z0d z0f 2 rfl Tryd.func47 rfl rfl rfl ?_
  conv => arg 6; whnf
  repeat ((try conv => whnf); first | (with_reducible first | refine z08 (fun Qs hN hE hR => ?_) | refine z06 ?_ | refine z00 (fun Qb kN kE kX kR => ?_) | refine z02 ?_ | refine z03 ?_ | refine z07 ?_ | refine z04 ?_ | refine z05 ?_ | (show W _ _ _ (.cond _ _ _) _ _; refine z01 rfl ?_) | (refine hN _ ?_; try clear hN hE hR Qs) | ((first | refine hE _ _ ?_ | refine hR _ ?_); try clear hN hE hR Qs) | ((first | refine kN _ ?_ | refine kE _ ?_ | refine kX _ _ rfl ?_ | refine kR _ ?_); try clear kN kE kX kR Qb)) | (refine z0z ([1]) (k1) (by ((repeat' (first | (exact trivial) | (exact rfl) | (decide) | (refine And.intro ?_ ?_))); first | done | fail)) (by ((repeat' (first | (exact trivial) | (exact rfl) | (decide) | (refine And.intro ?_ ?_))); first | done | fail)) (by decide) (by rfl) (by first | exact .inl rfl | (refine .inr ⟨?_, ?_⟩ <;> simp [own2, own1, own0, ownE])) ?_) | (refine ccB ([1]) (k2) ?_) | (refine z0z ([1]) (k3) (by ((repeat' (first | (exact trivial) | (exact rfl) | (decide) | (refine And.intro ?_ ?_))); first | done | fail)) (by ((repeat' (first | (exact trivial) | (exact rfl) | (decide) | (refine And.intro ?_ ?_))); first | done | fail)) (by decide) (by rfl) (by first | exact .inl rfl | (refine .inr ⟨?_, ?_⟩ <;> simp [own2, own1, own0, ownE])) ?_) | (refine ccB ([1]) (k4) ?_) | (refine z0b a1 ?_) | (refine And.intro (by kernel_rfl) ?_) | (refine stpQ ?_))
  (refine z09 (by rfl) ?_ ?_ (by rfl)) <;> (repeat' (first | (exact eqA) | (refine And.intro ?_ ?_) | ((fail_if_success (with_reducible (show _ = _))); (show _ = _)))) <;> rfl
 ·refine ⟨{ k := a, h := b, a := d }, i3, h3, ⟨ga, gb, gd, ⟨⟨0, rfl, by decide⟩, natB 0 (by decide), natB 0 (by decide), chg0⟩, Nat.zero_le _⟩, hi3, ?_⟩
  clear ga gb gd ha hd hb hn
  refine z0d z0f 2 rfl Tryd.func47 rfl rfl rfl ?_
  conv => arg 6; whnf
  repeat ((try conv => whnf); first | (with_reducible first | refine z08 (fun Qs hN hE hR => ?_) | refine z06 ?_ | refine z00 (fun Qb kN kE kX kR => ?_) | refine z02 ?_ | refine z03 ?_ | refine z07 ?_ | refine z04 ?_ | refine z05 ?_ | (show W _ _ _ (.cond _ _ _) _ _; refine z01 rfl ?_) | (refine hN _ ?_; try clear hN hE hR Qs) | ((first | refine hE _ _ ?_ | refine hR _ ?_); try clear hN hE hR Qs) | ((first | refine kN _ ?_ | refine kE _ ?_ | refine kX _ _ rfl ?_ | refine kR _ ?_); try clear kN kE kX kR Qb)) | (refine z0z ([1]) (k1) (by ((repeat' (first | (exact trivial) | (exact rfl) | (decide) | (refine And.intro ?_ ?_))); first | done | fail)) (by ((repeat' (first | (exact trivial) | (exact rfl) | (decide) | (refine And.intro ?_ ?_))); first | done | fail)) (by decide) (by rfl) (by first | exact .inl rfl | (refine .inr ⟨?_, ?_⟩ <;> simp [own2, own1, own0, ownE])) ?_) | (refine ccB ([1]) (k2) ?_) | (refine z0z ([1]) (k3) (by ((repeat' (first | (exact trivial) | (exact rfl) | (decide) | (refine And.intro ?_ ?_))); first | done | fail)) (by ((repeat' (first | (exact trivial) | (exact rfl) | (decide) | (refine And.intro ?_ ?_))); first | done | fail)) (by decide) (by rfl) (by first | exact .inl rfl | (refine .inr ⟨?_, ?_⟩ <;> simp [own2, own1, own0, ownE])) ?_) | (refine z0c a1 ?_) | (refine And.intro (by kernel_rfl) ?_) | (refine stpQ ?_))
  (refine z09 (by rfl) ?_ ?_ (by rfl)) <;> (repeat' (first | (exact eqA) | (refine And.intro ?_ ?_) | ((fail_if_success (with_reducible (show _ = _))); (show _ = _)))) <;> rfl
end
end Go.Proofs.YtfgkjgfigjpkoaaDoor
