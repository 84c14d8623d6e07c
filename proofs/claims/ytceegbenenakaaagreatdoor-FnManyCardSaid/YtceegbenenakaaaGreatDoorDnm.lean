/- Functions by content: names drawn, places drawn. -/
import Derived.Test.YtceegbenenakaaaGreatDoorPmn
import Derived.Test.YtceegbenenakaaaGreatDoorFc
namespace Go.Proofs.YtceegbenenakaaaGreatDoor
set_option maxRecDepth 100000
set_option maxHeartbeats 2000000
set_option linter.unusedVariables false
set_option linter.unusedSimpArgs false
set_option linter.unusedSectionVars false
open Go.RowKit Pl
inductive NR (c : Bs) : Nat → List Bs → Nat → Int → List Bs → Nat → Int → Prop
 | stop {k l i h x i' h'} : i' ≤ c.length → 1 + x ≤ k → CT Tryz.prog 29 [curE c i h] [.ptr 1 0 0, .int .i64 5] (.int .i64 ((x : Nat) : Int)) [curE c i' h'] → NR c k l i h l i' h'
 | step {k l i h x i1 h1 s i2 h2 l' i' h'} : x < 5 → k < 1 + x → i1 ≤ c.length → CT Tryz.prog 29 [curE c i h] [.ptr 1 0 0, .int .i64 5] (.int .i64 ((x : Nat) : Int)) [curE c i1 h1] →
    (z0H s = true ∧ s.length ≤ 9) → i2 ≤ c.length → CT Tryz.prog 64 [curE c i1 h1] [.ptr 1 0 0] (.str s) [curE c i2 h2] →
    NR c (k + 1) (l ++ [s]) i2 h2 l' i' h' → NR c k l i h l' i' h'
theorem zdh (c : Bs) (hc : (c.length : Int) ≤ 1048576) : ∀ (f k : Nat) (l : List Bs) (i : Nat) (h : Int), k + f = 5 → i ≤ c.length → (∀ s ∈ l, z0H s = true ∧ s.length ≤ 9) → l.length = k →
 ∃ l' i' h', NR c k l i h l' i' h' ∧ ((∀ s ∈ l', z0H s = true ∧ s.length ≤ 9) ∧ 1 ≤ l'.length ∧ l'.length ≤ 5) ∧ i' ≤ c.length
 | f, k, l, i, h, hf, hi, ho, hl => by
   obtain ⟨x, i1, h1, hx, hi1, cb⟩ := zbP c i h 5 hc hi (by omega)
   by_cases hk : k < 1 + x
   ·obtain ⟨s, i2, h2, hs2, hi2, cn⟩ := z7g c i1 h1 hc hi1
    cases f with
    | zero => omega
    | succ f =>
      obtain ⟨l', i', h', hd, hr, hi'⟩ := zdh c hc f (k + 1) (l ++ [s]) i2 h2 (by omega) hi2 (fun y hy => by
       rcases List.mem_append.1 hy with hy | hy
       ·exact ho y hy
       ·rw [List.mem_singleton] at hy; subst hy; exact hs2) (by simp [hl])
      exact ⟨l', i', h', .step hx hk hi1 cb hs2 hi2 cn hd, hr, hi'⟩
   ·exact ⟨l, i1, h1, .stop hi1 (by omega) cb, ⟨ho, by omega, by omega⟩, hi1⟩
inductive PR (c : Bs) : Nat → List Nat → Nat → Int → List Nat → Nat → Int → Prop
 | stop {l i h} : PR c 12 l i h l i h
 | step {k l i h x i1 h1 l' i' h'} : k < 12 → x < 10000 → i1 ≤ c.length → CT Tryz.prog 29 [curE c i h] [.ptr 1 0 0, .int .i64 10000] (.int .i64 ((x : Nat) : Int)) [curE c i1 h1] → PR c (k + 1) (l ++ [x]) i1 h1 l' i' h' → PR c k l i h l' i' h'
theorem zdi (c : Bs) (hc : (c.length : Int) ≤ 1048576) : ∀ (f k : Nat) (l : List Nat) (i : Nat) (h : Int), k + f = 12 → i ≤ c.length → (∀ x ∈ l, x < 10000) → l.length = k →
 ∃ l' i' h', PR c k l i h l' i' h' ∧ ((∀ x ∈ l', x < 10000) ∧ l'.length = 12) ∧ i' ≤ c.length
 | 0, k, l, i, h, hf, hi, ho, hl => by
   obtain rfl : k = 12 := by omega
   exact ⟨l, i, h, .stop, ⟨ho, hl⟩, hi⟩
 | f + 1, k, l, i, h, hf, hi, ho, hl => by
   obtain ⟨x, i1, h1, hx, hi1, cb⟩ := zbP c i h 10000 hc hi (by omega)
   obtain ⟨l', i', h', hd, hr, hi'⟩ := zdi c hc f (k + 1) (l ++ [x]) i1 h1 (by omega) hi1 (fun y hy => by
    rcases List.mem_append.1 hy with hy | hy
    ·exact ho y hy
    ·rw [List.mem_singleton] at hy; subst hy; exact hx) (by simp [hl])
   exact ⟨l', i', h', .step (by omega) hx hi1 cb hd, hr, hi'⟩
theorem zeb (l : List Bs) (x : Bs) : strE (l ++ [x]) = strE l ++ [[.str x]] := by simp [strE]
section
attribute [local irreducible] z0s z0x z0C AnsP LeP W CvE
theorem zbQ (c : Bs) (i : Nat) (h : Int) (hc : (c.length : Int) ≤ 1048576) (hi : i ≤ c.length) : ∃ (l : List Bs) (i' : Nat) (h' : Int), ((∀ s ∈ l, z0H s = true ∧ s.length ≤ 9) ∧ 1 ≤ l.length ∧ l.length ≤ 5) ∧ i' ≤ c.length ∧ CT Tryz.prog 27 [curE c i h] [.ptr 1 0 0] (.ref 2) [curE c i' h', .row 1 (strE l)] := by
 obtain ⟨L, i', h', hd, hr, hi'⟩ := zdh c hc 5 0 [] i h rfl hi (fun x hx => by cases hx) rfl
 refine ⟨L, i', h', hr, hi', ?_⟩
 refine z08 z0v 2 rfl Tryz.func27 rfl rfl rfl ?_
 conv => arg 6; whnf
 repeat ((try conv => whnf); first | (with_reducible first | refine z0b (fun Qs hN hE hR => ?_) | refine z09 ?_ | refine z02 (fun Qb kN kE kX kR => ?_) | refine z04 ?_ | refine z05 ?_ | refine z0a ?_ | refine z06 ?_ | refine z07 ?_ | (show W _ _ _ (.cond _ _ _) _ _; refine z03 rfl ?_) | (refine hN _ ?_; try clear hN hE hR Qs) | ((first | refine hE _ _ ?_ | refine hR _ ?_); try clear hN hE hR Qs) | ((first | refine kN _ ?_ | refine kE _ ?_ | refine kX _ _ rfl ?_ | refine kR _ ?_); try clear kN kE kX kR Qb)) | (refine And.intro (by kernel_rfl) ?_) | (refine stpQ ?_))
 refine z1o (Nat × List Bs × Nat × Int) (fun x => ⟨[(0, .ptr 1 0 0), (3, .ref 2), (4, .int .i64 (x.1 : Int))], [(1, some (curE c x.2.2.1 x.2.2.2)), (2, some (.row 1 (strE x.2.1)))], 3⟩) (fun x => NR c x.1 x.2.1 x.2.2.1 x.2.2.2 L i' h' ∧ x.1 ≤ 5 ∧ x.2.1.length = x.1) (fun x => 5 - x.1) (0, [], i, h) ⟨hd, by omega, rfl⟩ ?_ ?_
 ·(refine z00 (by rfl) ?_ ?_) <;> (repeat' (first | (exact eqA) | (refine And.intro ?_ ?_) | ((fail_if_success (with_reducible (show _ = _))); (show _ = _)))) <;> first | rfl | decide
 ·intro Q1 hQ1 x hx
  obtain ⟨k, l, i, h⟩ := x
  obtain ⟨hd, hk, hl⟩ := hx
  dsimp only at hd hk hl ⊢
  have hll := z0g l
  cases hd with
  | @stop _ _ _ _ x _ _ hi1 hx cb =>
    have e1 : ((1 + x : Nat) : Int) = IntKind.i64.wrap (1 + ((x : Nat) : Int)) := by rw [wrap_i64 (by omega) (by omega)]; omega
    have f1 : ¬ (k : Int) < ((1 + x : Nat) : Int) := by omega
    repeat ((try conv => whnf); first | (with_reducible first | refine z0b (fun Qs hN hE hR => ?_) | refine z09 ?_ | refine z02 (fun Qb kN kE kX kR => ?_) | refine z04 ?_ | refine z05 ?_ | refine z0a ?_ | refine z06 ?_ | refine z07 ?_ | (show W _ _ _ (.cond _ _ _) _ _; refine z03 rfl ?_) | (refine hN _ ?_; try clear hN hE hR Qs) | ((first | refine hE _ _ ?_ | refine hR _ ?_); try clear hN hE hR Qs) | ((first | refine kN _ ?_ | refine kE _ ?_ | refine kX _ _ rfl ?_ | refine kR _ ?_); try clear kN kE kX kR Qb)) | (refine ccB ([1]) (cb) ?_) | (refine Exists.intro _ (And.intro e1 ?_)) | (refine z0m f1 ?_) | (refine stpQ ?_))
    refine hQ1 _ _ ?_
    clear hQ1 Q1
    repeat ((try conv => whnf); first | (with_reducible first | refine z0b (fun Qs hN hE hR => ?_) | refine z09 ?_ | refine z02 (fun Qb kN kE kX kR => ?_) | refine z04 ?_ | refine z05 ?_ | refine z0a ?_ | refine z06 ?_ | refine z07 ?_ | (show W _ _ _ (.cond _ _ _) _ _; refine z03 rfl ?_) | (refine hN _ ?_; try clear hN hE hR Qs) | ((first | refine hE _ _ ?_ | refine hR _ ?_); try clear hN hE hR Qs) | ((first | refine kN _ ?_ | refine kE _ ?_ | refine kX _ _ rfl ?_ | refine kR _ ?_); try clear kN kE kX kR Qb)) | (refine stpQ ?_))
    (refine z01 (by rfl) ?_ ?_ (by rfl)) <;> (repeat' (first | (exact eqA) | (refine And.intro ?_ ?_) | ((fail_if_success (with_reducible (show _ = _))); (show _ = _))))
  | @step _ _ _ _ x i1 h1 s i2 h2 _ _ _ hx hkx hi1 cb hs2 hi2 cn hd' =>
    have e1 : ((1 + x : Nat) : Int) = IntKind.i64.wrap (1 + ((x : Nat) : Int)) := by rw [wrap_i64 (by omega) (by omega)]; omega
    have f1 : (k : Int) < ((1 + x : Nat) : Int) := by omega
    have happ := zeb l s
    repeat ((try conv => whnf); first | (with_reducible first | refine z0b (fun Qs hN hE hR => ?_) | refine z09 ?_ | refine z02 (fun Qb kN kE kX kR => ?_) | refine z04 ?_ | refine z05 ?_ | refine z0a ?_ | refine z06 ?_ | refine z07 ?_ | (show W _ _ _ (.cond _ _ _) _ _; refine z03 rfl ?_) | (refine hN _ ?_; try clear hN hE hR Qs) | ((first | refine hE _ _ ?_ | refine hR _ ?_); try clear hN hE hR Qs) | ((first | refine kN _ ?_ | refine kE _ ?_ | refine kX _ _ rfl ?_ | refine kR _ ?_); try clear kN kE kX kR Qb)) | (refine ccB ([1]) (cb) ?_) | (refine ccB ([1]) (cn) ?_) | (refine Exists.intro _ (And.intro e1 ?_)) | (refine z0i f1 ?_) | (refine And.intro (by simp only [List.length_append, List.length_set, List.length_replicate, List.length_cons, List.length_nil]; omega) ?_) | (refine And.intro (by kernel_rfl) ?_) | (refine stpQ ?_))
    refine ⟨(k + 1, l ++ [s], i2, h2), ⟨hd', by show k + 1 ≤ 5; omega, by simp [hl]⟩, (by show 5 - (k + 1) < 5 - k; omega), ?_⟩
    (try dsimp only)
    rw [happ]
    (refine z00 (by rfl) ?_ ?_) <;> (repeat' (first | (exact eqA) | (refine And.intro ?_ ?_) | ((fail_if_success (with_reducible (show _ = _))); (show _ = _)))) <;> rfl
theorem z8m (c : Bs) (hc : (c.length : Int) ≤ 1048576) : ∃ (l : List Bs), ((∀ s ∈ l, z0H s = true ∧ s.length ≤ 9) ∧ 1 ≤ l.length ∧ l.length ≤ 5) ∧ CT Tryz.prog 7 [] [.sl 1 (z0j c)] (.ref 1) [.row 1 (strE l)] := by
 obtain ⟨h, c1⟩ := z6e c hc
 obtain ⟨l, i', h', hl, _, c2⟩ := zbQ c 0 h hc (by omega)
 refine ⟨l, hl, ?_⟩
 refine z08 z0v 1 rfl Tryz.func7 rfl rfl rfl ?_
 conv => arg 6; whnf
 repeat ((try conv => whnf); first | (with_reducible first | refine z0b (fun Qs hN hE hR => ?_) | refine z09 ?_ | refine z02 (fun Qb kN kE kX kR => ?_) | refine z04 ?_ | refine z05 ?_ | refine z0a ?_ | refine z06 ?_ | refine z07 ?_ | (show W _ _ _ (.cond _ _ _) _ _; refine z03 rfl ?_) | (refine hN _ ?_; try clear hN hE hR Qs) | ((first | refine hE _ _ ?_ | refine hR _ ?_); try clear hN hE hR Qs) | ((first | refine kN _ ?_ | refine kE _ ?_ | refine kX _ _ rfl ?_ | refine kR _ ?_); try clear kN kE kX kR Qb)) | (refine ccA ([]) (c1) ?_) | (refine ccB ([_]) (c2) ?_) | (refine stpQ ?_))
 (refine z01 (by rfl) ?_ ?_ (by rfl)) <;> (repeat' (first | (exact eqA) | (refine And.intro ?_ ?_) | ((fail_if_success (with_reducible (show _ = _))); (show _ = _)))) <;> first | rfl | decide
theorem z7s (c : Bs) (hc : (c.length : Int) ≤ 1048576) : ∃ (l : List Nat), ((∀ x ∈ l, x < 10000) ∧ l.length = 12) ∧ CT Tryz.prog 8 [] [.sl 1 (z0j c)] (.ref 1) [.row 1 (npE l)] := by
 obtain ⟨h0, c1⟩ := z6e c hc
 obtain ⟨y, i0, h, _, hi, cy⟩ := z24 c 0 h0 hc (by omega)
 obtain ⟨L, i', h', hd, hr, hi'⟩ := zdi c hc 12 0 [] i0 h rfl hi (fun x hx => by cases hx) rfl
 refine ⟨L, hr, ?_⟩
 refine z08 z0v 1 rfl Tryz.func8 rfl rfl rfl ?_
 conv => arg 6; whnf
 repeat ((try conv => whnf); first | (with_reducible first | refine z0b (fun Qs hN hE hR => ?_) | refine z09 ?_ | refine z02 (fun Qb kN kE kX kR => ?_) | refine z04 ?_ | refine z05 ?_ | refine z0a ?_ | refine z06 ?_ | refine z07 ?_ | (show W _ _ _ (.cond _ _ _) _ _; refine z03 rfl ?_) | (refine hN _ ?_; try clear hN hE hR Qs) | ((first | refine hE _ _ ?_ | refine hR _ ?_); try clear hN hE hR Qs) | ((first | refine kN _ ?_ | refine kE _ ?_ | refine kX _ _ rfl ?_ | refine kR _ ?_); try clear kN kE kX kR Qb)) | (refine ccA ([]) (c1) ?_) | (refine ccB ([_]) (cy) ?_) | (refine And.intro (by kernel_rfl) ?_) | (refine stpQ ?_))
 refine z1o (Nat × List Nat × Nat × Int) (fun x => ⟨[(3, .ptr 1 0 0), (4, .ref 2), (5, .int .i64 (x.1 : Int))], [(1, some (curE c x.2.2.1 x.2.2.2)), (2, some (.row 1 (npE x.2.1)))], 3⟩) (fun x => PR c x.1 x.2.1 x.2.2.1 x.2.2.2 L i' h' ∧ x.1 ≤ 12 ∧ x.2.1.length = x.1) (fun x => 12 - x.1) (0, [], i0, h) ⟨hd, by omega, rfl⟩ ?_ ?_
 ·(refine z00 (by rfl) ?_ ?_) <;> (repeat' (first | (exact eqA) | (refine And.intro ?_ ?_) | ((fail_if_success (with_reducible (show _ = _))); (show _ = _)))) <;> first | rfl | decide
 ·intro Q1 hQ1 x hx
  obtain ⟨k, l, i, h⟩ := x
  obtain ⟨hd, hk, hl⟩ := hx
  dsimp only at hd hk hl ⊢
  have hll := z1C l
  cases hd with
  | stop =>
    have f1 : ¬ ((12 : Nat) : Int) < 12 := by omega
    repeat ((try conv => whnf); first | (with_reducible first | refine z0b (fun Qs hN hE hR => ?_) | refine z09 ?_ | refine z02 (fun Qb kN kE kX kR => ?_) | refine z04 ?_ | refine z05 ?_ | refine z0a ?_ | refine z06 ?_ | refine z07 ?_ | (show W _ _ _ (.cond _ _ _) _ _; refine z03 rfl ?_) | (refine hN _ ?_; try clear hN hE hR Qs) | ((first | refine hE _ _ ?_ | refine hR _ ?_); try clear hN hE hR Qs) | ((first | refine kN _ ?_ | refine kE _ ?_ | refine kX _ _ rfl ?_ | refine kR _ ?_); try clear kN kE kX kR Qb)) | (refine z0m f1 ?_) | (refine stpQ ?_))
    refine hQ1 _ _ ?_
    clear hQ1 Q1
    repeat ((try conv => whnf); first | (with_reducible first | refine z0b (fun Qs hN hE hR => ?_) | refine z09 ?_ | refine z02 (fun Qb kN kE kX kR => ?_) | refine z04 ?_ | refine z05 ?_ | refine z0a ?_ | refine z06 ?_ | refine z07 ?_ | (show W _ _ _ (.cond _ _ _) _ _; refine z03 rfl ?_) | (refine hN _ ?_; try clear hN hE hR Qs) | ((first | refine hE _ _ ?_ | refine hR _ ?_); try clear hN hE hR Qs) | ((first | refine kN _ ?_ | refine kE _ ?_ | refine kX _ _ rfl ?_ | refine kR _ ?_); try clear kN kE kX kR Qb)) | (refine stpQ ?_))
    (refine z01 (by rfl) ?_ ?_ (by rfl)) <;> (repeat' (first | (exact eqA) | (refine And.intro ?_ ?_) | ((fail_if_success (with_reducible (show _ = _))); (show _ = _))))
  | @step _ _ _ _ x i1 h1 _ _ _ hk12 hx hi1 cb hd' =>
    have f1 : (k : Int) < 12 := by omega
    have happ := z4K l x
    repeat ((try conv => whnf); first | (with_reducible first | refine z0b (fun Qs hN hE hR => ?_) | refine z09 ?_ | refine z02 (fun Qb kN kE kX kR => ?_) | refine z04 ?_ | refine z05 ?_ | refine z0a ?_ | refine z06 ?_ | refine z07 ?_ | (show W _ _ _ (.cond _ _ _) _ _; refine z03 rfl ?_) | (refine hN _ ?_; try clear hN hE hR Qs) | ((first | refine hE _ _ ?_ | refine hR _ ?_); try clear hN hE hR Qs) | ((first | refine kN _ ?_ | refine kE _ ?_ | refine kX _ _ rfl ?_ | refine kR _ ?_); try clear kN kE kX kR Qb)) | (refine ccB ([1]) (cb) ?_) | (refine z0i f1 ?_) | (refine And.intro (by simp only [List.length_append, List.length_set, List.length_replicate, List.length_cons, List.length_nil]; omega) ?_) | (refine And.intro (by kernel_rfl) ?_) | (refine stpQ ?_))
    refine ⟨(k + 1, l ++ [x], i1, h1), ⟨hd', by show k + 1 ≤ 12; omega, by simp [hl]⟩, (by show 12 - (k + 1) < 12 - k; omega), ?_⟩
    (try dsimp only)
    rw [happ]
    (refine z00 (by rfl) ?_ ?_) <;> (repeat' (first | (exact eqA) | (refine And.intro ?_ ?_) | ((fail_if_success (with_reducible (show _ = _))); (show _ = _)))) <;> rfl
end
end Go.Proofs.YtceegbenenakaaaGreatDoor
