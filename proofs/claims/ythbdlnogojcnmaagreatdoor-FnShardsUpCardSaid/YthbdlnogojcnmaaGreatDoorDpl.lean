/- Functions by content: places drawn. -/
import Derived.Test.YthbdlnogojcnmaaGreatDoorLsw
import Derived.Test.YthbdlnogojcnmaaGreatDoorFc
namespace Go.Proofs.YthbdlnogojcnmaaGreatDoor
set_option linter.unusedVariables false
set_option linter.unusedSimpArgs false
set_option linter.unusedSectionVars false
open Go.RowKit Pl
inductive PlR (c : Bs) : Nat → List Nat → Nat → Int → List Nat → Nat → Int → Prop
 | stop {l i h} : PlR c 12 l i h l i h
 | step {k l i h x i1 h1 l' i' h'} : k < 12 → x < 10000 → i1 ≤ c.length → CT Tryz.prog 54 [curE c i h] [.ptr 1 0 0, .int .i64 10000] (.int .i64 ((x : Nat) : Int)) [curE c i1 h1] → PlR c (k + 1) (l ++ [x]) i1 h1 l' i' h' → PlR c k l i h l' i' h'
theorem zi1 (c : Bs) (hc : (c.length : Int) ≤ 1048576) : ∀ (f k : Nat) (l : List Nat) (i : Nat) (h : Int), k + f = 12 → i ≤ c.length → (∀ x ∈ l, x < 10000) → l.length = k →
 ∃ l' i' h', PlR c k l i h l' i' h' ∧ ((∀ x ∈ l', x < 10000) ∧ l'.length = 12) ∧ i' ≤ c.length
 | 0, k, l, i, h, hf, hi, ho, hl => by
   obtain rfl : k = 12 := by omega
   exact ⟨l, i, h, .stop, ⟨ho, hl⟩, hi⟩
 | f + 1, k, l, i, h, hf, hi, ho, hl => by
   obtain ⟨x, i1, h1, hx, hi1, cb⟩ := z3U c i h 10000 hc hi (by omega)
   obtain ⟨l', i', h', hd, hr, hi'⟩ := zi1 c hc f (k + 1) (l ++ [x]) i1 h1 (by omega) hi1 (fun y hy => by
    rcases List.mem_append.1 hy with hy | hy
    ·exact ho y hy
    ·rw [List.mem_singleton] at hy; subst hy; exact hx) (by simp [hl])
   exact ⟨l', i', h', .step (by omega) hx hi1 cb hd, hr, hi'⟩
def plE (l : List Nat) : List (List T) := l.map fun (n : Nat) => [T.int .i64 ((n : Nat) : Int)]
theorem zi2 (l : List Nat) : (plE l).length = l.length := by simp [plE]
theorem zi9 (l : List Nat) (x : Nat) : plE (l ++ [x]) = plE l ++ [[.int .i64 ((x : Nat) : Int)]] := by simp [plE]
section
attribute [local irreducible] z0p z0r z0y AnsP LeP
set_option maxRecDepth 100000 in
set_option maxHeartbeats 1000000 in
theorem zi0 (c : Bs) (hc : (c.length : Int) ≤ 1048576) : ∃ (s : Bs), (z10 s = true ∧ s.length ≤ 9) ∧ CT Tryz.prog 9 [] [.sl 1 (z0k c)] (.str s) [] := by
 obtain ⟨h, c1⟩ := zfw c hc
 obtain ⟨s, i', h', hl, _, c2⟩ := zdU c 0 h hc (by omega)
 refine ⟨s, hl, z01 z0M 1 rfl Tryz.func9 rfl rfl rfl ?_⟩
 repeat ((try conv => whnf); first | (refine ccA ([]) (c1) ?_) | (refine ccB ([_]) (c2) ?_) | (refine stpQ ?_))
 (refine z00 (by rfl) ?_ ?_ (by rfl)) <;> (repeat' (first | (exact eqA) | (refine shE ?_) | (refine And.intro ?_ ?_))) <;> first | rfl | decide
end
section
attribute [local irreducible] z0p z0r z0y AnsP LeP W CvE
set_option maxRecDepth 100000 in
set_option maxHeartbeats 2000000 in
theorem zhY (c : Bs) (hc : (c.length : Int) ≤ 1048576) : ∃ (l : List Nat), ((∀ x ∈ l, x < 10000) ∧ l.length = 12) ∧ CT Tryz.prog 20 [] [.sl 1 (z0k c)] (.ref 1) [.row 1 (plE l)] := by
 obtain ⟨h0, c1⟩ := zfw c hc
 obtain ⟨y, i0, h, _, hi, cy⟩ := z3g c 0 h0 hc (by omega)
 obtain ⟨L, i', h', hd, hr, hi'⟩ := zi1 c hc 12 0 [] i0 h rfl hi (fun x hx => by cases hx) rfl
 refine ⟨L, hr, ?_⟩
 refine z01 z0j 1 rfl Tryz.func20 rfl rfl rfl ?_
 conv => arg 6; whnf
 repeat ((try conv => whnf); first | (with_reducible first | refine z0e (fun Qs hN hE hR => ?_) | refine z0c ?_ | refine z05 (fun Qb kN kE kX kR => ?_) | refine z07 ?_ | refine z08 ?_ | refine z0d ?_ | refine z09 ?_ | refine z0a ?_ | (show W _ _ _ (.cond _ _ _) _ _; refine z06 rfl ?_) | (refine hN _ ?_; try clear hN hE hR Qs) | ((first | refine hE _ _ ?_ | refine hR _ ?_); try clear hN hE hR Qs) | ((first | refine kN _ ?_ | refine kE _ ?_ | refine kX _ _ rfl ?_ | refine kR _ ?_); try clear kN kE kX kR Qb)) | (refine ccA ([]) (c1) ?_) | (refine ccB ([_]) (cy) ?_) | (refine And.intro (by kernel_rfl) ?_) | (refine stpQ ?_))
 refine z22 (Nat × List Nat × Nat × Int) (fun x => ⟨[(3, .ptr 1 0 0), (4, .ref 2), (5, .int .i64 (x.1 : Int))], [(1, some (curE c x.2.2.1 x.2.2.2)), (2, some (.row 1 (plE x.2.1)))], 3⟩) (fun x => PlR c x.1 x.2.1 x.2.2.1 x.2.2.2 L i' h' ∧ x.1 ≤ 12 ∧ x.2.1.length = x.1) (fun x => 12 - x.1) (0, [], i0, h) ⟨hd, by omega, rfl⟩ ?_ ?_
 ·(refine z04 (by rfl) ?_ ?_) <;> (repeat' (first | (exact eqA) | (refine And.intro ?_ ?_) | ((fail_if_success (with_reducible (show _ = _))); (show _ = _)))) <;> first | rfl | decide
 ·intro Q1 hQ1 x hx
  obtain ⟨k, l, i, h⟩ := x
  obtain ⟨hd, hk, hl⟩ := hx
  dsimp only at hd hk hl ⊢
  have hll := zi2 l
  cases hd with
  | stop =>
    have f1 : ¬ ((12 : Nat) : Int) < 12 := by omega
    repeat ((try conv => whnf); first | (with_reducible first | refine z0e (fun Qs hN hE hR => ?_) | refine z0c ?_ | refine z05 (fun Qb kN kE kX kR => ?_) | refine z07 ?_ | refine z08 ?_ | refine z0d ?_ | refine z09 ?_ | refine z0a ?_ | (show W _ _ _ (.cond _ _ _) _ _; refine z06 rfl ?_) | (refine hN _ ?_; try clear hN hE hR Qs) | ((first | refine hE _ _ ?_ | refine hR _ ?_); try clear hN hE hR Qs) | ((first | refine kN _ ?_ | refine kE _ ?_ | refine kX _ _ rfl ?_ | refine kR _ ?_); try clear kN kE kX kR Qb)) | (refine z0b f1 ?_) | (refine stpQ ?_))
    refine hQ1 _ _ ?_
    clear hQ1 Q1
    repeat ((try conv => whnf); first | (with_reducible first | refine z0e (fun Qs hN hE hR => ?_) | refine z0c ?_ | refine z05 (fun Qb kN kE kX kR => ?_) | refine z07 ?_ | refine z08 ?_ | refine z0d ?_ | refine z09 ?_ | refine z0a ?_ | (show W _ _ _ (.cond _ _ _) _ _; refine z06 rfl ?_) | (refine hN _ ?_; try clear hN hE hR Qs) | ((first | refine hE _ _ ?_ | refine hR _ ?_); try clear hN hE hR Qs) | ((first | refine kN _ ?_ | refine kE _ ?_ | refine kX _ _ rfl ?_ | refine kR _ ?_); try clear kN kE kX kR Qb)) | (refine stpQ ?_))
    (refine z00 (by rfl) ?_ ?_ (by rfl)) <;> (repeat' (first | (exact eqA) | (refine And.intro ?_ ?_) | ((fail_if_success (with_reducible (show _ = _))); (show _ = _))))
  | @step _ _ _ _ x i1 h1 _ _ _ hk12 hx hi1 cb hd' =>
    have f1 : (k : Int) < 12 := by omega
    have happ := zi9 l x
    repeat ((try conv => whnf); first | (with_reducible first | refine z0e (fun Qs hN hE hR => ?_) | refine z0c ?_ | refine z05 (fun Qb kN kE kX kR => ?_) | refine z07 ?_ | refine z08 ?_ | refine z0d ?_ | refine z09 ?_ | refine z0a ?_ | (show W _ _ _ (.cond _ _ _) _ _; refine z06 rfl ?_) | (refine hN _ ?_; try clear hN hE hR Qs) | ((first | refine hE _ _ ?_ | refine hR _ ?_); try clear hN hE hR Qs) | ((first | refine kN _ ?_ | refine kE _ ?_ | refine kX _ _ rfl ?_ | refine kR _ ?_); try clear kN kE kX kR Qb)) | (refine ccB ([1]) (cb) ?_) | (refine z0g f1 ?_) | (refine And.intro (by simp only [List.length_append, List.length_set, List.length_replicate, List.length_cons, List.length_nil]; omega) ?_) | (refine And.intro (by kernel_rfl) ?_) | (refine stpQ ?_))
    refine ⟨(k + 1, l ++ [x], i1, h1), ⟨hd', by show k + 1 ≤ 12; omega, by simp [hl]⟩, (by show 12 - (k + 1) < 12 - k; omega), ?_⟩
    (try dsimp only)
    rw [happ]
    (refine z04 (by rfl) ?_ ?_) <;> (repeat' (first | (exact eqA) | (refine And.intro ?_ ?_) | ((fail_if_success (with_reducible (show _ = _))); (show _ = _)))) <;> rfl
end
end Go.Proofs.YthbdlnogojcnmaaGreatDoor
