/- Functions by content: names drawn, places drawn. -/
import Derived.Test.YtfjbinbpgdiafaaGreatDoorIxy
import Derived.Test.YtfjbinbpgdiafaaGreatDoorFc
namespace Go.Proofs.YtfjbinbpgdiafaaGreatDoor
set_option linter.unusedVariables false
set_option linter.unusedSimpArgs false
set_option linter.unusedSectionVars false
open Go.RowKit Pl
inductive NR (c : Bs) : Nat → List Bs → Nat → Int → List Bs → Nat → Int → Prop
 | stop {k l i h x i' h'} : i' ≤ c.length → 1 + x ≤ k → CT Tryz.prog 71 [curE c i h] [.ptr 1 0 0, .int .i64 5] (.int .i64 ((x : Nat) : Int)) [curE c i' h'] → NR c k l i h l i' h'
 | step {k l i h x i1 h1 s i2 h2 l' i' h'} : x < 5 → k < 1 + x → i1 ≤ c.length → CT Tryz.prog 71 [curE c i h] [.ptr 1 0 0, .int .i64 5] (.int .i64 ((x : Nat) : Int)) [curE c i1 h1] →
    (z0E s = true ∧ s.length ≤ 9) → i2 ≤ c.length → CT Tryz.prog 33 [curE c i1 h1] [.ptr 1 0 0] (.str s) [curE c i2 h2] →
    NR c (k + 1) (l ++ [s]) i2 h2 l' i' h' → NR c k l i h l' i' h'
theorem zeB (c : Bs) (hc : (c.length : Int) ≤ 1048576) : ∀ (f k : Nat) (l : List Bs) (i : Nat) (h : Int), k + f = 5 → i ≤ c.length → (∀ s ∈ l, z0E s = true ∧ s.length ≤ 9) → l.length = k →
 ∃ l' i' h', NR c k l i h l' i' h' ∧ ((∀ s ∈ l', z0E s = true ∧ s.length ≤ 9) ∧ 1 ≤ l'.length ∧ l'.length ≤ 5) ∧ i' ≤ c.length
 | f, k, l, i, h, hf, hi, ho, hl => by
   obtain ⟨x, i1, h1, hx, hi1, cb⟩ := z2z c i h 5 hc hi (by omega)
   by_cases hk : k < 1 + x
   ·obtain ⟨s, i2, h2, hs2, hi2, cn⟩ := z2P c i1 h1 hc hi1
    cases f with
    | zero => omega
    | succ f =>
      obtain ⟨l', i', h', hd, hr, hi'⟩ := zeB c hc f (k + 1) (l ++ [s]) i2 h2 (by omega) hi2 (fun y hy => by
       rcases List.mem_append.1 hy with hy | hy
       ·exact ho y hy
       ·rw [List.mem_singleton] at hy; subst hy; exact hs2) (by simp [hl])
      exact ⟨l', i', h', .step hx hk hi1 cb hs2 hi2 cn hd, hr, hi'⟩
   ·exact ⟨l, i1, h1, .stop hi1 (by omega) cb, ⟨ho, by omega, by omega⟩, hi1⟩
inductive PR (c : Bs) : Nat → List Nat → Nat → Int → List Nat → Nat → Int → Prop
 | stop {l i h} : PR c 12 l i h l i h
 | step {k l i h x i1 h1 l' i' h'} : k < 12 → x < 10000 → i1 ≤ c.length → CT Tryz.prog 71 [curE c i h] [.ptr 1 0 0, .int .i64 10000] (.int .i64 ((x : Nat) : Int)) [curE c i1 h1] → PR c (k + 1) (l ++ [x]) i1 h1 l' i' h' → PR c k l i h l' i' h'
theorem zfD (l : List Bs) (x : Bs) : strE (l ++ [x]) = strE l ++ [[.str x]] := by simp [strE]
section
attribute [local irreducible] z0t z0u z0A AnsP LeP W CvE
set_option maxRecDepth 100000 in
set_option maxHeartbeats 2000000 in
theorem z8t (c : Bs) (i : Nat) (h : Int) (hc : (c.length : Int) ≤ 1048576) (hi : i ≤ c.length) : ∃ (l : List Bs) (i' : Nat) (h' : Int), ((∀ s ∈ l, z0E s = true ∧ s.length ≤ 9) ∧ 1 ≤ l.length ∧ l.length ≤ 5) ∧ i' ≤ c.length ∧ CT Tryz.prog 70 [curE c i h] [.ptr 1 0 0] (.ref 2) [curE c i' h', .row 1 (strE l)] := by
 obtain ⟨L, i', h', hd, hr, hi'⟩ := zeB c hc 5 0 [] i h rfl hi (fun x hx => by cases hx) rfl
 refine ⟨L, i', h', hr, hi', ?_⟩
 refine z0b z0q 2 rfl Tryz.func70 rfl rfl rfl ?_
 conv => arg 6; whnf
 repeat ((try conv => whnf); first | (with_reducible first | refine z0a (fun Qs hN hE hR => ?_) | refine z08 ?_ | refine z00 (fun Qb kN kE kX kR => ?_) | refine z04 ?_ | refine z05 ?_ | refine z09 ?_ | refine z06 ?_ | refine z07 ?_ | (show W _ _ _ (.cond _ _ _) _ _; refine z03 rfl ?_) | (refine hN _ ?_; try clear hN hE hR Qs) | ((first | refine hE _ _ ?_ | refine hR _ ?_); try clear hN hE hR Qs) | ((first | refine kN _ ?_ | refine kE _ ?_ | refine kX _ _ rfl ?_ | refine kR _ ?_); try clear kN kE kX kR Qb)) | (refine And.intro (by kernel_rfl) ?_) | (refine stpQ ?_))
 refine z1o (Nat × List Bs × Nat × Int) (fun x => ⟨[(0, .ptr 1 0 0), (3, .ref 2), (4, .int .i64 (x.1 : Int))], [(1, some (curE c x.2.2.1 x.2.2.2)), (2, some (.row 1 (strE x.2.1)))], 3⟩) (fun x => NR c x.1 x.2.1 x.2.2.1 x.2.2.2 L i' h' ∧ x.1 ≤ 5 ∧ x.2.1.length = x.1) (fun x => 5 - x.1) (0, [], i, h) ⟨hd, by omega, rfl⟩ ?_ ?_
 ·(refine z01 (by rfl) ?_ ?_) <;> (repeat' (first | (exact eqA) | (refine And.intro ?_ ?_) | ((fail_if_success (with_reducible (show _ = _))); (show _ = _)))) <;> first | rfl | decide
 ·intro Q1 hQ1 x hx
  obtain ⟨k, l, i, h⟩ := x
  obtain ⟨hd, hk, hl⟩ := hx
  dsimp only at hd hk hl ⊢
  have hll := z0h l
  cases hd with
  | @stop _ _ _ _ x _ _ hi1 hx cb =>
    have e1 : ((1 + x : Nat) : Int) = IntKind.i64.wrap (1 + ((x : Nat) : Int)) := by rw [wrap_i64 (by omega) (by omega)]; omega
    have f1 : ¬ (k : Int) < ((1 + x : Nat) : Int) := by omega
    repeat ((try conv => whnf); first | (with_reducible first | refine z0a (fun Qs hN hE hR => ?_) | refine z08 ?_ | refine z00 (fun Qb kN kE kX kR => ?_) | refine z04 ?_ | refine z05 ?_ | refine z09 ?_ | refine z06 ?_ | refine z07 ?_ | (show W _ _ _ (.cond _ _ _) _ _; refine z03 rfl ?_) | (refine hN _ ?_; try clear hN hE hR Qs) | ((first | refine hE _ _ ?_ | refine hR _ ?_); try clear hN hE hR Qs) | ((first | refine kN _ ?_ | refine kE _ ?_ | refine kX _ _ rfl ?_ | refine kR _ ?_); try clear kN kE kX kR Qb)) | (refine ccB ([1]) (cb) ?_) | (refine Exists.intro _ (And.intro e1 ?_)) | (refine z0d f1 ?_) | (refine stpQ ?_))
    refine hQ1 _ _ ?_
    clear hQ1 Q1
    repeat ((try conv => whnf); first | (with_reducible first | refine z0a (fun Qs hN hE hR => ?_) | refine z08 ?_ | refine z00 (fun Qb kN kE kX kR => ?_) | refine z04 ?_ | refine z05 ?_ | refine z09 ?_ | refine z06 ?_ | refine z07 ?_ | (show W _ _ _ (.cond _ _ _) _ _; refine z03 rfl ?_) | (refine hN _ ?_; try clear hN hE hR Qs) | ((first | refine hE _ _ ?_ | refine hR _ ?_); try clear hN hE hR Qs) | ((first | refine kN _ ?_ | refine kE _ ?_ | refine kX _ _ rfl ?_ | refine kR _ ?_); try clear kN kE kX kR Qb)) | (refine stpQ ?_))
    (refine z02 (by rfl) ?_ ?_ (by rfl)) <;> (repeat' (first | (exact eqA) | (refine And.intro ?_ ?_) | ((fail_if_success (with_reducible (show _ = _))); (show _ = _))))
  | @step _ _ _ _ x i1 h1 s i2 h2 _ _ _ hx hkx hi1 cb hs2 hi2 cn hd' =>
    have e1 : ((1 + x : Nat) : Int) = IntKind.i64.wrap (1 + ((x : Nat) : Int)) := by rw [wrap_i64 (by omega) (by omega)]; omega
    have f1 : (k : Int) < ((1 + x : Nat) : Int) := by omega
    have happ := zfD l s
    repeat ((try conv => whnf); first | (with_reducible first | refine z0a (fun Qs hN hE hR => ?_) | refine z08 ?_ | refine z00 (fun Qb kN kE kX kR => ?_) | refine z04 ?_ | refine z05 ?_ | refine z09 ?_ | refine z06 ?_ | refine z07 ?_ | (show W _ _ _ (.cond _ _ _) _ _; refine z03 rfl ?_) | (refine hN _ ?_; try clear hN hE hR Qs) | ((first | refine hE _ _ ?_ | refine hR _ ?_); try clear hN hE hR Qs) | ((first | refine kN _ ?_ | refine kE _ ?_ | refine kX _ _ rfl ?_ | refine kR _ ?_); try clear kN kE kX kR Qb)) | (refine ccB ([1]) (cb) ?_) | (refine ccB ([1]) (cn) ?_) | (refine Exists.intro _ (And.intro e1 ?_)) | (refine z0c f1 ?_) | (refine And.intro (by simp only [List.length_append, List.length_set, List.length_replicate, List.length_cons, List.length_nil]; omega) ?_) | (refine And.intro (by kernel_rfl) ?_) | (refine stpQ ?_))
    refine ⟨(k + 1, l ++ [s], i2, h2), ⟨hd', by show k + 1 ≤ 5; omega, by simp [hl]⟩, (by show 5 - (k + 1) < 5 - k; omega), ?_⟩
    (try dsimp only)
    rw [happ]
    (refine z01 (by rfl) ?_ ?_) <;> (repeat' (first | (exact eqA) | (refine And.intro ?_ ?_) | ((fail_if_success (with_reducible (show _ = _))); (show _ = _)))) <;> rfl
end
end Go.Proofs.YtfjbinbpgdiafaaGreatDoor
