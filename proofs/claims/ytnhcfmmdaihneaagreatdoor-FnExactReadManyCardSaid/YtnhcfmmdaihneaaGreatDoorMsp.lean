/- Functions by content: the reference reads proofs of many. -/
import Derived.Test.YtnhcfmmdaihneaaGreatDoorMty
import Derived.Test.YtnhcfmmdaihneaaGreatDoorGg
import Derived.Test.YtnhcfmmdaihneaaGreatDoorSrl
namespace Go.Proofs.YtnhcfmmdaihneaaGreatDoor
set_option linter.unusedVariables false
set_option linter.unusedSimpArgs false
set_option linter.unusedSectionVars false
open Go.RowKit Pl
def bkG (l : List (Option (List Lf))) : List (List Lf) := l.map fun o => o.getD []
theorem zbE (l : List (Option (List Lf))) : (bkG l).length = l.length := by simp [bkG]
theorem ze0 (l : List (Option (List Lf))) (o : Option (List Lf)) : bkE (bkG (l ++ [o])) = bkE (bkG l) ++ [[.sl 2 (lvE (o.getD []))]] := by simp [bkG, bkE]
def okA (l : List (Option (List Lf))) : Bool := l.all fun o => o.isSome
theorem ze1 (l : List (Option (List Lf))) (o : Option (List Lf)) : okA (l ++ [o]) = (okA l && o.isSome) := by simp [okA]
theorem z8n (t : Bs) (q : Nat) : (z0i t q false).1.length ≤ 20000 := by
 unfold z0i
 rcases hr : z0k t q with _ | ⟨l, c⟩
 ·simp
 ·exact (z1a hr).2.2
section
attribute [local irreducible] z0s z0t z0x AnsP LeP W CvE
set_option maxRecDepth 100000 in
set_option maxHeartbeats 16000000 in
theorem z4S (t : Bs) (w : Int) (ht : t.length ≤ 2000000) (n1 q1 : Nat) (b1 : Bool) (names : List Bs) (q2 : Nat) (b2 : Bool) (n2 q3 : Nat) (b3 : Bool) (os : List (Option (List Lf))) (q4 : Nat) (b4 : Bool) (n3 q5 : Nat) (b5 : Bool) (sides : List Bs) (q6 : Nat) (b6 : Bool)
 (h1 : numS t 0 false = (n1, q1, b1)) (hR0 : rdL (fNm t) (min n1 10) q1 b1 = (names, q2, b2)) (h2 : numS t q2 b2 = (n2, q3, b3)) (hR2 : rdL (fBo t) (min n2 10) q3 b3 = (os, q4, b4)) (h3 : numS t q4 b4 = (n3, q5, b5)) (hR4 : rdL (fSd t w) (min n3 70) q5 b5 = (sides, q6, b6))
 (fl : Bool) (hfl : fl = (!b6 && (okA os && (z26 names (bkG os) sides w && decide (z2i names (bkG os) sides = t))))) :
 CT Tryz.prog 8 [] [.str t, .int .i64 w] (.tup [.agg [.sl 1 (strE (bif fl then names else [])), .sl 1 (bkE (bif fl then bkG os else [])), .sl 1 (strE (bif fl then sides else []))], .bool fl]) [] := by
 have ht' : (t.length : Int) ≤ 1000000000 := by omega
 have c1 := z9j t 0 false ht' (Nat.zero_le _)
 have lq0 := (z4y (t := t) (p := 0) (bad := false) (Nat.zero_le _)).1
 rw [h1] at c1 lq0
 simp only at c1 lq0
 have lS : ∀ q, q ≤ t.length → (z0i t q false).2.1 ≤ t.length := fun q h => (z0D h).1
 have lq2' := z4O (f := fNm t) (N := t.length) lS (min n1 10) q1 b1 lq0
 rw [hR0] at lq2'
 simp only at lq2'
 have c2 := z9j t q2 b2 ht' lq2'
 have lq2 := (z4y (t := t) (p := q2) (bad := b2) lq2').1
 rw [h2] at c2 lq2
 simp only at c2 lq2
 have lq4' := z4O (f := fBo t) (N := t.length) lS (min n2 10) q3 b3 lq2
 rw [hR2] at lq4'
 simp only at lq4'
 have c3 := z9j t q4 b4 ht' lq4'
 have lq4 := z4y (t := t) (p := q4) (bad := b4) lq4'
 rw [h3] at c3 lq4
 simp only at c3 lq4
 obtain ⟨lq4, ln3⟩ := lq4
 have lT : ∀ q, q ≤ t.length → (fSd t w q).2.1 ≤ t.length := fun q h => z4I h
 have lq6 := z4O (f := fSd t w) (N := t.length) lT (min n3 70) q5 b5 lq4
 have hct := z3E (fSd t w) (min n3 70) q5 b5
 rw [hR4] at lq6 hct
 simp only at lq6 hct
 have hN1 := z3E (fNm t) (min n1 10) q1 b1
 have hN2 := z4P (f := fNm t) (P := fun s => (s.length : Int) ≤ 100000000) (fun q => by
  have := z8n t q
  show ((z0i t q false).1.length : Int) ≤ _
  omega) (min n1 10) q1 b1
 rw [hR0] at hN1 hN2
 simp only at hN1 hN2
 have hB1 := z3E (fBo t) (min n2 10) q3 b3
 have hB2 := z4P (f := fBo t) (P := fun o => leavesOk (o.getD []) = true) (fun q => z7w) (min n2 10) q3 b3
 rw [hR2] at hB1 hB2
 simp only at hB1 hB2
 have hGl := zbE os
 have cT := z8m names (bkG os) sides w (by omega) hN2 (by omega) (fun b hb => by
  simp only [bkG, List.mem_map] at hb
  obtain ⟨o, ho, rfl⟩ := hb
  exact hB2 o ho) (by omega)
 clear hct hN1 hN2 hB1 hB2 h1 h2 h3 lS lT
 unfold fldB at c1 c2 c3
 refine z0b z11 1 rfl Tryz.func8 rfl rfl rfl ?_
 conv => arg 6; whnf
 repeat ((try conv => whnf); first | (with_reducible first | refine z0a (fun Qs hN hE hR => ?_) | refine z08 ?_ | refine z00 (fun Qb kN kE kX kR => ?_) | refine z03 ?_ | refine z04 ?_ | refine z09 ?_ | refine z05 ?_ | refine z06 ?_ | (show W _ _ _ (.cond _ _ _) _ _; refine z02 rfl ?_) | (refine hN _ ?_; try clear hN hE hR Qs; (try (conv => arg 6; dsimp only [ovl, List.set, List.map, ren0]))) | ((first | refine hE _ _ ?_ | refine hR _ ?_); try clear hN hE hR Qs) | ((first | refine kN _ ?_ | refine kE _ ?_ | refine kX _ _ rfl ?_ | refine kR _ ?_); try clear kN kE kX kR Qb)) | (refine ccB ([_]) (c1) ?_) | (refine And.intro (by kernel_rfl) ?_) | (refine stpQ ?_))
 refine z0j 0 ⟨[(0, .str t), (1, .int .i64 w), (4, .ptr 1 0 0), (6, .ptr 2 0 0), (7, .ptr 3 0 0)], [(1, some (.box [.val nilV, .val nilV, .val nilV])), (2, some (.box [.str t, .int .i64 (q2 : Int), .bool b2])), (3, some (.box [.ref 4, .val nilV, .val nilV])), (4, some (.row 1 (strE names)))], 5⟩ (Nat × Nat × Bool × List Bs) (fun x => ⟨[(0, .str t), (1, .int .i64 w), (4, .ptr 1 0 0), (6, .ptr 2 0 0), (7, .ptr 3 0 0), (8, .int .i64 (n1 : Int)), (9, .int .i64 (x.1 : Int))], [(1, some (.box [.val nilV, .val nilV, .val nilV])), (2, some (.box [.str t, .int .i64 (x.2.1 : Int), .bool x.2.2.1])), (3, some (.box [.ref 4, .val nilV, .val nilV])), (4, some (.row 1 (strE x.2.2.2)))], 5⟩) (fun x => x.1 ≤ min n1 10 ∧ x.2.2.2.length = x.1 ∧ RdAt (fNm t) (names, q2, b2) (min n1 10 - x.1) x.2.2.2 x.2.1 x.2.2.1 ∧ x.2.1 ≤ t.length) (fun x => min n1 10 - x.1) (0, q1, b1, []) ⟨Nat.zero_le _, rfl, by unfold RdAt; rw [Nat.sub_zero, hR0]; rfl, lq0⟩ ?_ ?_ ?_
 ·(try dsimp only)
  (refine z01 (by rfl) ?_ ?_)
  all_goals (repeat' (first | (exact trivial) | ((try conv => whnf); first | (exact trivial) | (refine And.intro ?_ ?_))))
  all_goals first
   | rfl
   | decide
 ·intro x hx
  obtain ⟨k, q, bd, s⟩ := x
  obtain ⟨hk, hl, hat, hq⟩ := hx
  dsimp only at hk hl hat hq ⊢
  have hll := z0m s
  by_cases hgo : bd = false ∧ k < min n1 10
  ·obtain ⟨rfl, hlt⟩ := hgo
   obtain ⟨m, hm⟩ : ∃ m, min n1 10 - k = m + 1 := ⟨min n1 10 - k - 1, by omega⟩
   rw [hm] at hat
   have k1 : (k : Int) < (n1 : Int) := by omega
   have k2 : (k : Int) < 10 := by omega
   have c5 := z41 t q false ht' hq
   rw [show z0Z t q false = z0i t q false from rfl] at c5
   have hle := (z0D (t := t) (p := q) (bad := false) hq).1
   rcases hTk : z0i t q false with ⟨u, q', b'⟩
   have hst := hat.step (u := u) (q1 := q') (b1 := b') hTk
   rw [hTk] at c5 hle
   dsimp only at c5 hle
   have happ := z1H s u
   unfold fldB at c5
   repeat ((try conv => whnf); first | (with_reducible first | refine z0a (fun Qs hN hE hR => ?_) | refine z08 ?_ | refine z00 (fun Qb kN kE kX kR => ?_) | refine z03 ?_ | refine z04 ?_ | refine z09 ?_ | refine z05 ?_ | refine z06 ?_ | (show W _ _ _ (.cond _ _ _) _ _; refine z02 rfl ?_) | (refine hN _ ?_; try clear hN hE hR Qs; (try (conv => arg 6; dsimp only [ovl, List.set, List.map, ren0]))) | ((first | refine hE _ _ ?_ | refine hR _ ?_); try clear hN hE hR Qs) | ((first | refine kN _ ?_ | refine kE _ ?_ | refine kX _ _ rfl ?_ | refine kR _ ?_); try clear kN kE kX kR Qb)) | (refine z0d k1 ?_) | (refine z0d k2 ?_) | (refine ccB ([_]) (c5) ?_) | (refine And.intro (by simp only [List.length_append, List.length_set, List.length_replicate, List.length_cons, List.length_nil]; omega) ?_) | (refine And.intro (by kernel_rfl) ?_) | (refine stpQ ?_))
   refine ⟨(k + 1, q', b', s ++ [u]), ⟨by show k + 1 ≤ min n1 10; omega, by simp [hl], ?_, hle⟩, (by show min n1 10 - (k + 1) < min n1 10 - k; omega), ?_⟩
   ·show RdAt (fNm t) (names, q2, b2) (min n1 10 - (k + 1)) (s ++ [u]) q' b'
    rw [show min n1 10 - (k + 1) = m by omega]
    exact hst
   ·(try dsimp only)
    rw [happ]
    (refine z01 (by rfl) ?_ ?_) <;> (repeat' (first | (exact eqA) | (refine And.intro ?_ ?_) | ((fail_if_success (with_reducible (show _ = _))); (show _ = _)))) <;> rfl
  ·have e := hat.stop (by
    cases bd with
    | true => exact .inl rfl
    | false => exact .inr (by have : ¬ k < min n1 10 := fun h => hgo ⟨rfl, h⟩; omega))
   simp only [Prod.mk.injEq] at e
   obtain ⟨e1, e2, e3⟩ := e
   subst e1 e2 e3
   cases b2 with
   | true =>
     by_cases k1 : (k : Int) < (n1 : Int)
     ·by_cases k2 : (k : Int) < 10
      ·repeat ((try conv => whnf); first | (with_reducible first | refine z0a (fun Qs hN hE hR => ?_) | refine z08 ?_ | refine z00 (fun Qb kN kE kX kR => ?_) | refine z03 ?_ | refine z04 ?_ | refine z09 ?_ | refine z05 ?_ | refine z06 ?_ | (show W _ _ _ (.cond _ _ _) _ _; refine z02 rfl ?_) | (refine hN _ ?_; try clear hN hE hR Qs; (try (conv => arg 6; dsimp only [ovl, List.set, List.map, ren0]))) | ((first | refine hE _ _ ?_ | refine hR _ ?_); try clear hN hE hR Qs) | ((first | refine kN _ ?_ | refine kE _ ?_ | refine kX _ _ rfl ?_ | refine kR _ ?_); try clear kN kE kX kR Qb)) | (refine z0d k1 ?_) | (refine z0d k2 ?_) | (refine stpQ ?_))
       (refine z01 (by rfl) ?_ ?_) <;> (repeat' (first | (exact eqA) | (refine And.intro ?_ ?_) | ((fail_if_success (with_reducible (show _ = _))); (show _ = _)))) <;> rfl
      ·repeat ((try conv => whnf); first | (with_reducible first | refine z0a (fun Qs hN hE hR => ?_) | refine z08 ?_ | refine z00 (fun Qb kN kE kX kR => ?_) | refine z03 ?_ | refine z04 ?_ | refine z09 ?_ | refine z05 ?_ | refine z06 ?_ | (show W _ _ _ (.cond _ _ _) _ _; refine z02 rfl ?_) | (refine hN _ ?_; try clear hN hE hR Qs; (try (conv => arg 6; dsimp only [ovl, List.set, List.map, ren0]))) | ((first | refine hE _ _ ?_ | refine hR _ ?_); try clear hN hE hR Qs) | ((first | refine kN _ ?_ | refine kE _ ?_ | refine kX _ _ rfl ?_ | refine kR _ ?_); try clear kN kE kX kR Qb)) | (refine z0d k1 ?_) | (refine z0e k2 ?_) | (refine stpQ ?_))
       (refine z01 (by rfl) ?_ ?_) <;> (repeat' (first | (exact eqA) | (refine And.intro ?_ ?_) | ((fail_if_success (with_reducible (show _ = _))); (show _ = _)))) <;> rfl
     ·repeat ((try conv => whnf); first | (with_reducible first | refine z0a (fun Qs hN hE hR => ?_) | refine z08 ?_ | refine z00 (fun Qb kN kE kX kR => ?_) | refine z03 ?_ | refine z04 ?_ | refine z09 ?_ | refine z05 ?_ | refine z06 ?_ | (show W _ _ _ (.cond _ _ _) _ _; refine z02 rfl ?_) | (refine hN _ ?_; try clear hN hE hR Qs; (try (conv => arg 6; dsimp only [ovl, List.set, List.map, ren0]))) | ((first | refine hE _ _ ?_ | refine hR _ ?_); try clear hN hE hR Qs) | ((first | refine kN _ ?_ | refine kE _ ?_ | refine kX _ _ rfl ?_ | refine kR _ ?_); try clear kN kE kX kR Qb)) | (refine z0e k1 ?_) | (refine stpQ ?_))
      (refine z01 (by rfl) ?_ ?_) <;> (repeat' (first | (exact eqA) | (refine And.intro ?_ ?_) | ((fail_if_success (with_reducible (show _ = _))); (show _ = _)))) <;> rfl
   | false =>
     have hnk : ¬ k < min n1 10 := fun h => hgo ⟨rfl, h⟩
     by_cases k1 : (k : Int) < (n1 : Int)
     ·have k2 : ¬ (k : Int) < 10 := by omega
      repeat ((try conv => whnf); first | (with_reducible first | refine z0a (fun Qs hN hE hR => ?_) | refine z08 ?_ | refine z00 (fun Qb kN kE kX kR => ?_) | refine z03 ?_ | refine z04 ?_ | refine z09 ?_ | refine z05 ?_ | refine z06 ?_ | (show W _ _ _ (.cond _ _ _) _ _; refine z02 rfl ?_) | (refine hN _ ?_; try clear hN hE hR Qs; (try (conv => arg 6; dsimp only [ovl, List.set, List.map, ren0]))) | ((first | refine hE _ _ ?_ | refine hR _ ?_); try clear hN hE hR Qs) | ((first | refine kN _ ?_ | refine kE _ ?_ | refine kX _ _ rfl ?_ | refine kR _ ?_); try clear kN kE kX kR Qb)) | (refine z0d k1 ?_) | (refine z0e k2 ?_) | (refine stpQ ?_))
      (refine z01 (by rfl) ?_ ?_) <;> (repeat' (first | (exact eqA) | (refine And.intro ?_ ?_) | ((fail_if_success (with_reducible (show _ = _))); (show _ = _)))) <;> rfl
     ·repeat ((try conv => whnf); first | (with_reducible first | refine z0a (fun Qs hN hE hR => ?_) | refine z08 ?_ | refine z00 (fun Qb kN kE kX kR => ?_) | refine z03 ?_ | refine z04 ?_ | refine z09 ?_ | refine z05 ?_ | refine z06 ?_ | (show W _ _ _ (.cond _ _ _) _ _; refine z02 rfl ?_) | (refine hN _ ?_; try clear hN hE hR Qs; (try (conv => arg 6; dsimp only [ovl, List.set, List.map, ren0]))) | ((first | refine hE _ _ ?_ | refine hR _ ?_); try clear hN hE hR Qs) | ((first | refine kN _ ?_ | refine kE _ ?_ | refine kX _ _ rfl ?_ | refine kR _ ?_); try clear kN kE kX kR Qb)) | (refine z0e k1 ?_) | (refine stpQ ?_))
      (refine z01 (by rfl) ?_ ?_) <;> (repeat' (first | (exact eqA) | (refine And.intro ?_ ?_) | ((fail_if_success (with_reducible (show _ = _))); (show _ = _)))) <;> rfl
 ·repeat ((try conv => whnf); first | (with_reducible first | refine z0a (fun Qs hN hE hR => ?_) | refine z08 ?_ | refine z00 (fun Qb kN kE kX kR => ?_) | refine z03 ?_ | refine z04 ?_ | refine z09 ?_ | refine z05 ?_ | refine z06 ?_ | (show W _ _ _ (.cond _ _ _) _ _; refine z02 rfl ?_) | (refine hN _ ?_; try clear hN hE hR Qs; (try (conv => arg 6; dsimp only [ovl, List.set, List.map, ren0]))) | ((first | refine hE _ _ ?_ | refine hR _ ?_); try clear hN hE hR Qs) | ((first | refine kN _ ?_ | refine kE _ ?_ | refine kX _ _ rfl ?_ | refine kR _ ?_); try clear kN kE kX kR Qb)) | (refine ccB ([_]) (c2) ?_) | (refine And.intro (by kernel_rfl) ?_) | (refine stpQ ?_))
  refine z0j 2 ⟨[(0, .str t), (1, .int .i64 w), (4, .ptr 1 0 0), (6, .ptr 2 0 0), (7, .ptr 3 0 0), (11, .bool (okA os))], [(1, some (.box [.val nilV, .val nilV, .val nilV])), (2, some (.box [.str t, .int .i64 (q4 : Int), .bool b4])), (3, some (.box [.ref 4, .ref 5, .val nilV])), (4, some (.row 1 (strE names))), (5, some (.row 1 (bkE (bkG os))))], 6⟩ (Nat × Nat × Bool × List (Option (List Lf))) (fun x => ⟨[(0, .str t), (1, .int .i64 w), (4, .ptr 1 0 0), (6, .ptr 2 0 0), (7, .ptr 3 0 0), (11, .bool (okA x.2.2.2)), (10, .int .i64 (n2 : Int)), (12, .int .i64 (x.1 : Int))], [(1, some (.box [.val nilV, .val nilV, .val nilV])), (2, some (.box [.str t, .int .i64 (x.2.1 : Int), .bool x.2.2.1])), (3, some (.box [.ref 4, .ref 5, .val nilV])), (4, some (.row 1 (strE names))), (5, some (.row 1 (bkE (bkG x.2.2.2))))], 6⟩) (fun x => x.1 ≤ min n2 10 ∧ x.2.2.2.length = x.1 ∧ RdAt (fBo t) (os, q4, b4) (min n2 10 - x.1) x.2.2.2 x.2.1 x.2.2.1 ∧ x.2.1 ≤ t.length) (fun x => min n2 10 - x.1) (0, q3, b3, []) ⟨Nat.zero_le _, rfl, by unfold RdAt; rw [Nat.sub_zero, hR2]; rfl, lq2⟩ ?_ ?_ ?_
  ·(try dsimp only)
   (refine z01 (by rfl) ?_ ?_)
   all_goals (repeat' (first | (exact trivial) | ((try conv => whnf); first | (exact trivial) | (refine And.intro ?_ ?_))))
   all_goals first
    | rfl
    | decide
  ·intro x hx
   obtain ⟨k, q, bd, s⟩ := x
   obtain ⟨hk, hl, hat, hq⟩ := hx
   dsimp only at hk hl hat hq ⊢
   have hll : (bkE (bkG s)).length = s.length := by rw [z31, zbE]
   by_cases hgo : bd = false ∧ k < min n2 10
   ·obtain ⟨rfl, hlt⟩ := hgo
    obtain ⟨m, hm⟩ : ∃ m, min n2 10 - k = m + 1 := ⟨min n2 10 - k - 1, by omega⟩
    rw [hm] at hat
    have k1 : (k : Int) < (n2 : Int) := by omega
    have k2 : (k : Int) < 10 := by omega
    have c5 := z41 t q false ht' hq
    rw [show z0Z t q false = z0i t q false from rfl] at c5
    have hle := (z0D (t := t) (p := q) (bad := false) hq).1
    have hul := (z0D (t := t) (p := q) (bad := false) hq).2
    have hst := hat.step (u := (fBo t q).1) (q1 := (fBo t q).2.1) (b1 := (fBo t q).2.2) rfl
    unfold fBo at hst
    rcases hTk : z0i t q false with ⟨u, q', b'⟩
    rw [hTk] at c5 hle hul hst
    dsimp only at c5 hle hul hst
    have c6 := z55 u (by omega)
    have happ := ze0 s (z0P u)
    have hok := ze1 s (z0P u)
    generalize z0P u = ou at *
    generalize ou.getD [] = lv at *
    generalize ou.isSome = og at *
    generalize okA s = ok at *
    unfold fldB at c5
    cases ok <;> cases og
    all_goals
     repeat ((try conv => whnf); first | (with_reducible first | refine z0a (fun Qs hN hE hR => ?_) | refine z08 ?_ | refine z00 (fun Qb kN kE kX kR => ?_) | refine z03 ?_ | refine z04 ?_ | refine z09 ?_ | refine z05 ?_ | refine z06 ?_ | (show W _ _ _ (.cond _ _ _) _ _; refine z02 rfl ?_) | (refine hN _ ?_; try clear hN hE hR Qs; (try (conv => arg 6; dsimp only [ovl, List.set, List.map, ren0]))) | ((first | refine hE _ _ ?_ | refine hR _ ?_); try clear hN hE hR Qs) | ((first | refine kN _ ?_ | refine kE _ ?_ | refine kX _ _ rfl ?_ | refine kR _ ?_); try clear kN kE kX kR Qb)) | (refine z0d k1 ?_) | (refine z0d k2 ?_) | (refine ccB ([_]) (c5) ?_) | (refine ccA ([]) (c6) ?_) | (refine And.intro (by simp only [List.length_append, List.length_set, List.length_replicate, List.length_cons, List.length_nil]; omega) ?_) | (refine And.intro (by kernel_rfl) ?_) | (refine stpQ ?_))
     refine ⟨(k + 1, q', b', s ++ [ou]), ⟨by show k + 1 ≤ min n2 10; omega, by simp [hl], ?_, hle⟩, (by show min n2 10 - (k + 1) < min n2 10 - k; omega), ?_⟩
     ·show RdAt (fBo t) (os, q4, b4) (min n2 10 - (k + 1)) (s ++ [ou]) q' b'
      rw [show min n2 10 - (k + 1) = m by omega]
      exact hst
     ·(try dsimp only)
      rw [happ, hok]
      (refine z01 (by rfl) ?_ ?_) <;> (repeat' (first | (exact eqA) | (refine And.intro ?_ ?_) | ((fail_if_success (with_reducible (show _ = _))); (show _ = _)))) <;> rfl
   ·have e := hat.stop (by
     cases bd with
     | true => exact .inl rfl
     | false => exact .inr (by have : ¬ k < min n2 10 := fun h => hgo ⟨rfl, h⟩; omega))
    simp only [Prod.mk.injEq] at e
    obtain ⟨e1, e2, e3⟩ := e
    subst e1 e2 e3
    cases b4 with
    | true =>
      by_cases k1 : (k : Int) < (n2 : Int)
      ·by_cases k2 : (k : Int) < 10
       ·repeat ((try conv => whnf); first | (with_reducible first | refine z0a (fun Qs hN hE hR => ?_) | refine z08 ?_ | refine z00 (fun Qb kN kE kX kR => ?_) | refine z03 ?_ | refine z04 ?_ | refine z09 ?_ | refine z05 ?_ | refine z06 ?_ | (show W _ _ _ (.cond _ _ _) _ _; refine z02 rfl ?_) | (refine hN _ ?_; try clear hN hE hR Qs; (try (conv => arg 6; dsimp only [ovl, List.set, List.map, ren0]))) | ((first | refine hE _ _ ?_ | refine hR _ ?_); try clear hN hE hR Qs) | ((first | refine kN _ ?_ | refine kE _ ?_ | refine kX _ _ rfl ?_ | refine kR _ ?_); try clear kN kE kX kR Qb)) | (refine z0d k1 ?_) | (refine z0d k2 ?_) | (refine stpQ ?_))
        (refine z01 (by rfl) ?_ ?_) <;> (repeat' (first | (exact eqA) | (refine And.intro ?_ ?_) | ((fail_if_success (with_reducible (show _ = _))); (show _ = _)))) <;> rfl
       ·repeat ((try conv => whnf); first | (with_reducible first | refine z0a (fun Qs hN hE hR => ?_) | refine z08 ?_ | refine z00 (fun Qb kN kE kX kR => ?_) | refine z03 ?_ | refine z04 ?_ | refine z09 ?_ | refine z05 ?_ | refine z06 ?_ | (show W _ _ _ (.cond _ _ _) _ _; refine z02 rfl ?_) | (refine hN _ ?_; try clear hN hE hR Qs; (try (conv => arg 6; dsimp only [ovl, List.set, List.map, ren0]))) | ((first | refine hE _ _ ?_ | refine hR _ ?_); try clear hN hE hR Qs) | ((first | refine kN _ ?_ | refine kE _ ?_ | refine kX _ _ rfl ?_ | refine kR _ ?_); try clear kN kE kX kR Qb)) | (refine z0d k1 ?_) | (refine z0e k2 ?_) | (refine stpQ ?_))
        (refine z01 (by rfl) ?_ ?_) <;> (repeat' (first | (exact eqA) | (refine And.intro ?_ ?_) | ((fail_if_success (with_reducible (show _ = _))); (show _ = _)))) <;> rfl
      ·repeat ((try conv => whnf); first | (with_reducible first | refine z0a (fun Qs hN hE hR => ?_) | refine z08 ?_ | refine z00 (fun Qb kN kE kX kR => ?_) | refine z03 ?_ | refine z04 ?_ | refine z09 ?_ | refine z05 ?_ | refine z06 ?_ | (show W _ _ _ (.cond _ _ _) _ _; refine z02 rfl ?_) | (refine hN _ ?_; try clear hN hE hR Qs; (try (conv => arg 6; dsimp only [ovl, List.set, List.map, ren0]))) | ((first | refine hE _ _ ?_ | refine hR _ ?_); try clear hN hE hR Qs) | ((first | refine kN _ ?_ | refine kE _ ?_ | refine kX _ _ rfl ?_ | refine kR _ ?_); try clear kN kE kX kR Qb)) | (refine z0e k1 ?_) | (refine stpQ ?_))
       (refine z01 (by rfl) ?_ ?_) <;> (repeat' (first | (exact eqA) | (refine And.intro ?_ ?_) | ((fail_if_success (with_reducible (show _ = _))); (show _ = _)))) <;> rfl
    | false =>
      have hnk : ¬ k < min n2 10 := fun h => hgo ⟨rfl, h⟩
      by_cases k1 : (k : Int) < (n2 : Int)
      ·have k2 : ¬ (k : Int) < 10 := by omega
       repeat ((try conv => whnf); first | (with_reducible first | refine z0a (fun Qs hN hE hR => ?_) | refine z08 ?_ | refine z00 (fun Qb kN kE kX kR => ?_) | refine z03 ?_ | refine z04 ?_ | refine z09 ?_ | refine z05 ?_ | refine z06 ?_ | (show W _ _ _ (.cond _ _ _) _ _; refine z02 rfl ?_) | (refine hN _ ?_; try clear hN hE hR Qs; (try (conv => arg 6; dsimp only [ovl, List.set, List.map, ren0]))) | ((first | refine hE _ _ ?_ | refine hR _ ?_); try clear hN hE hR Qs) | ((first | refine kN _ ?_ | refine kE _ ?_ | refine kX _ _ rfl ?_ | refine kR _ ?_); try clear kN kE kX kR Qb)) | (refine z0d k1 ?_) | (refine z0e k2 ?_) | (refine stpQ ?_))
       (refine z01 (by rfl) ?_ ?_) <;> (repeat' (first | (exact eqA) | (refine And.intro ?_ ?_) | ((fail_if_success (with_reducible (show _ = _))); (show _ = _)))) <;> rfl
      ·repeat ((try conv => whnf); first | (with_reducible first | refine z0a (fun Qs hN hE hR => ?_) | refine z08 ?_ | refine z00 (fun Qb kN kE kX kR => ?_) | refine z03 ?_ | refine z04 ?_ | refine z09 ?_ | refine z05 ?_ | refine z06 ?_ | (show W _ _ _ (.cond _ _ _) _ _; refine z02 rfl ?_) | (refine hN _ ?_; try clear hN hE hR Qs; (try (conv => arg 6; dsimp only [ovl, List.set, List.map, ren0]))) | ((first | refine hE _ _ ?_ | refine hR _ ?_); try clear hN hE hR Qs) | ((first | refine kN _ ?_ | refine kE _ ?_ | refine kX _ _ rfl ?_ | refine kR _ ?_); try clear kN kE kX kR Qb)) | (refine z0e k1 ?_) | (refine stpQ ?_))
       (refine z01 (by rfl) ?_ ?_) <;> (repeat' (first | (exact eqA) | (refine And.intro ?_ ?_) | ((fail_if_success (with_reducible (show _ = _))); (show _ = _)))) <;> rfl
  ·repeat ((try conv => whnf); first | (with_reducible first | refine z0a (fun Qs hN hE hR => ?_) | refine z08 ?_ | refine z00 (fun Qb kN kE kX kR => ?_) | refine z03 ?_ | refine z04 ?_ | refine z09 ?_ | refine z05 ?_ | refine z06 ?_ | (show W _ _ _ (.cond _ _ _) _ _; refine z02 rfl ?_) | (refine hN _ ?_; try clear hN hE hR Qs; (try (conv => arg 6; dsimp only [ovl, List.set, List.map, ren0]))) | ((first | refine hE _ _ ?_ | refine hR _ ?_); try clear hN hE hR Qs) | ((first | refine kN _ ?_ | refine kE _ ?_ | refine kX _ _ rfl ?_ | refine kR _ ?_); try clear kN kE kX kR Qb)) | (refine ccB ([_]) (c3) ?_) | (refine And.intro (by kernel_rfl) ?_) | (refine stpQ ?_))
   refine z0j 4 ⟨[(0, .str t), (1, .int .i64 w), (4, .ptr 1 0 0), (6, .ptr 2 0 0), (7, .ptr 3 0 0), (11, .bool (okA os))], [(1, some (.box [.val nilV, .val nilV, .val nilV])), (2, some (.box [.str t, .int .i64 (q6 : Int), .bool b6])), (3, some (.box [.ref 4, .ref 5, .ref 6])), (4, some (.row 1 (strE names))), (5, some (.row 1 (bkE (bkG os)))), (6, some (.row 1 (strE sides)))], 7⟩ (Nat × Nat × Bool × List Bs) (fun x => ⟨[(0, .str t), (1, .int .i64 w), (4, .ptr 1 0 0), (6, .ptr 2 0 0), (7, .ptr 3 0 0), (11, .bool (okA os)), (15, .int .i64 (n3 : Int)), (16, .int .i64 (x.1 : Int))], [(1, some (.box [.val nilV, .val nilV, .val nilV])), (2, some (.box [.str t, .int .i64 (x.2.1 : Int), .bool x.2.2.1])), (3, some (.box [.ref 4, .ref 5, .ref 6])), (4, some (.row 1 (strE names))), (5, some (.row 1 (bkE (bkG os)))), (6, some (.row 1 (strE x.2.2.2)))], 7⟩) (fun x => x.1 ≤ min n3 70 ∧ x.2.2.2.length = x.1 ∧ RdAt (fSd t w) (sides, q6, b6) (min n3 70 - x.1) x.2.2.2 x.2.1 x.2.2.1 ∧ x.2.1 ≤ t.length) (fun x => min n3 70 - x.1) (0, q5, b5, []) ⟨Nat.zero_le _, rfl, by unfold RdAt; rw [Nat.sub_zero, hR4]; rfl, lq4⟩ ?_ ?_ ?_
   ·(try dsimp only)
    (refine z01 (by rfl) ?_ ?_)
    all_goals (repeat' (first | (exact trivial) | ((try conv => whnf); first | (exact trivial) | (refine And.intro ?_ ?_))))
    all_goals first
     | rfl
     | decide
   ·intro x hx
    obtain ⟨k, q, bd, s⟩ := x
    obtain ⟨hk, hl, hat, hq⟩ := hx
    dsimp only at hk hl hat hq ⊢
    have hll := z0m s
    by_cases hgo : bd = false ∧ k < min n3 70
    ·obtain ⟨rfl, hlt⟩ := hgo
     obtain ⟨m, hm⟩ : ∃ m, min n3 70 - k = m + 1 := ⟨min n3 70 - k - 1, by omega⟩
     rw [hm] at hat
     have k1 : (k : Int) < (n3 : Int) := by omega
     have k2 : (k : Int) < 70 := by omega
     have c5 := zdN t q false w ht' hq
     have hle := z4I (t := t) (p := q) (w := w) (b := false) hq
     rcases hTk : z1i t q false w with ⟨u, q', b'⟩
     have hst := hat.step (u := u) (q1 := q') (b1 := b') hTk
     rw [hTk] at c5 hle
     dsimp only at c5 hle
     have happ := z1H s u
     unfold fldB at c5
     generalize okA os = oa at *
     repeat ((try conv => whnf); first | (with_reducible first | refine z0a (fun Qs hN hE hR => ?_) | refine z08 ?_ | refine z00 (fun Qb kN kE kX kR => ?_) | refine z03 ?_ | refine z04 ?_ | refine z09 ?_ | refine z05 ?_ | refine z06 ?_ | (show W _ _ _ (.cond _ _ _) _ _; refine z02 rfl ?_) | (refine hN _ ?_; try clear hN hE hR Qs; (try (conv => arg 6; dsimp only [ovl, List.set, List.map, ren0]))) | ((first | refine hE _ _ ?_ | refine hR _ ?_); try clear hN hE hR Qs) | ((first | refine kN _ ?_ | refine kE _ ?_ | refine kX _ _ rfl ?_ | refine kR _ ?_); try clear kN kE kX kR Qb)) | (refine z0d k1 ?_) | (refine z0d k2 ?_) | (refine ccB ([_]) (c5) ?_) | (refine And.intro (by simp only [List.length_append, List.length_set, List.length_replicate, List.length_cons, List.length_nil]; omega) ?_) | (refine And.intro (by kernel_rfl) ?_) | (refine stpQ ?_))
     refine ⟨(k + 1, q', b', s ++ [u]), ⟨by show k + 1 ≤ min n3 70; omega, by simp [hl], ?_, hle⟩, (by show min n3 70 - (k + 1) < min n3 70 - k; omega), ?_⟩
     ·show RdAt (fSd t w) (sides, q6, b6) (min n3 70 - (k + 1)) (s ++ [u]) q' b'
      rw [show min n3 70 - (k + 1) = m by omega]
      exact hst
     ·(try dsimp only)
      rw [happ]
      (refine z01 (by rfl) ?_ ?_) <;> (repeat' (first | (exact eqA) | (refine And.intro ?_ ?_) | ((fail_if_success (with_reducible (show _ = _))); (show _ = _)))) <;> rfl
    ·have e := hat.stop (by
      cases bd with
      | true => exact .inl rfl
      | false => exact .inr (by have : ¬ k < min n3 70 := fun h => hgo ⟨rfl, h⟩; omega))
     simp only [Prod.mk.injEq] at e
     obtain ⟨e1, e2, e3⟩ := e
     subst e1 e2 e3
     cases b6 with
     | true =>
       by_cases k1 : (k : Int) < (n3 : Int)
       ·by_cases k2 : (k : Int) < 70
        ·repeat ((try conv => whnf); first | (with_reducible first | refine z0a (fun Qs hN hE hR => ?_) | refine z08 ?_ | refine z00 (fun Qb kN kE kX kR => ?_) | refine z03 ?_ | refine z04 ?_ | refine z09 ?_ | refine z05 ?_ | refine z06 ?_ | (show W _ _ _ (.cond _ _ _) _ _; refine z02 rfl ?_) | (refine hN _ ?_; try clear hN hE hR Qs; (try (conv => arg 6; dsimp only [ovl, List.set, List.map, ren0]))) | ((first | refine hE _ _ ?_ | refine hR _ ?_); try clear hN hE hR Qs) | ((first | refine kN _ ?_ | refine kE _ ?_ | refine kX _ _ rfl ?_ | refine kR _ ?_); try clear kN kE kX kR Qb)) | (refine z0d k1 ?_) | (refine z0d k2 ?_) | (refine stpQ ?_))
         (refine z01 (by rfl) ?_ ?_) <;> (repeat' (first | (exact eqA) | (refine And.intro ?_ ?_) | ((fail_if_success (with_reducible (show _ = _))); (show _ = _)))) <;> rfl
        ·repeat ((try conv => whnf); first | (with_reducible first | refine z0a (fun Qs hN hE hR => ?_) | refine z08 ?_ | refine z00 (fun Qb kN kE kX kR => ?_) | refine z03 ?_ | refine z04 ?_ | refine z09 ?_ | refine z05 ?_ | refine z06 ?_ | (show W _ _ _ (.cond _ _ _) _ _; refine z02 rfl ?_) | (refine hN _ ?_; try clear hN hE hR Qs; (try (conv => arg 6; dsimp only [ovl, List.set, List.map, ren0]))) | ((first | refine hE _ _ ?_ | refine hR _ ?_); try clear hN hE hR Qs) | ((first | refine kN _ ?_ | refine kE _ ?_ | refine kX _ _ rfl ?_ | refine kR _ ?_); try clear kN kE kX kR Qb)) | (refine z0d k1 ?_) | (refine z0e k2 ?_) | (refine stpQ ?_))
         (refine z01 (by rfl) ?_ ?_) <;> (repeat' (first | (exact eqA) | (refine And.intro ?_ ?_) | ((fail_if_success (with_reducible (show _ = _))); (show _ = _)))) <;> rfl
       ·repeat ((try conv => whnf); first | (with_reducible first | refine z0a (fun Qs hN hE hR => ?_) | refine z08 ?_ | refine z00 (fun Qb kN kE kX kR => ?_) | refine z03 ?_ | refine z04 ?_ | refine z09 ?_ | refine z05 ?_ | refine z06 ?_ | (show W _ _ _ (.cond _ _ _) _ _; refine z02 rfl ?_) | (refine hN _ ?_; try clear hN hE hR Qs; (try (conv => arg 6; dsimp only [ovl, List.set, List.map, ren0]))) | ((first | refine hE _ _ ?_ | refine hR _ ?_); try clear hN hE hR Qs) | ((first | refine kN _ ?_ | refine kE _ ?_ | refine kX _ _ rfl ?_ | refine kR _ ?_); try clear kN kE kX kR Qb)) | (refine z0e k1 ?_) | (refine stpQ ?_))
        (refine z01 (by rfl) ?_ ?_) <;> (repeat' (first | (exact eqA) | (refine And.intro ?_ ?_) | ((fail_if_success (with_reducible (show _ = _))); (show _ = _)))) <;> rfl
     | false =>
       have hnk : ¬ k < min n3 70 := fun h => hgo ⟨rfl, h⟩
       by_cases k1 : (k : Int) < (n3 : Int)
       ·have k2 : ¬ (k : Int) < 70 := by omega
        repeat ((try conv => whnf); first | (with_reducible first | refine z0a (fun Qs hN hE hR => ?_) | refine z08 ?_ | refine z00 (fun Qb kN kE kX kR => ?_) | refine z03 ?_ | refine z04 ?_ | refine z09 ?_ | refine z05 ?_ | refine z06 ?_ | (show W _ _ _ (.cond _ _ _) _ _; refine z02 rfl ?_) | (refine hN _ ?_; try clear hN hE hR Qs; (try (conv => arg 6; dsimp only [ovl, List.set, List.map, ren0]))) | ((first | refine hE _ _ ?_ | refine hR _ ?_); try clear hN hE hR Qs) | ((first | refine kN _ ?_ | refine kE _ ?_ | refine kX _ _ rfl ?_ | refine kR _ ?_); try clear kN kE kX kR Qb)) | (refine z0d k1 ?_) | (refine z0e k2 ?_) | (refine stpQ ?_))
        (refine z01 (by rfl) ?_ ?_) <;> (repeat' (first | (exact eqA) | (refine And.intro ?_ ?_) | ((fail_if_success (with_reducible (show _ = _))); (show _ = _)))) <;> rfl
       ·repeat ((try conv => whnf); first | (with_reducible first | refine z0a (fun Qs hN hE hR => ?_) | refine z08 ?_ | refine z00 (fun Qb kN kE kX kR => ?_) | refine z03 ?_ | refine z04 ?_ | refine z09 ?_ | refine z05 ?_ | refine z06 ?_ | (show W _ _ _ (.cond _ _ _) _ _; refine z02 rfl ?_) | (refine hN _ ?_; try clear hN hE hR Qs; (try (conv => arg 6; dsimp only [ovl, List.set, List.map, ren0]))) | ((first | refine hE _ _ ?_ | refine hR _ ?_); try clear hN hE hR Qs) | ((first | refine kN _ ?_ | refine kE _ ?_ | refine kX _ _ rfl ?_ | refine kR _ ?_); try clear kN kE kX kR Qb)) | (refine z0e k1 ?_) | (refine stpQ ?_))
        (refine z01 (by rfl) ?_ ?_) <;> (repeat' (first | (exact eqA) | (refine And.intro ?_ ?_) | ((fail_if_success (with_reducible (show _ = _))); (show _ = _)))) <;> rfl
   ·clear hR0 hR2 hR4
    generalize bkG os = bks at *
    generalize okA os = ok at *
    generalize hmb : z26 names bks sides w = mb at *
    have hbk : mb = true → b6 = false → ok = true → fl = decide (z2i names bks sides = t) := fun h1 h2 h3 => by rw [hfl, h1, h2, h3]; simp
    have hno : mb = false → fl = false := fun h => by rw [hfl, h]; simp
    clear hmb
    cases b6 with
    | true =>
      obtain rfl : fl = false := by rw [hfl]; rfl
      clear hfl hbk hno
      repeat ((try conv => whnf); first | (with_reducible first | refine z0a (fun Qs hN hE hR => ?_) | refine z08 ?_ | refine z00 (fun Qb kN kE kX kR => ?_) | refine z03 ?_ | refine z04 ?_ | refine z09 ?_ | refine z05 ?_ | refine z06 ?_ | (show W _ _ _ (.cond _ _ _) _ _; refine z02 rfl ?_) | (refine hN _ ?_; try clear hN hE hR Qs; (try (conv => arg 6; dsimp only [ovl, List.set, List.map, ren0]))) | ((first | refine hE _ _ ?_ | refine hR _ ?_); try clear hN hE hR Qs) | ((first | refine kN _ ?_ | refine kE _ ?_ | refine kX _ _ rfl ?_ | refine kR _ ?_); try clear kN kE kX kR Qb)) | (refine ccA ([]) (cT) ?_) | (refine And.intro (by kernel_rfl) ?_) | (refine stpQ ?_))
      (refine z07 (by rfl) ?_ ?_ (by rfl)) <;> (repeat' (first | (exact eqA) | (refine And.intro ?_ ?_) | ((fail_if_success (with_reducible (show _ = _))); (show _ = _)))) <;> rfl
    | false =>
      cases ok with
      | false =>
        obtain rfl : fl = false := by rw [hfl]; rfl
        clear hfl hbk hno
        repeat ((try conv => whnf); first | (with_reducible first | refine z0a (fun Qs hN hE hR => ?_) | refine z08 ?_ | refine z00 (fun Qb kN kE kX kR => ?_) | refine z03 ?_ | refine z04 ?_ | refine z09 ?_ | refine z05 ?_ | refine z06 ?_ | (show W _ _ _ (.cond _ _ _) _ _; refine z02 rfl ?_) | (refine hN _ ?_; try clear hN hE hR Qs; (try (conv => arg 6; dsimp only [ovl, List.set, List.map, ren0]))) | ((first | refine hE _ _ ?_ | refine hR _ ?_); try clear hN hE hR Qs) | ((first | refine kN _ ?_ | refine kE _ ?_ | refine kX _ _ rfl ?_ | refine kR _ ?_); try clear kN kE kX kR Qb)) | (refine ccA ([]) (cT) ?_) | (refine And.intro (by kernel_rfl) ?_) | (refine stpQ ?_))
        (refine z07 (by rfl) ?_ ?_ (by rfl)) <;> (repeat' (first | (exact eqA) | (refine And.intro ?_ ?_) | ((fail_if_success (with_reducible (show _ = _))); (show _ = _)))) <;> rfl
      | true =>
        cases mb with
        | false =>
          obtain rfl : fl = false := hno rfl
          clear hfl hbk hno
          repeat ((try conv => whnf); first | (with_reducible first | refine z0a (fun Qs hN hE hR => ?_) | refine z08 ?_ | refine z00 (fun Qb kN kE kX kR => ?_) | refine z03 ?_ | refine z04 ?_ | refine z09 ?_ | refine z05 ?_ | refine z06 ?_ | (show W _ _ _ (.cond _ _ _) _ _; refine z02 rfl ?_) | (refine hN _ ?_; try clear hN hE hR Qs; (try (conv => arg 6; dsimp only [ovl, List.set, List.map, ren0]))) | ((first | refine hE _ _ ?_ | refine hR _ ?_); try clear hN hE hR Qs) | ((first | refine kN _ ?_ | refine kE _ ?_ | refine kX _ _ rfl ?_ | refine kR _ ?_); try clear kN kE kX kR Qb)) | (refine ccA ([]) (cT) ?_) | (refine And.intro (by kernel_rfl) ?_) | (refine stpQ ?_))
          (refine z07 (by rfl) ?_ ?_ (by rfl)) <;> (repeat' (first | (exact eqA) | (refine And.intro ?_ ?_) | ((fail_if_success (with_reducible (show _ = _))); (show _ = _)))) <;> rfl
        | true =>
          change CT _ _ _ _ (.tup [.str (z2i names bks sides), .bool true]) _ at cT
          have hbk2 := hbk rfl rfl rfl
          clear hbk hfl hno
          generalize z2i names bks sides = mt at *
          by_cases hb : mt = t
          ·obtain rfl : fl = true := by rw [hbk2]; exact decide_eq_true hb
           repeat ((try conv => whnf); first | (with_reducible first | refine z0a (fun Qs hN hE hR => ?_) | refine z08 ?_ | refine z00 (fun Qb kN kE kX kR => ?_) | refine z03 ?_ | refine z04 ?_ | refine z09 ?_ | refine z05 ?_ | refine z06 ?_ | (show W _ _ _ (.cond _ _ _) _ _; refine z02 rfl ?_) | (refine hN _ ?_; try clear hN hE hR Qs; (try (conv => arg 6; dsimp only [ovl, List.set, List.map, ren0]))) | ((first | refine hE _ _ ?_ | refine hR _ ?_); try clear hN hE hR Qs) | ((first | refine kN _ ?_ | refine kE _ ?_ | refine kX _ _ rfl ?_ | refine kR _ ?_); try clear kN kE kX kR Qb)) | (refine ccA ([]) (cT) ?_) | (refine z2k hb ?_) | (refine And.intro (by kernel_rfl) ?_) | (refine stpQ ?_))
           (refine z07 (by rfl) ?_ ?_ (by rfl)) <;> (repeat' (first | (exact eqA) | (refine And.intro ?_ ?_) | ((fail_if_success (with_reducible (show _ = _))); (show _ = _)))) <;> rfl
          ·obtain rfl : fl = false := by rw [hbk2]; exact decide_eq_false hb
           repeat ((try conv => whnf); first | (with_reducible first | refine z0a (fun Qs hN hE hR => ?_) | refine z08 ?_ | refine z00 (fun Qb kN kE kX kR => ?_) | refine z03 ?_ | refine z04 ?_ | refine z09 ?_ | refine z05 ?_ | refine z06 ?_ | (show W _ _ _ (.cond _ _ _) _ _; refine z02 rfl ?_) | (refine hN _ ?_; try clear hN hE hR Qs; (try (conv => arg 6; dsimp only [ovl, List.set, List.map, ren0]))) | ((first | refine hE _ _ ?_ | refine hR _ ?_); try clear hN hE hR Qs) | ((first | refine kN _ ?_ | refine kE _ ?_ | refine kX _ _ rfl ?_ | refine kR _ ?_); try clear kN kE kX kR Qb)) | (refine ccA ([]) (cT) ?_) | (refine z54 hb ?_) | (refine And.intro (by kernel_rfl) ?_) | (refine stpQ ?_))
           (refine z07 (by rfl) ?_ ?_ (by rfl)) <;> (repeat' (first | (exact eqA) | (refine And.intro ?_ ?_) | ((fail_if_success (with_reducible (show _ = _))); (show _ = _)))) <;> rfl
end
end Go.Proofs.YtnhcfmmdaihneaaGreatDoor
