/- Functions by content: the program reads proofs of many. Functions by content: the reference reads proofs of many. Functions by content: both sides read any text of a proof of several names. -/
import Derived.Test.YtfjbinbpgdiafaaGreatDoorMtz
import Derived.Test.YtfjbinbpgdiafaaGreatDoorGg
import Derived.Test.YtfjbinbpgdiafaaGreatDoorSrl
namespace Go.Proofs.YtfjbinbpgdiafaaGreatDoor
set_option linter.unusedVariables false
set_option linter.unusedSimpArgs false
set_option linter.unusedSectionVars false
open Go.RowKit Pl
section
attribute [local irreducible] z0t z0u z0A AnsP LeP W CvE
theorem z7x (t : Bs) (ht : (t.length : Int) ≤ 1000000000) : CT Tryz.prog 87 [] [.str t] (.tup [.ref 1, .bool (z0V t).isSome]) [.deep 2 (lvE ((z0V t).getD [])) []] :=
 zcU 0 (z8a t ht) rfl (by decide) (cl_lv _)
theorem cl_stM (l : List Bs) : ∀ e ∈ strE l, ∀ c ∈ e, cl0 c := fun e he c hc => by
 simp only [strE, List.mem_map] at he
 obtain ⟨x, _, rfl⟩ := he
 simp only [List.mem_singleton] at hc
 subst hc; trivial
theorem zbl (t : Bs) (q : Nat) : (z0m t q false).1.length ≤ 20000 := by
 unfold z0m
 rcases hr : z0n t q with _ | ⟨l, c⟩
 ·simp
 ·exact (z1k hr).2.2
theorem min9 (n : Nat) : ((min n 9 : Nat) : Int) = if (9 : Int) < (n : Int) then 9 else (n : Int) := by split <;> omega
set_option maxRecDepth 100000 in
set_option maxHeartbeats 16000000 in
theorem z5I (t : Bs) (w : Int) (ht : t.length ≤ 2000000) (n1 q1 : Nat) (b1 : Bool) (names : List Bs) (q2 : Nat) (b2 : Bool) (n2 q3 : Nat) (b3 : Bool) (bks : List (List Lf)) (q4 : Nat) (b4 : Bool) (n3 q5 : Nat) (b5 : Bool) (sides : List Bs) (q6 : Nat) (b6 : Bool)
 (h1 : z1w t 0 false = (n1, q1, b1)) (hR0 : rdL (fNm t) (min n1 9) q1 b1 = (names, q2, b2)) (h2 : z1w t q2 b2 = (n2, q3, b3)) (hR2 : rdL (fBk t) (min n2 9) q3 b3 = (bks, q4, b4)) (h3 : z1w t q4 b4 = (n3, q5, b5)) (hR4 : rdL (fSd t w) n3 q5 b5 = (sides, q6, b6))
 (fl : Bool) (hfl : fl = (inB w 1 32 && (z3b b6 q6 t.length && (z15 names bks sides w && decide (z1Z names bks sides = t))))) :
 CT Tryz.prog 25 [] [.str t, .int .i64 w] (.tup [.agg [.ref 1, .ref 2, .ref 3], .bool fl]) [.deep 1 (strE (bif fl then names else [])) [], .deep 1 (vwD (bif fl then bks else [])) [], .deep 1 (strE (bif fl then sides else [])) []] := by
 have ht' : (t.length : Int) ≤ 1000000000 := by omega
 have cW := z3L w
 cases hw : inB w 1 32 with
 | false =>
   rw [hw] at cW hfl
   obtain rfl : fl = false := by rw [hfl]; rfl
   refine z0b z0p 1 rfl Tryz.func25 rfl rfl rfl ?_
   conv => arg 6; whnf
   repeat ((try conv => whnf); first | (with_reducible first | refine z0a (fun Qs hN hE hR => ?_) | refine z08 ?_ | refine z00 (fun Qb kN kE kX kR => ?_) | refine z04 ?_ | refine z05 ?_ | refine z09 ?_ | refine z06 ?_ | refine z07 ?_ | (show W _ _ _ (.cond _ _ _) _ _; refine z03 rfl ?_) | (refine hN _ ?_; try clear hN hE hR Qs; (try (conv => arg 6; dsimp only [ovl, List.set, List.map, ren0]))) | ((first | refine hE _ _ ?_ | refine hR _ ?_); try clear hN hE hR Qs) | ((first | refine kN _ ?_ | refine kE _ ?_ | refine kX _ _ rfl ?_ | refine kR _ ?_); try clear kN kE kX kR Qb)) | (refine ccA ([]) (cW) ?_) | (refine And.intro (by kernel_rfl) ?_) | (refine stpQ ?_))
   (refine z02 (by rfl) ?_ ?_ (by rfl)) <;> (repeat' (first | (exact eqA) | (refine And.intro ?_ ?_) | ((fail_if_success (with_reducible (show _ = _))); (show _ = _)))) <;> first | rfl | decide
 | true =>
 rw [hw] at cW hfl
 have hwi := z1b.1 hw
 obtain ⟨wn, rfl⟩ : ∃ n : Nat, w = n := ⟨w.toNat, by omega⟩
 rw [Bool.true_and] at hfl
 have c1 := zdC t 0 false ht' (Nat.zero_le _)
 have lq0 := (z2V (t := t) (p := 0) (bad := false) (Nat.zero_le _)).1
 rw [h1] at c1 lq0
 simp only at c1 lq0
 have lS : ∀ q, q ≤ t.length → (z0m t q false).2.1 ≤ t.length := fun q h => (z0L h).1
 have lq2' := z5D (f := fNm t) (N := t.length) lS (min n1 9) q1 b1 lq0
 rw [hR0] at lq2'
 simp only at lq2'
 have c2 := zdC t q2 b2 ht' lq2'
 have lq2 := (z2V (t := t) (p := q2) (bad := b2) lq2').1
 rw [h2] at c2 lq2
 simp only at c2 lq2
 have lq4' := z5D (f := fBk t) (N := t.length) lS (min n2 9) q3 b3 lq2
 rw [hR2] at lq4'
 simp only at lq4'
 have c3 := zdC t q4 b4 ht' lq4'
 have lq4 := z2V (t := t) (p := q4) (bad := b4) lq4'
 rw [h3] at c3 lq4
 simp only at c3 lq4
 obtain ⟨lq4, ln3⟩ := lq4
 have lT : ∀ q, q ≤ t.length → (fSd t (wn : Int) q).2.1 ≤ t.length := fun q h => z5t h
 have lq6 := z5D (f := fSd t (wn : Int)) (N := t.length) lT n3 q5 b5 lq4
 have hct := zcX (f := fSd t (wn : Int)) (fun q => by
  rw [zcZ]
  have := zbj t wn q
  exact ⟨this.1, fun h => by have := this.2 h; omega⟩) n3 q5 b5
 rw [hR4] at lq6 hct
 simp only at lq6 hct
 have hN1 := z48 (fNm t) (min n1 9) q1 b1
 have hN2 := z5E (f := fNm t) (P := fun s => (s.length : Int) ≤ 100000000) (fun q => by
  have := zbl t q
  show ((z0m t q false).1.length : Int) ≤ _
  omega) (min n1 9) q1 b1
 rw [hR0] at hN1 hN2
 simp only at hN1 hN2
 have hB1 := z48 (fBk t) (min n2 9) q3 b3
 have hB2 := z5E (f := fBk t) (P := fun b => leavesOk b = true) (fun q => z8r) (min n2 9) q3 b3
 rw [hR2] at hB1 hB2
 simp only at hB1 hB2
 have cT := z9n names bks sides (wn : Int) (by omega) hN2 (by omega) hB2 (by omega)
 rw [bkE_vw, ← zdZ] at cT
 have cD := zep t q6 b6
 have m1 := min9 n1
 have m2 := min9 n2
 clear hct hN1 hN2 hB1 hB2 h1 h2 h3 lS lT hw
 unfold fldB at c1 c2 c3 cD
 refine z0b z0p 1 rfl Tryz.func25 rfl rfl rfl ?_
 conv => arg 6; whnf
 repeat ((try conv => whnf); first | (with_reducible first | refine z0a (fun Qs hN hE hR => ?_) | refine z08 ?_ | refine z00 (fun Qb kN kE kX kR => ?_) | refine z04 ?_ | refine z05 ?_ | refine z09 ?_ | refine z06 ?_ | refine z07 ?_ | (show W _ _ _ (.cond _ _ _) _ _; refine z03 rfl ?_) | (refine hN _ ?_; try clear hN hE hR Qs; (try (conv => arg 6; dsimp only [ovl, List.set, List.map, ren0]))) | ((first | refine hE _ _ ?_ | refine hR _ ?_); try clear hN hE hR Qs) | ((first | refine kN _ ?_ | refine kE _ ?_ | refine kX _ _ rfl ?_ | refine kR _ ?_); try clear kN kE kX kR Qb)) | (refine ccA ([]) (cW) ?_) | (refine ccB ([_]) (c1) ?_) | (refine Exists.intro ((min n1 9 : Nat) : Int) (And.intro m1 ?_)) | (refine And.intro (by kernel_rfl) ?_) | (refine stpQ ?_))
 refine z0g 0 ⟨[(0, .str t), (1, .int .i64 (wn : Int)), (4, .ptr 1 0 0), (6, .ptr 2 0 0), (7, .ptr 3 0 0)], [(1, some (.box [.val nilV, .val nilV, .val nilV])), (2, some (.box [.str t, .int .i64 (q2 : Int), .bool b2])), (3, some (.box [.ref 4, .val nilV, .val nilV])), (4, some (.row 1 (strE names)))], 5⟩ (Nat × Nat × Bool × List Bs) (fun x => ⟨[(0, .str t), (1, .int .i64 (wn : Int)), (4, .ptr 1 0 0), (6, .ptr 2 0 0), (7, .ptr 3 0 0), (8, .int .i64 (x.1 : Int))], [(1, some (.box [.val nilV, .val nilV, .val nilV])), (2, some (.box [.str t, .int .i64 (x.2.1 : Int), .bool x.2.2.1])), (3, some (.box [.ref 4, .val nilV, .val nilV])), (4, some (.row 1 (strE x.2.2.2)))], 5⟩) (fun x => x.1 ≤ min n1 9 ∧ x.2.2.2.length + x.1 = min n1 9 ∧ RdAt (fNm t) (names, q2, b2) x.1 x.2.2.2 x.2.1 x.2.2.1 ∧ x.2.1 ≤ t.length) (fun x => x.1) (min n1 9, q1, b1, []) ⟨Nat.le_refl _, by simp, by unfold RdAt; rw [hR0]; rfl, lq0⟩ ?_ ?_ ?_
 ·(refine z01 (by rfl) ?_ ?_)
  all_goals (repeat' (first | (exact trivial) | ((try conv => whnf); first | (exact trivial) | (refine And.intro ?_ ?_))))
  all_goals first
   | rfl
   | decide
 ·intro x hx
  obtain ⟨k, q, bd, s⟩ := x
  obtain ⟨hk, hl, hat, hq⟩ := hx
  dsimp only at hk hl hat hq ⊢
  have hll := z0h s
  by_cases hgo : bd = false ∧ 0 < k
  ·obtain ⟨rfl, hlt⟩ := hgo
   obtain ⟨m, rfl⟩ : ∃ m, k = m + 1 := ⟨k - 1, by omega⟩
   have k1 : ((m + 1 : Nat) : Int) > 0 := by omega
   have c5 := z77 t q false ht' hq
   have hle := (z0L (t := t) (p := q) (bad := false) hq).1
   rcases hTk : z0m t q false with ⟨u, q', b'⟩
   have hst := hat.step (u := u) (q1 := q') (b1 := b') hTk
   rw [hTk] at c5 hle
   dsimp only at c5 hle
   have happ := z1H s u
   unfold fldB at c5
   repeat ((try conv => whnf); first | (with_reducible first | refine z0a (fun Qs hN hE hR => ?_) | refine z08 ?_ | refine z00 (fun Qb kN kE kX kR => ?_) | refine z04 ?_ | refine z05 ?_ | refine z09 ?_ | refine z06 ?_ | refine z07 ?_ | (show W _ _ _ (.cond _ _ _) _ _; refine z03 rfl ?_) | (refine hN _ ?_; try clear hN hE hR Qs; (try (conv => arg 6; dsimp only [ovl, List.set, List.map, ren0]))) | ((first | refine hE _ _ ?_ | refine hR _ ?_); try clear hN hE hR Qs) | ((first | refine kN _ ?_ | refine kE _ ?_ | refine kX _ _ rfl ?_ | refine kR _ ?_); try clear kN kE kX kR Qb)) | (refine z0c k1 ?_) | (refine ccB ([_]) (c5) ?_) | (refine And.intro (by simp only [List.length_append, List.length_set, List.length_replicate, List.length_cons, List.length_nil]; omega) ?_) | (refine And.intro (by kernel_rfl) ?_) | (refine stpQ ?_))
   refine ⟨(m, q', b', s ++ [u]), ⟨by show m ≤ min n1 9; omega, by simp; omega, hst, hle⟩, (by show m < m + 1; omega), ?_⟩
   (try dsimp only)
   rw [happ]
   (refine z01 (by rfl) ?_ ?_) <;> (repeat' (first | (exact eqA) | (refine And.intro ?_ ?_) | ((fail_if_success (with_reducible (show _ = _))); (show _ = _)))) <;> rfl
  ·have e := hat.stop (by
    cases bd with
    | true => exact .inl rfl
    | false => exact .inr (by have : ¬ 0 < k := fun h => hgo ⟨rfl, h⟩; omega))
   simp only [Prod.mk.injEq] at e
   obtain ⟨e1, e2, e3⟩ := e
   subst e1 e2 e3
   by_cases hk0 : (k : Int) > 0
   ·obtain rfl : b2 = true := by
     cases b2 with
     | true => rfl
     | false => exact absurd ⟨rfl, by omega⟩ hgo
    repeat ((try conv => whnf); first | (with_reducible first | refine z0a (fun Qs hN hE hR => ?_) | refine z08 ?_ | refine z00 (fun Qb kN kE kX kR => ?_) | refine z04 ?_ | refine z05 ?_ | refine z09 ?_ | refine z06 ?_ | refine z07 ?_ | (show W _ _ _ (.cond _ _ _) _ _; refine z03 rfl ?_) | (refine hN _ ?_; try clear hN hE hR Qs; (try (conv => arg 6; dsimp only [ovl, List.set, List.map, ren0]))) | ((first | refine hE _ _ ?_ | refine hR _ ?_); try clear hN hE hR Qs) | ((first | refine kN _ ?_ | refine kE _ ?_ | refine kX _ _ rfl ?_ | refine kR _ ?_); try clear kN kE kX kR Qb)) | (refine z0c hk0 ?_) | (refine stpQ ?_))
    (refine z01 (by rfl) ?_ ?_) <;> (repeat' (first | (exact eqA) | (refine And.intro ?_ ?_) | ((fail_if_success (with_reducible (show _ = _))); (show _ = _)))) <;> rfl
   ·repeat ((try conv => whnf); first | (with_reducible first | refine z0a (fun Qs hN hE hR => ?_) | refine z08 ?_ | refine z00 (fun Qb kN kE kX kR => ?_) | refine z04 ?_ | refine z05 ?_ | refine z09 ?_ | refine z06 ?_ | refine z07 ?_ | (show W _ _ _ (.cond _ _ _) _ _; refine z03 rfl ?_) | (refine hN _ ?_; try clear hN hE hR Qs; (try (conv => arg 6; dsimp only [ovl, List.set, List.map, ren0]))) | ((first | refine hE _ _ ?_ | refine hR _ ?_); try clear hN hE hR Qs) | ((first | refine kN _ ?_ | refine kE _ ?_ | refine kX _ _ rfl ?_ | refine kR _ ?_); try clear kN kE kX kR Qb)) | (refine z0d hk0 ?_) | (refine stpQ ?_))
    (refine z01 (by rfl) ?_ ?_) <;> (repeat' (first | (exact eqA) | (refine And.intro ?_ ?_) | ((fail_if_success (with_reducible (show _ = _))); (show _ = _)))) <;> rfl
 ·repeat ((try conv => whnf); first | (with_reducible first | refine z0a (fun Qs hN hE hR => ?_) | refine z08 ?_ | refine z00 (fun Qb kN kE kX kR => ?_) | refine z04 ?_ | refine z05 ?_ | refine z09 ?_ | refine z06 ?_ | refine z07 ?_ | (show W _ _ _ (.cond _ _ _) _ _; refine z03 rfl ?_) | (refine hN _ ?_; try clear hN hE hR Qs; (try (conv => arg 6; dsimp only [ovl, List.set, List.map, ren0]))) | ((first | refine hE _ _ ?_ | refine hR _ ?_); try clear hN hE hR Qs) | ((first | refine kN _ ?_ | refine kE _ ?_ | refine kX _ _ rfl ?_ | refine kR _ ?_); try clear kN kE kX kR Qb)) | (refine ccB ([_]) (c2) ?_) | (refine Exists.intro ((min n2 9 : Nat) : Int) (And.intro m2 ?_)) | (refine And.intro (by kernel_rfl) ?_) | (refine stpQ ?_))
  refine z0g 2 ⟨[(0, .str t), (1, .int .i64 (wn : Int)), (4, .ptr 1 0 0), (6, .ptr 2 0 0), (7, .ptr 3 0 0)], [(1, some (.box [.val nilV, .val nilV, .val nilV])), (2, some (.box [.str t, .int .i64 (q4 : Int), .bool b4])), (3, some (.box [.ref 4, .ref 5, .val nilV])), (4, some (.row 1 (strE names))), (5, some (.deep 1 (vwD bks) []))], 6⟩ (Nat × Nat × Bool × List (List Lf)) (fun x => ⟨[(0, .str t), (1, .int .i64 (wn : Int)), (4, .ptr 1 0 0), (6, .ptr 2 0 0), (7, .ptr 3 0 0), (9, .int .i64 (x.1 : Int))], [(1, some (.box [.val nilV, .val nilV, .val nilV])), (2, some (.box [.str t, .int .i64 (x.2.1 : Int), .bool x.2.2.1])), (3, some (.box [.ref 4, .ref 5, .val nilV])), (4, some (.row 1 (strE names))), (5, some (.deep 1 (vwD x.2.2.2) []))], 6⟩) (fun x => x.1 ≤ min n2 9 ∧ x.2.2.2.length + x.1 = min n2 9 ∧ RdAt (fBk t) (bks, q4, b4) x.1 x.2.2.2 x.2.1 x.2.2.1 ∧ x.2.1 ≤ t.length) (fun x => x.1) (min n2 9, q3, b3, []) ⟨Nat.le_refl _, by simp, by unfold RdAt; rw [hR2]; rfl, lq2⟩ ?_ ?_ ?_
  ·(refine z01 (by rfl) ?_ ?_)
   all_goals (repeat' (first | (exact trivial) | ((try conv => whnf); first | (exact trivial) | (refine And.intro ?_ ?_))))
   all_goals first
    | rfl
    | decide
    | exact CvE.nil _
  ·intro x hx
   obtain ⟨k, q, bd, s⟩ := x
   obtain ⟨hk, hl, hat, hq⟩ := hx
   dsimp only at hk hl hat hq ⊢
   have hll := zcW s
   by_cases hgo : bd = false ∧ 0 < k
   ·obtain ⟨rfl, hlt⟩ := hgo
    obtain ⟨m, rfl⟩ : ∃ m, k = m + 1 := ⟨k - 1, by omega⟩
    have k1 : ((m + 1 : Nat) : Int) > 0 := by omega
    have c5 := z77 t q false ht' hq
    have hle := (z0L (t := t) (p := q) (bad := false) hq).1
    have hul := (z0L (t := t) (p := q) (bad := false) hq).2
    have hst := hat.step (u := (fBk t q).1) (q1 := (fBk t q).2.1) (b1 := (fBk t q).2.2) rfl
    unfold fBk at hst
    rcases hTk : z0m t q false with ⟨u, q', b'⟩
    rw [hTk] at c5 hle hul hst
    dsimp only at c5 hle hul hst
    have c6 := z7x u (by omega)
    have happ := zfw s ((z0V u).getD [])
    generalize (z0V u).getD [] = lv at *
    generalize (z0V u).isSome = og at *
    unfold fldB at c5
    cases b' <;> cases og
    all_goals
     repeat ((try conv => whnf); first | (with_reducible first | refine z0a (fun Qs hN hE hR => ?_) | refine z08 ?_ | refine z00 (fun Qb kN kE kX kR => ?_) | refine z04 ?_ | refine z05 ?_ | refine z09 ?_ | refine z06 ?_ | refine z07 ?_ | (show W _ _ _ (.cond _ _ _) _ _; refine z03 rfl ?_) | (refine hN _ ?_; try clear hN hE hR Qs; (try (conv => arg 6; dsimp only [ovl, List.set, List.map, ren0]))) | ((first | refine hE _ _ ?_ | refine hR _ ?_); try clear hN hE hR Qs) | ((first | refine kN _ ?_ | refine kE _ ?_ | refine kX _ _ rfl ?_ | refine kR _ ?_); try clear kN kE kX kR Qb)) | (refine z0c k1 ?_) | (refine ccB ([_]) (c5) ?_) | (refine ccA ([]) (c6) ?_) | (refine And.intro (by simp only [List.length_append, List.length_set, List.length_replicate, List.length_cons, List.length_nil]; omega) ?_) | (refine And.intro (by kernel_rfl) ?_) | (refine stpQ ?_))
     refine ⟨(m, q', _, s ++ [lv]), ⟨by show m ≤ min n2 9; omega, by simp; omega, hst, hle⟩, (by show m < m + 1; omega), ?_⟩
     (try dsimp only)
     rw [happ]
     (refine z01 (by rfl) ?_ ?_) <;> (repeat' (first | (exact eqA) | (refine And.intro ?_ ?_) | ((fail_if_success (with_reducible (show _ = _))); (show _ = _)))) <;> rfl
   ·have e := hat.stop (by
     cases bd with
     | true => exact .inl rfl
     | false => exact .inr (by have : ¬ 0 < k := fun h => hgo ⟨rfl, h⟩; omega))
    simp only [Prod.mk.injEq] at e
    obtain ⟨e1, e2, e3⟩ := e
    subst e1 e2 e3
    by_cases hk0 : (k : Int) > 0
    ·obtain rfl : b4 = true := by
      cases b4 with
      | true => rfl
      | false => exact absurd ⟨rfl, by omega⟩ hgo
     repeat ((try conv => whnf); first | (with_reducible first | refine z0a (fun Qs hN hE hR => ?_) | refine z08 ?_ | refine z00 (fun Qb kN kE kX kR => ?_) | refine z04 ?_ | refine z05 ?_ | refine z09 ?_ | refine z06 ?_ | refine z07 ?_ | (show W _ _ _ (.cond _ _ _) _ _; refine z03 rfl ?_) | (refine hN _ ?_; try clear hN hE hR Qs; (try (conv => arg 6; dsimp only [ovl, List.set, List.map, ren0]))) | ((first | refine hE _ _ ?_ | refine hR _ ?_); try clear hN hE hR Qs) | ((first | refine kN _ ?_ | refine kE _ ?_ | refine kX _ _ rfl ?_ | refine kR _ ?_); try clear kN kE kX kR Qb)) | (refine z0c hk0 ?_) | (refine stpQ ?_))
     (refine z01 (by rfl) ?_ ?_) <;> (repeat' (first | (exact eqA) | (refine And.intro ?_ ?_) | ((fail_if_success (with_reducible (show _ = _))); (show _ = _)))) <;> rfl
    ·repeat ((try conv => whnf); first | (with_reducible first | refine z0a (fun Qs hN hE hR => ?_) | refine z08 ?_ | refine z00 (fun Qb kN kE kX kR => ?_) | refine z04 ?_ | refine z05 ?_ | refine z09 ?_ | refine z06 ?_ | refine z07 ?_ | (show W _ _ _ (.cond _ _ _) _ _; refine z03 rfl ?_) | (refine hN _ ?_; try clear hN hE hR Qs; (try (conv => arg 6; dsimp only [ovl, List.set, List.map, ren0]))) | ((first | refine hE _ _ ?_ | refine hR _ ?_); try clear hN hE hR Qs) | ((first | refine kN _ ?_ | refine kE _ ?_ | refine kX _ _ rfl ?_ | refine kR _ ?_); try clear kN kE kX kR Qb)) | (refine z0d hk0 ?_) | (refine stpQ ?_))
     (refine z01 (by rfl) ?_ ?_) <;> (repeat' (first | (exact eqA) | (refine And.intro ?_ ?_) | ((fail_if_success (with_reducible (show _ = _))); (show _ = _)))) <;> rfl
  ·repeat ((try conv => whnf); first | (with_reducible first | refine z0a (fun Qs hN hE hR => ?_) | refine z08 ?_ | refine z00 (fun Qb kN kE kX kR => ?_) | refine z04 ?_ | refine z05 ?_ | refine z09 ?_ | refine z06 ?_ | refine z07 ?_ | (show W _ _ _ (.cond _ _ _) _ _; refine z03 rfl ?_) | (refine hN _ ?_; try clear hN hE hR Qs; (try (conv => arg 6; dsimp only [ovl, List.set, List.map, ren0]))) | ((first | refine hE _ _ ?_ | refine hR _ ?_); try clear hN hE hR Qs) | ((first | refine kN _ ?_ | refine kE _ ?_ | refine kX _ _ rfl ?_ | refine kR _ ?_); try clear kN kE kX kR Qb)) | (refine ccB ([_]) (c3) ?_) | (refine And.intro (by kernel_rfl) ?_) | (refine stpQ ?_))
   refine z0g 4 ⟨[(0, .str t), (1, .int .i64 (wn : Int)), (4, .ptr 1 0 0), (6, .ptr 2 0 0), (7, .ptr 3 0 0)], [(1, some (.box [.val nilV, .val nilV, .val nilV])), (2, some (.box [.str t, .int .i64 (q6 : Int), .bool b6])), (3, some (.box [.ref 4, .ref 5, .ref 6])), (4, some (.row 1 (strE names))), (5, some (.deep 1 (vwD bks) [])), (6, some (.row 1 (strE sides)))], 7⟩ (Nat × Nat × Bool × List Bs) (fun x => ⟨[(0, .str t), (1, .int .i64 (wn : Int)), (4, .ptr 1 0 0), (6, .ptr 2 0 0), (7, .ptr 3 0 0), (12, .int .i64 (n3 : Int)), (13, .int .i64 ((n3 - x.1 : Nat) : Int))], [(1, some (.box [.val nilV, .val nilV, .val nilV])), (2, some (.box [.str t, .int .i64 (x.2.1 : Int), .bool x.2.2.1])), (3, some (.box [.ref 4, .ref 5, .ref 6])), (4, some (.row 1 (strE names))), (5, some (.deep 1 (vwD bks) [])), (6, some (.row 1 (strE x.2.2.2)))], 7⟩) (fun x => x.1 ≤ n3 ∧ x.2.2.2.length + x.1 = n3 ∧ RdAt (fSd t (wn : Int)) (sides, q6, b6) x.1 x.2.2.2 x.2.1 x.2.2.1 ∧ x.2.1 ≤ t.length) (fun x => x.1) (n3, q5, b5, []) ⟨Nat.le_refl _, by simp, by unfold RdAt; rw [hR4]; rfl, lq4⟩ ?_ ?_ ?_
   ·(try dsimp only)
    rw [Nat.sub_self]
    (refine z01 (by rfl) ?_ ?_)
    all_goals (repeat' (first | (exact trivial) | ((try conv => whnf); first | (exact trivial) | (refine And.intro ?_ ?_))))
    all_goals first
     | rfl
     | decide
   ·intro x hx
    obtain ⟨k, q, bd, s⟩ := x
    obtain ⟨hk, hl, hat, hq⟩ := hx
    dsimp only at hk hl hat hq ⊢
    have hll := z0h s
    by_cases hgo : bd = false ∧ 0 < k
    ·obtain ⟨rfl, hlt⟩ := hgo
     obtain ⟨m, rfl⟩ : ∃ m, k = m + 1 := ⟨k - 1, by omega⟩
     obtain ⟨j, hj⟩ : ∃ j, j = n3 - (m + 1) := ⟨_, rfl⟩
     have hj2 : n3 - m = j + 1 := by omega
     rw [← hj]
     have k1 : (j : Int) < (n3 : Int) := by omega
     have c5 := zfr t q false wn ht' hq
     have hle := z6w (t := t) (p := q) (n := wn) (b := false) hq
     rcases hTk : z0z t q false wn with ⟨u, q', b'⟩
     have hst := hat.step (u := u) (q1 := q') (b1 := b') (by rw [zcZ]; exact hTk)
     rw [hTk] at c5 hle
     dsimp only at c5 hle
     have happ := z1H s u
     unfold fldB at c5
     repeat ((try conv => whnf); first | (with_reducible first | refine z0a (fun Qs hN hE hR => ?_) | refine z08 ?_ | refine z00 (fun Qb kN kE kX kR => ?_) | refine z04 ?_ | refine z05 ?_ | refine z09 ?_ | refine z06 ?_ | refine z07 ?_ | (show W _ _ _ (.cond _ _ _) _ _; refine z03 rfl ?_) | (refine hN _ ?_; try clear hN hE hR Qs; (try (conv => arg 6; dsimp only [ovl, List.set, List.map, ren0]))) | ((first | refine hE _ _ ?_ | refine hR _ ?_); try clear hN hE hR Qs) | ((first | refine kN _ ?_ | refine kE _ ?_ | refine kX _ _ rfl ?_ | refine kR _ ?_); try clear kN kE kX kR Qb)) | (refine z0c k1 ?_) | (refine ccB ([_]) (c5) ?_) | (refine And.intro (by simp only [List.length_append, List.length_set, List.length_replicate, List.length_cons, List.length_nil]; omega) ?_) | (refine And.intro (by kernel_rfl) ?_) | (refine stpQ ?_))
     refine ⟨(m, q', b', s ++ [u]), ⟨by show m ≤ n3; omega, by simp; omega, hst, hle⟩, (by show m < m + 1; omega), ?_⟩
     (try dsimp only)
     rw [happ, hj2]
     (refine z01 (by rfl) ?_ ?_) <;> (repeat' (first | (exact eqA) | (refine And.intro ?_ ?_) | ((fail_if_success (with_reducible (show _ = _))); (show _ = _)))) <;> rfl
    ·have e := hat.stop (by
      cases bd with
      | true => exact .inl rfl
      | false => exact .inr (by have : ¬ 0 < k := fun h => hgo ⟨rfl, h⟩; omega))
     simp only [Prod.mk.injEq] at e
     obtain ⟨e1, e2, e3⟩ := e
     subst e1 e2 e3
     by_cases hk0 : ((n3 - k : Nat) : Int) < (n3 : Int)
     ·obtain rfl : b6 = true := by
       cases b6 with
       | true => rfl
       | false => exact absurd ⟨rfl, by omega⟩ hgo
      repeat ((try conv => whnf); first | (with_reducible first | refine z0a (fun Qs hN hE hR => ?_) | refine z08 ?_ | refine z00 (fun Qb kN kE kX kR => ?_) | refine z04 ?_ | refine z05 ?_ | refine z09 ?_ | refine z06 ?_ | refine z07 ?_ | (show W _ _ _ (.cond _ _ _) _ _; refine z03 rfl ?_) | (refine hN _ ?_; try clear hN hE hR Qs; (try (conv => arg 6; dsimp only [ovl, List.set, List.map, ren0]))) | ((first | refine hE _ _ ?_ | refine hR _ ?_); try clear hN hE hR Qs) | ((first | refine kN _ ?_ | refine kE _ ?_ | refine kX _ _ rfl ?_ | refine kR _ ?_); try clear kN kE kX kR Qb)) | (refine z0c hk0 ?_) | (refine stpQ ?_))
      (refine z01 (by rfl) ?_ ?_) <;> (repeat' (first | (exact eqA) | (refine And.intro ?_ ?_) | ((fail_if_success (with_reducible (show _ = _))); (show _ = _)))) <;> rfl
     ·repeat ((try conv => whnf); first | (with_reducible first | refine z0a (fun Qs hN hE hR => ?_) | refine z08 ?_ | refine z00 (fun Qb kN kE kX kR => ?_) | refine z04 ?_ | refine z05 ?_ | refine z09 ?_ | refine z06 ?_ | refine z07 ?_ | (show W _ _ _ (.cond _ _ _) _ _; refine z03 rfl ?_) | (refine hN _ ?_; try clear hN hE hR Qs; (try (conv => arg 6; dsimp only [ovl, List.set, List.map, ren0]))) | ((first | refine hE _ _ ?_ | refine hR _ ?_); try clear hN hE hR Qs) | ((first | refine kN _ ?_ | refine kE _ ?_ | refine kX _ _ rfl ?_ | refine kR _ ?_); try clear kN kE kX kR Qb)) | (refine z0d hk0 ?_) | (refine stpQ ?_))
      (refine z01 (by rfl) ?_ ?_) <;> (repeat' (first | (exact eqA) | (refine And.intro ?_ ?_) | ((fail_if_success (with_reducible (show _ = _))); (show _ = _)))) <;> rfl
   ·clear hR0 hR2 hR4
    generalize z3b b6 q6 t.length = dn at *
    generalize hmb : z15 names bks sides (wn : Int) = mb at *
    have hbk : ∀ h : mb = true, ∀ hd : dn = true, fl = decide (z1Z names bks sides = t) := fun h hd => by rw [hfl, h, hd]; simp
    cases dn with
    | false =>
      obtain rfl : fl = false := by rw [hfl]; rfl
      cases mb <;>
      ·repeat ((try conv => whnf); first | (with_reducible first | refine z0a (fun Qs hN hE hR => ?_) | refine z08 ?_ | refine z00 (fun Qb kN kE kX kR => ?_) | refine z04 ?_ | refine z05 ?_ | refine z09 ?_ | refine z06 ?_ | refine z07 ?_ | (show W _ _ _ (.cond _ _ _) _ _; refine z03 rfl ?_) | (refine hN _ ?_; try clear hN hE hR Qs; (try (conv => arg 6; dsimp only [ovl, List.set, List.map, ren0]))) | ((first | refine hE _ _ ?_ | refine hR _ ?_); try clear hN hE hR Qs) | ((first | refine kN _ ?_ | refine kE _ ?_ | refine kX _ _ rfl ?_ | refine kR _ ?_); try clear kN kE kX kR Qb)) | (refine ccA ([]) (cT) ?_) | (refine ccB ([_]) (cD) ?_) | (refine And.intro (by kernel_rfl) ?_) | (refine stpQ ?_))
       (refine z02 (by rfl) ?_ ?_ (by rfl)) <;> (repeat' (first | (exact eqA) | (refine And.intro ?_ ?_) | ((fail_if_success (with_reducible (show _ = _))); (show _ = _)))) <;> first | rfl | decide
    | true =>
      cases mb with
      | false =>
        obtain rfl : fl = false := by rw [hfl]; rfl
        repeat ((try conv => whnf); first | (with_reducible first | refine z0a (fun Qs hN hE hR => ?_) | refine z08 ?_ | refine z00 (fun Qb kN kE kX kR => ?_) | refine z04 ?_ | refine z05 ?_ | refine z09 ?_ | refine z06 ?_ | refine z07 ?_ | (show W _ _ _ (.cond _ _ _) _ _; refine z03 rfl ?_) | (refine hN _ ?_; try clear hN hE hR Qs; (try (conv => arg 6; dsimp only [ovl, List.set, List.map, ren0]))) | ((first | refine hE _ _ ?_ | refine hR _ ?_); try clear hN hE hR Qs) | ((first | refine kN _ ?_ | refine kE _ ?_ | refine kX _ _ rfl ?_ | refine kR _ ?_); try clear kN kE kX kR Qb)) | (refine ccA ([]) (cT) ?_) | (refine ccB ([_]) (cD) ?_) | (refine And.intro (by kernel_rfl) ?_) | (refine stpQ ?_))
        (refine z02 (by rfl) ?_ ?_ (by rfl)) <;> (repeat' (first | (exact eqA) | (refine And.intro ?_ ?_) | ((fail_if_success (with_reducible (show _ = _))); (show _ = _)))) <;> first | rfl | decide
      | true =>
        change CT _ _ _ _ (.tup [.str (z1Z names bks sides), .bool true]) _ at cT
        have hbk2 := hbk rfl rfl
        clear hbk hfl
        generalize z1Z names bks sides = mt at *
        by_cases hb : mt = t
        ·obtain rfl : fl = true := by rw [hbk2]; exact decide_eq_true hb
         repeat ((try conv => whnf); first | (with_reducible first | refine z0a (fun Qs hN hE hR => ?_) | refine z08 ?_ | refine z00 (fun Qb kN kE kX kR => ?_) | refine z04 ?_ | refine z05 ?_ | refine z09 ?_ | refine z06 ?_ | refine z07 ?_ | (show W _ _ _ (.cond _ _ _) _ _; refine z03 rfl ?_) | (refine hN _ ?_; try clear hN hE hR Qs; (try (conv => arg 6; dsimp only [ovl, List.set, List.map, ren0]))) | ((first | refine hE _ _ ?_ | refine hR _ ?_); try clear hN hE hR Qs) | ((first | refine kN _ ?_ | refine kE _ ?_ | refine kX _ _ rfl ?_ | refine kR _ ?_); try clear kN kE kX kR Qb)) | (refine ccA ([]) (cT) ?_) | (refine ccB ([_]) (cD) ?_) | (refine z3k hb ?_) | (refine And.intro (by kernel_rfl) ?_) | (refine stpQ ?_))
         (refine z02 (by rfl) ?_ ?_ (by rfl)) <;> (repeat' (first | (exact eqA) | (refine And.intro ?_ ?_) | ((fail_if_success (with_reducible (show _ = _))); (show _ = _)))) <;> first | rfl | exact CvE.refl (cl_stM _)
        ·obtain rfl : fl = false := by rw [hbk2]; exact decide_eq_false hb
         repeat ((try conv => whnf); first | (with_reducible first | refine z0a (fun Qs hN hE hR => ?_) | refine z08 ?_ | refine z00 (fun Qb kN kE kX kR => ?_) | refine z04 ?_ | refine z05 ?_ | refine z09 ?_ | refine z06 ?_ | refine z07 ?_ | (show W _ _ _ (.cond _ _ _) _ _; refine z03 rfl ?_) | (refine hN _ ?_; try clear hN hE hR Qs; (try (conv => arg 6; dsimp only [ovl, List.set, List.map, ren0]))) | ((first | refine hE _ _ ?_ | refine hR _ ?_); try clear hN hE hR Qs) | ((first | refine kN _ ?_ | refine kE _ ?_ | refine kX _ _ rfl ?_ | refine kR _ ?_); try clear kN kE kX kR Qb)) | (refine ccA ([]) (cT) ?_) | (refine ccB ([_]) (cD) ?_) | (refine z3j hb ?_) | (refine And.intro (by kernel_rfl) ?_) | (refine stpQ ?_))
         (refine z02 (by rfl) ?_ ?_ (by rfl)) <;> (repeat' (first | (exact eqA) | (refine And.intro ?_ ?_) | ((fail_if_success (with_reducible (show _ = _))); (show _ = _)))) <;> first | rfl | decide
end
end Go.Proofs.YtfjbinbpgdiafaaGreatDoor
namespace Go.Proofs.YtfjbinbpgdiafaaGreatDoor
set_option linter.unusedVariables false
set_option linter.unusedSimpArgs false
set_option linter.unusedSectionVars false
open Go.RowKit Pl
def bkG (l : List (Option (List Lf))) : List (List Lf) := l.map fun o => o.getD []
theorem zd4 (l : List (Option (List Lf))) : (bkG l).length = l.length := by simp [bkG]
theorem zfA (l : List (Option (List Lf))) (o : Option (List Lf)) : bkE (bkG (l ++ [o])) = bkE (bkG l) ++ [[.sl 2 (lvE (o.getD []))]] := by simp [bkG, bkE]
def okA (l : List (Option (List Lf))) : Bool := l.all fun o => o.isSome
theorem zfB (l : List (Option (List Lf))) (o : Option (List Lf)) : okA (l ++ [o]) = (okA l && o.isSome) := by simp [okA]
theorem z9p (t : Bs) (q : Nat) : (z0m t q false).1.length ≤ 20000 := by
 unfold z0m
 rcases hr : z0n t q with _ | ⟨l, c⟩
 ·simp
 ·exact (z1k hr).2.2
section
attribute [local irreducible] z0t z0u z0A AnsP LeP W CvE
set_option maxRecDepth 100000 in
set_option maxHeartbeats 16000000 in
theorem z5N (t : Bs) (w : Int) (ht : t.length ≤ 2000000) (n1 q1 : Nat) (b1 : Bool) (names : List Bs) (q2 : Nat) (b2 : Bool) (n2 q3 : Nat) (b3 : Bool) (os : List (Option (List Lf))) (q4 : Nat) (b4 : Bool) (n3 q5 : Nat) (b5 : Bool) (sides : List Bs) (q6 : Nat) (b6 : Bool)
 (h1 : numS t 0 false = (n1, q1, b1)) (hR0 : rdL (fNm t) (min n1 10) q1 b1 = (names, q2, b2)) (h2 : numS t q2 b2 = (n2, q3, b3)) (hR2 : rdL (fBo t) (min n2 10) q3 b3 = (os, q4, b4)) (h3 : numS t q4 b4 = (n3, q5, b5)) (hR4 : rdL (fSd t w) (min n3 70) q5 b5 = (sides, q6, b6))
 (fl : Bool) (hfl : fl = (!b6 && (okA os && (z15 names (bkG os) sides w && decide (z1Z names (bkG os) sides = t))))) :
 CT Tryz.prog 26 [] [.str t, .int .i64 w] (.tup [.agg [.sl 1 (strE (bif fl then names else [])), .sl 1 (bkE (bif fl then bkG os else [])), .sl 1 (strE (bif fl then sides else []))], .bool fl]) [] := by
 have ht' : (t.length : Int) ≤ 1000000000 := by omega
 have c1 := zao t 0 false ht' (Nat.zero_le _)
 have lq0 := (z5h (t := t) (p := 0) (bad := false) (Nat.zero_le _)).1
 rw [h1] at c1 lq0
 simp only at c1 lq0
 have lS : ∀ q, q ≤ t.length → (z0m t q false).2.1 ≤ t.length := fun q h => (z0L h).1
 have lq2' := z5D (f := fNm t) (N := t.length) lS (min n1 10) q1 b1 lq0
 rw [hR0] at lq2'
 simp only at lq2'
 have c2 := zao t q2 b2 ht' lq2'
 have lq2 := (z5h (t := t) (p := q2) (bad := b2) lq2').1
 rw [h2] at c2 lq2
 simp only at c2 lq2
 have lq4' := z5D (f := fBo t) (N := t.length) lS (min n2 10) q3 b3 lq2
 rw [hR2] at lq4'
 simp only at lq4'
 have c3 := zao t q4 b4 ht' lq4'
 have lq4 := z5h (t := t) (p := q4) (bad := b4) lq4'
 rw [h3] at c3 lq4
 simp only at c3 lq4
 obtain ⟨lq4, ln3⟩ := lq4
 have lT : ∀ q, q ≤ t.length → (fSd t w q).2.1 ≤ t.length := fun q h => z5t h
 have lq6 := z5D (f := fSd t w) (N := t.length) lT (min n3 70) q5 b5 lq4
 have hct := z48 (fSd t w) (min n3 70) q5 b5
 rw [hR4] at lq6 hct
 simp only at lq6 hct
 have hN1 := z48 (fNm t) (min n1 10) q1 b1
 have hN2 := z5E (f := fNm t) (P := fun s => (s.length : Int) ≤ 100000000) (fun q => by
  have := z9p t q
  show ((z0m t q false).1.length : Int) ≤ _
  omega) (min n1 10) q1 b1
 rw [hR0] at hN1 hN2
 simp only at hN1 hN2
 have hB1 := z48 (fBo t) (min n2 10) q3 b3
 have hB2 := z5E (f := fBo t) (P := fun o => leavesOk (o.getD []) = true) (fun q => z8r) (min n2 10) q3 b3
 rw [hR2] at hB1 hB2
 simp only at hB1 hB2
 have hGl := zd4 os
 have cT := z5M names (bkG os) sides w (by omega) hN2 (by omega) (fun b hb => by
  simp only [bkG, List.mem_map] at hb
  obtain ⟨o, ho, rfl⟩ := hb
  exact hB2 o ho) (by omega)
 clear hct hN1 hN2 hB1 hB2 h1 h2 h3 lS lT
 unfold fldB at c1 c2 c3
 refine z0b z0p 1 rfl Tryz.func26 rfl rfl rfl ?_
 conv => arg 6; whnf
 repeat ((try conv => whnf); first | (with_reducible first | refine z0a (fun Qs hN hE hR => ?_) | refine z08 ?_ | refine z00 (fun Qb kN kE kX kR => ?_) | refine z04 ?_ | refine z05 ?_ | refine z09 ?_ | refine z06 ?_ | refine z07 ?_ | (show W _ _ _ (.cond _ _ _) _ _; refine z03 rfl ?_) | (refine hN _ ?_; try clear hN hE hR Qs; (try (conv => arg 6; dsimp only [ovl, List.set, List.map, ren0]))) | ((first | refine hE _ _ ?_ | refine hR _ ?_); try clear hN hE hR Qs) | ((first | refine kN _ ?_ | refine kE _ ?_ | refine kX _ _ rfl ?_ | refine kR _ ?_); try clear kN kE kX kR Qb)) | (refine ccB ([_]) (c1) ?_) | (refine And.intro (by kernel_rfl) ?_) | (refine stpQ ?_))
 refine z0g 0 ⟨[(0, .str t), (1, .int .i64 w), (4, .ptr 1 0 0), (6, .ptr 2 0 0), (7, .ptr 3 0 0)], [(1, some (.box [.val nilV, .val nilV, .val nilV])), (2, some (.box [.str t, .int .i64 (q2 : Int), .bool b2])), (3, some (.box [.ref 4, .val nilV, .val nilV])), (4, some (.row 1 (strE names)))], 5⟩ (Nat × Nat × Bool × List Bs) (fun x => ⟨[(0, .str t), (1, .int .i64 w), (4, .ptr 1 0 0), (6, .ptr 2 0 0), (7, .ptr 3 0 0), (8, .int .i64 (n1 : Int)), (9, .int .i64 (x.1 : Int))], [(1, some (.box [.val nilV, .val nilV, .val nilV])), (2, some (.box [.str t, .int .i64 (x.2.1 : Int), .bool x.2.2.1])), (3, some (.box [.ref 4, .val nilV, .val nilV])), (4, some (.row 1 (strE x.2.2.2)))], 5⟩) (fun x => x.1 ≤ min n1 10 ∧ x.2.2.2.length = x.1 ∧ RdAt (fNm t) (names, q2, b2) (min n1 10 - x.1) x.2.2.2 x.2.1 x.2.2.1 ∧ x.2.1 ≤ t.length) (fun x => min n1 10 - x.1) (0, q1, b1, []) ⟨Nat.zero_le _, rfl, by unfold RdAt; rw [Nat.sub_zero, hR0]; rfl, lq0⟩ ?_ ?_ ?_
 ·(try dsimp only)
  (refine z01 (by rfl) ?_ ?_)
  all_goals (repeat' (first | (exact trivial) | ((try conv => whnf); first | (exact trivial) | (refine And.intro ?_ ?_))))
  all_goals first
   | rfl
   | decide
 ·intro x hx
  obtain ⟨k, q, bd, s⟩ := x
  obtain ⟨hk, hl, hat, hq⟩ := hx
  dsimp only at hk hl hat hq ⊢
  have hll := z0h s
  by_cases hgo : bd = false ∧ k < min n1 10
  ·obtain ⟨rfl, hlt⟩ := hgo
   obtain ⟨m, hm⟩ : ∃ m, min n1 10 - k = m + 1 := ⟨min n1 10 - k - 1, by omega⟩
   rw [hm] at hat
   have k1 : (k : Int) < (n1 : Int) := by omega
   have k2 : (k : Int) < 10 := by omega
   have c5 := z4D t q false ht' hq
   rw [show z1a t q false = z0m t q false from rfl] at c5
   have hle := (z0L (t := t) (p := q) (bad := false) hq).1
   rcases hTk : z0m t q false with ⟨u, q', b'⟩
   have hst := hat.step (u := u) (q1 := q') (b1 := b') hTk
   rw [hTk] at c5 hle
   dsimp only at c5 hle
   have happ := z1H s u
   unfold fldB at c5
   repeat ((try conv => whnf); first | (with_reducible first | refine z0a (fun Qs hN hE hR => ?_) | refine z08 ?_ | refine z00 (fun Qb kN kE kX kR => ?_) | refine z04 ?_ | refine z05 ?_ | refine z09 ?_ | refine z06 ?_ | refine z07 ?_ | (show W _ _ _ (.cond _ _ _) _ _; refine z03 rfl ?_) | (refine hN _ ?_; try clear hN hE hR Qs; (try (conv => arg 6; dsimp only [ovl, List.set, List.map, ren0]))) | ((first | refine hE _ _ ?_ | refine hR _ ?_); try clear hN hE hR Qs) | ((first | refine kN _ ?_ | refine kE _ ?_ | refine kX _ _ rfl ?_ | refine kR _ ?_); try clear kN kE kX kR Qb)) | (refine z0c k1 ?_) | (refine z0c k2 ?_) | (refine ccB ([_]) (c5) ?_) | (refine And.intro (by simp only [List.length_append, List.length_set, List.length_replicate, List.length_cons, List.length_nil]; omega) ?_) | (refine And.intro (by kernel_rfl) ?_) | (refine stpQ ?_))
   refine ⟨(k + 1, q', b', s ++ [u]), ⟨by show k + 1 ≤ min n1 10; omega, by simp [hl], ?_, hle⟩, (by show min n1 10 - (k + 1) < min n1 10 - k; omega), ?_⟩
   ·show RdAt (fNm t) (names, q2, b2) (min n1 10 - (k + 1)) (s ++ [u]) q' b'
    rw [show min n1 10 - (k + 1) = m by omega]
    exact hst
   ·(try dsimp only)
    rw [happ]
    (refine z01 (by rfl) ?_ ?_) <;> (repeat' (first | (exact eqA) | (refine And.intro ?_ ?_) | ((fail_if_success (with_reducible (show _ = _))); (show _ = _)))) <;> rfl
  ·have e := hat.stop (by
    cases bd with
    | true => exact .inl rfl
    | false => exact .inr (by have : ¬ k < min n1 10 := fun h => hgo ⟨rfl, h⟩; omega))
   simp only [Prod.mk.injEq] at e
   obtain ⟨e1, e2, e3⟩ := e
   subst e1 e2 e3
   cases b2 with
   | true =>
     by_cases k1 : (k : Int) < (n1 : Int)
     ·by_cases k2 : (k : Int) < 10
      ·repeat ((try conv => whnf); first | (with_reducible first | refine z0a (fun Qs hN hE hR => ?_) | refine z08 ?_ | refine z00 (fun Qb kN kE kX kR => ?_) | refine z04 ?_ | refine z05 ?_ | refine z09 ?_ | refine z06 ?_ | refine z07 ?_ | (show W _ _ _ (.cond _ _ _) _ _; refine z03 rfl ?_) | (refine hN _ ?_; try clear hN hE hR Qs; (try (conv => arg 6; dsimp only [ovl, List.set, List.map, ren0]))) | ((first | refine hE _ _ ?_ | refine hR _ ?_); try clear hN hE hR Qs) | ((first | refine kN _ ?_ | refine kE _ ?_ | refine kX _ _ rfl ?_ | refine kR _ ?_); try clear kN kE kX kR Qb)) | (refine z0c k1 ?_) | (refine z0c k2 ?_) | (refine stpQ ?_))
       (refine z01 (by rfl) ?_ ?_) <;> (repeat' (first | (exact eqA) | (refine And.intro ?_ ?_) | ((fail_if_success (with_reducible (show _ = _))); (show _ = _)))) <;> rfl
      ·repeat ((try conv => whnf); first | (with_reducible first | refine z0a (fun Qs hN hE hR => ?_) | refine z08 ?_ | refine z00 (fun Qb kN kE kX kR => ?_) | refine z04 ?_ | refine z05 ?_ | refine z09 ?_ | refine z06 ?_ | refine z07 ?_ | (show W _ _ _ (.cond _ _ _) _ _; refine z03 rfl ?_) | (refine hN _ ?_; try clear hN hE hR Qs; (try (conv => arg 6; dsimp only [ovl, List.set, List.map, ren0]))) | ((first | refine hE _ _ ?_ | refine hR _ ?_); try clear hN hE hR Qs) | ((first | refine kN _ ?_ | refine kE _ ?_ | refine kX _ _ rfl ?_ | refine kR _ ?_); try clear kN kE kX kR Qb)) | (refine z0c k1 ?_) | (refine z0d k2 ?_) | (refine stpQ ?_))
       (refine z01 (by rfl) ?_ ?_) <;> (repeat' (first | (exact eqA) | (refine And.intro ?_ ?_) | ((fail_if_success (with_reducible (show _ = _))); (show _ = _)))) <;> rfl
     ·repeat ((try conv => whnf); first | (with_reducible first | refine z0a (fun Qs hN hE hR => ?_) | refine z08 ?_ | refine z00 (fun Qb kN kE kX kR => ?_) | refine z04 ?_ | refine z05 ?_ | refine z09 ?_ | refine z06 ?_ | refine z07 ?_ | (show W _ _ _ (.cond _ _ _) _ _; refine z03 rfl ?_) | (refine hN _ ?_; try clear hN hE hR Qs; (try (conv => arg 6; dsimp only [ovl, List.set, List.map, ren0]))) | ((first | refine hE _ _ ?_ | refine hR _ ?_); try clear hN hE hR Qs) | ((first | refine kN _ ?_ | refine kE _ ?_ | refine kX _ _ rfl ?_ | refine kR _ ?_); try clear kN kE kX kR Qb)) | (refine z0d k1 ?_) | (refine stpQ ?_))
      (refine z01 (by rfl) ?_ ?_) <;> (repeat' (first | (exact eqA) | (refine And.intro ?_ ?_) | ((fail_if_success (with_reducible (show _ = _))); (show _ = _)))) <;> rfl
   | false =>
     have hnk : ¬ k < min n1 10 := fun h => hgo ⟨rfl, h⟩
     by_cases k1 : (k : Int) < (n1 : Int)
     ·have k2 : ¬ (k : Int) < 10 := by omega
      repeat ((try conv => whnf); first | (with_reducible first | refine z0a (fun Qs hN hE hR => ?_) | refine z08 ?_ | refine z00 (fun Qb kN kE kX kR => ?_) | refine z04 ?_ | refine z05 ?_ | refine z09 ?_ | refine z06 ?_ | refine z07 ?_ | (show W _ _ _ (.cond _ _ _) _ _; refine z03 rfl ?_) | (refine hN _ ?_; try clear hN hE hR Qs; (try (conv => arg 6; dsimp only [ovl, List.set, List.map, ren0]))) | ((first | refine hE _ _ ?_ | refine hR _ ?_); try clear hN hE hR Qs) | ((first | refine kN _ ?_ | refine kE _ ?_ | refine kX _ _ rfl ?_ | refine kR _ ?_); try clear kN kE kX kR Qb)) | (refine z0c k1 ?_) | (refine z0d k2 ?_) | (refine stpQ ?_))
      (refine z01 (by rfl) ?_ ?_) <;> (repeat' (first | (exact eqA) | (refine And.intro ?_ ?_) | ((fail_if_success (with_reducible (show _ = _))); (show _ = _)))) <;> rfl
     ·repeat ((try conv => whnf); first | (with_reducible first | refine z0a (fun Qs hN hE hR => ?_) | refine z08 ?_ | refine z00 (fun Qb kN kE kX kR => ?_) | refine z04 ?_ | refine z05 ?_ | refine z09 ?_ | refine z06 ?_ | refine z07 ?_ | (show W _ _ _ (.cond _ _ _) _ _; refine z03 rfl ?_) | (refine hN _ ?_; try clear hN hE hR Qs; (try (conv => arg 6; dsimp only [ovl, List.set, List.map, ren0]))) | ((first | refine hE _ _ ?_ | refine hR _ ?_); try clear hN hE hR Qs) | ((first | refine kN _ ?_ | refine kE _ ?_ | refine kX _ _ rfl ?_ | refine kR _ ?_); try clear kN kE kX kR Qb)) | (refine z0d k1 ?_) | (refine stpQ ?_))
      (refine z01 (by rfl) ?_ ?_) <;> (repeat' (first | (exact eqA) | (refine And.intro ?_ ?_) | ((fail_if_success (with_reducible (show _ = _))); (show _ = _)))) <;> rfl
 ·repeat ((try conv => whnf); first | (with_reducible first | refine z0a (fun Qs hN hE hR => ?_) | refine z08 ?_ | refine z00 (fun Qb kN kE kX kR => ?_) | refine z04 ?_ | refine z05 ?_ | refine z09 ?_ | refine z06 ?_ | refine z07 ?_ | (show W _ _ _ (.cond _ _ _) _ _; refine z03 rfl ?_) | (refine hN _ ?_; try clear hN hE hR Qs; (try (conv => arg 6; dsimp only [ovl, List.set, List.map, ren0]))) | ((first | refine hE _ _ ?_ | refine hR _ ?_); try clear hN hE hR Qs) | ((first | refine kN _ ?_ | refine kE _ ?_ | refine kX _ _ rfl ?_ | refine kR _ ?_); try clear kN kE kX kR Qb)) | (refine ccB ([_]) (c2) ?_) | (refine And.intro (by kernel_rfl) ?_) | (refine stpQ ?_))
  refine z0g 2 ⟨[(0, .str t), (1, .int .i64 w), (4, .ptr 1 0 0), (6, .ptr 2 0 0), (7, .ptr 3 0 0), (11, .bool (okA os))], [(1, some (.box [.val nilV, .val nilV, .val nilV])), (2, some (.box [.str t, .int .i64 (q4 : Int), .bool b4])), (3, some (.box [.ref 4, .ref 5, .val nilV])), (4, some (.row 1 (strE names))), (5, some (.row 1 (bkE (bkG os))))], 6⟩ (Nat × Nat × Bool × List (Option (List Lf))) (fun x => ⟨[(0, .str t), (1, .int .i64 w), (4, .ptr 1 0 0), (6, .ptr 2 0 0), (7, .ptr 3 0 0), (11, .bool (okA x.2.2.2)), (10, .int .i64 (n2 : Int)), (12, .int .i64 (x.1 : Int))], [(1, some (.box [.val nilV, .val nilV, .val nilV])), (2, some (.box [.str t, .int .i64 (x.2.1 : Int), .bool x.2.2.1])), (3, some (.box [.ref 4, .ref 5, .val nilV])), (4, some (.row 1 (strE names))), (5, some (.row 1 (bkE (bkG x.2.2.2))))], 6⟩) (fun x => x.1 ≤ min n2 10 ∧ x.2.2.2.length = x.1 ∧ RdAt (fBo t) (os, q4, b4) (min n2 10 - x.1) x.2.2.2 x.2.1 x.2.2.1 ∧ x.2.1 ≤ t.length) (fun x => min n2 10 - x.1) (0, q3, b3, []) ⟨Nat.zero_le _, rfl, by unfold RdAt; rw [Nat.sub_zero, hR2]; rfl, lq2⟩ ?_ ?_ ?_
  ·(try dsimp only)
   (refine z01 (by rfl) ?_ ?_)
   all_goals (repeat' (first | (exact trivial) | ((try conv => whnf); first | (exact trivial) | (refine And.intro ?_ ?_))))
   all_goals first
    | rfl
    | decide
  ·intro x hx
   obtain ⟨k, q, bd, s⟩ := x
   obtain ⟨hk, hl, hat, hq⟩ := hx
   dsimp only at hk hl hat hq ⊢
   have hll : (bkE (bkG s)).length = s.length := by rw [z2c, zd4]
   by_cases hgo : bd = false ∧ k < min n2 10
   ·obtain ⟨rfl, hlt⟩ := hgo
    obtain ⟨m, hm⟩ : ∃ m, min n2 10 - k = m + 1 := ⟨min n2 10 - k - 1, by omega⟩
    rw [hm] at hat
    have k1 : (k : Int) < (n2 : Int) := by omega
    have k2 : (k : Int) < 10 := by omega
    have c5 := z4D t q false ht' hq
    rw [show z1a t q false = z0m t q false from rfl] at c5
    have hle := (z0L (t := t) (p := q) (bad := false) hq).1
    have hul := (z0L (t := t) (p := q) (bad := false) hq).2
    have hst := hat.step (u := (fBo t q).1) (q1 := (fBo t q).2.1) (b1 := (fBo t q).2.2) rfl
    unfold fBo at hst
    rcases hTk : z0m t q false with ⟨u, q', b'⟩
    rw [hTk] at c5 hle hul hst
    dsimp only at c5 hle hul hst
    have c6 := z60 u (by omega)
    have happ := zfA s (z0V u)
    have hok := zfB s (z0V u)
    generalize z0V u = ou at *
    generalize ou.getD [] = lv at *
    generalize ou.isSome = og at *
    generalize okA s = ok at *
    unfold fldB at c5
    cases ok <;> cases og
    all_goals
     repeat ((try conv => whnf); first | (with_reducible first | refine z0a (fun Qs hN hE hR => ?_) | refine z08 ?_ | refine z00 (fun Qb kN kE kX kR => ?_) | refine z04 ?_ | refine z05 ?_ | refine z09 ?_ | refine z06 ?_ | refine z07 ?_ | (show W _ _ _ (.cond _ _ _) _ _; refine z03 rfl ?_) | (refine hN _ ?_; try clear hN hE hR Qs; (try (conv => arg 6; dsimp only [ovl, List.set, List.map, ren0]))) | ((first | refine hE _ _ ?_ | refine hR _ ?_); try clear hN hE hR Qs) | ((first | refine kN _ ?_ | refine kE _ ?_ | refine kX _ _ rfl ?_ | refine kR _ ?_); try clear kN kE kX kR Qb)) | (refine z0c k1 ?_) | (refine z0c k2 ?_) | (refine ccB ([_]) (c5) ?_) | (refine ccA ([]) (c6) ?_) | (refine And.intro (by simp only [List.length_append, List.length_set, List.length_replicate, List.length_cons, List.length_nil]; omega) ?_) | (refine And.intro (by kernel_rfl) ?_) | (refine stpQ ?_))
     refine ⟨(k + 1, q', b', s ++ [ou]), ⟨by show k + 1 ≤ min n2 10; omega, by simp [hl], ?_, hle⟩, (by show min n2 10 - (k + 1) < min n2 10 - k; omega), ?_⟩
     ·show RdAt (fBo t) (os, q4, b4) (min n2 10 - (k + 1)) (s ++ [ou]) q' b'
      rw [show min n2 10 - (k + 1) = m by omega]
      exact hst
     ·(try dsimp only)
      rw [happ, hok]
      (refine z01 (by rfl) ?_ ?_) <;> (repeat' (first | (exact eqA) | (refine And.intro ?_ ?_) | ((fail_if_success (with_reducible (show _ = _))); (show _ = _)))) <;> rfl
   ·have e := hat.stop (by
     cases bd with
     | true => exact .inl rfl
     | false => exact .inr (by have : ¬ k < min n2 10 := fun h => hgo ⟨rfl, h⟩; omega))
    simp only [Prod.mk.injEq] at e
    obtain ⟨e1, e2, e3⟩ := e
    subst e1 e2 e3
    cases b4 with
    | true =>
      by_cases k1 : (k : Int) < (n2 : Int)
      ·by_cases k2 : (k : Int) < 10
       ·repeat ((try conv => whnf); first | (with_reducible first | refine z0a (fun Qs hN hE hR => ?_) | refine z08 ?_ | refine z00 (fun Qb kN kE kX kR => ?_) | refine z04 ?_ | refine z05 ?_ | refine z09 ?_ | refine z06 ?_ | refine z07 ?_ | (show W _ _ _ (.cond _ _ _) _ _; refine z03 rfl ?_) | (refine hN _ ?_; try clear hN hE hR Qs; (try (conv => arg 6; dsimp only [ovl, List.set, List.map, ren0]))) | ((first | refine hE _ _ ?_ | refine hR _ ?_); try clear hN hE hR Qs) | ((first | refine kN _ ?_ | refine kE _ ?_ | refine kX _ _ rfl ?_ | refine kR _ ?_); try clear kN kE kX kR Qb)) | (refine z0c k1 ?_) | (refine z0c k2 ?_) | (refine stpQ ?_))
        (refine z01 (by rfl) ?_ ?_) <;> (repeat' (first | (exact eqA) | (refine And.intro ?_ ?_) | ((fail_if_success (with_reducible (show _ = _))); (show _ = _)))) <;> rfl
       ·repeat ((try conv => whnf); first | (with_reducible first | refine z0a (fun Qs hN hE hR => ?_) | refine z08 ?_ | refine z00 (fun Qb kN kE kX kR => ?_) | refine z04 ?_ | refine z05 ?_ | refine z09 ?_ | refine z06 ?_ | refine z07 ?_ | (show W _ _ _ (.cond _ _ _) _ _; refine z03 rfl ?_) | (refine hN _ ?_; try clear hN hE hR Qs; (try (conv => arg 6; dsimp only [ovl, List.set, List.map, ren0]))) | ((first | refine hE _ _ ?_ | refine hR _ ?_); try clear hN hE hR Qs) | ((first | refine kN _ ?_ | refine kE _ ?_ | refine kX _ _ rfl ?_ | refine kR _ ?_); try clear kN kE kX kR Qb)) | (refine z0c k1 ?_) | (refine z0d k2 ?_) | (refine stpQ ?_))
        (refine z01 (by rfl) ?_ ?_) <;> (repeat' (first | (exact eqA) | (refine And.intro ?_ ?_) | ((fail_if_success (with_reducible (show _ = _))); (show _ = _)))) <;> rfl
      ·repeat ((try conv => whnf); first | (with_reducible first | refine z0a (fun Qs hN hE hR => ?_) | refine z08 ?_ | refine z00 (fun Qb kN kE kX kR => ?_) | refine z04 ?_ | refine z05 ?_ | refine z09 ?_ | refine z06 ?_ | refine z07 ?_ | (show W _ _ _ (.cond _ _ _) _ _; refine z03 rfl ?_) | (refine hN _ ?_; try clear hN hE hR Qs; (try (conv => arg 6; dsimp only [ovl, List.set, List.map, ren0]))) | ((first | refine hE _ _ ?_ | refine hR _ ?_); try clear hN hE hR Qs) | ((first | refine kN _ ?_ | refine kE _ ?_ | refine kX _ _ rfl ?_ | refine kR _ ?_); try clear kN kE kX kR Qb)) | (refine z0d k1 ?_) | (refine stpQ ?_))
       (refine z01 (by rfl) ?_ ?_) <;> (repeat' (first | (exact eqA) | (refine And.intro ?_ ?_) | ((fail_if_success (with_reducible (show _ = _))); (show _ = _)))) <;> rfl
    | false =>
      have hnk : ¬ k < min n2 10 := fun h => hgo ⟨rfl, h⟩
      by_cases k1 : (k : Int) < (n2 : Int)
      ·have k2 : ¬ (k : Int) < 10 := by omega
       repeat ((try conv => whnf); first | (with_reducible first | refine z0a (fun Qs hN hE hR => ?_) | refine z08 ?_ | refine z00 (fun Qb kN kE kX kR => ?_) | refine z04 ?_ | refine z05 ?_ | refine z09 ?_ | refine z06 ?_ | refine z07 ?_ | (show W _ _ _ (.cond _ _ _) _ _; refine z03 rfl ?_) | (refine hN _ ?_; try clear hN hE hR Qs; (try (conv => arg 6; dsimp only [ovl, List.set, List.map, ren0]))) | ((first | refine hE _ _ ?_ | refine hR _ ?_); try clear hN hE hR Qs) | ((first | refine kN _ ?_ | refine kE _ ?_ | refine kX _ _ rfl ?_ | refine kR _ ?_); try clear kN kE kX kR Qb)) | (refine z0c k1 ?_) | (refine z0d k2 ?_) | (refine stpQ ?_))
       (refine z01 (by rfl) ?_ ?_) <;> (repeat' (first | (exact eqA) | (refine And.intro ?_ ?_) | ((fail_if_success (with_reducible (show _ = _))); (show _ = _)))) <;> rfl
      ·repeat ((try conv => whnf); first | (with_reducible first | refine z0a (fun Qs hN hE hR => ?_) | refine z08 ?_ | refine z00 (fun Qb kN kE kX kR => ?_) | refine z04 ?_ | refine z05 ?_ | refine z09 ?_ | refine z06 ?_ | refine z07 ?_ | (show W _ _ _ (.cond _ _ _) _ _; refine z03 rfl ?_) | (refine hN _ ?_; try clear hN hE hR Qs; (try (conv => arg 6; dsimp only [ovl, List.set, List.map, ren0]))) | ((first | refine hE _ _ ?_ | refine hR _ ?_); try clear hN hE hR Qs) | ((first | refine kN _ ?_ | refine kE _ ?_ | refine kX _ _ rfl ?_ | refine kR _ ?_); try clear kN kE kX kR Qb)) | (refine z0d k1 ?_) | (refine stpQ ?_))
       (refine z01 (by rfl) ?_ ?_) <;> (repeat' (first | (exact eqA) | (refine And.intro ?_ ?_) | ((fail_if_success (with_reducible (show _ = _))); (show _ = _)))) <;> rfl
  ·repeat ((try conv => whnf); first | (with_reducible first | refine z0a (fun Qs hN hE hR => ?_) | refine z08 ?_ | refine z00 (fun Qb kN kE kX kR => ?_) | refine z04 ?_ | refine z05 ?_ | refine z09 ?_ | refine z06 ?_ | refine z07 ?_ | (show W _ _ _ (.cond _ _ _) _ _; refine z03 rfl ?_) | (refine hN _ ?_; try clear hN hE hR Qs; (try (conv => arg 6; dsimp only [ovl, List.set, List.map, ren0]))) | ((first | refine hE _ _ ?_ | refine hR _ ?_); try clear hN hE hR Qs) | ((first | refine kN _ ?_ | refine kE _ ?_ | refine kX _ _ rfl ?_ | refine kR _ ?_); try clear kN kE kX kR Qb)) | (refine ccB ([_]) (c3) ?_) | (refine And.intro (by kernel_rfl) ?_) | (refine stpQ ?_))
   refine z0g 4 ⟨[(0, .str t), (1, .int .i64 w), (4, .ptr 1 0 0), (6, .ptr 2 0 0), (7, .ptr 3 0 0), (11, .bool (okA os))], [(1, some (.box [.val nilV, .val nilV, .val nilV])), (2, some (.box [.str t, .int .i64 (q6 : Int), .bool b6])), (3, some (.box [.ref 4, .ref 5, .ref 6])), (4, some (.row 1 (strE names))), (5, some (.row 1 (bkE (bkG os)))), (6, some (.row 1 (strE sides)))], 7⟩ (Nat × Nat × Bool × List Bs) (fun x => ⟨[(0, .str t), (1, .int .i64 w), (4, .ptr 1 0 0), (6, .ptr 2 0 0), (7, .ptr 3 0 0), (11, .bool (okA os)), (15, .int .i64 (n3 : Int)), (16, .int .i64 (x.1 : Int))], [(1, some (.box [.val nilV, .val nilV, .val nilV])), (2, some (.box [.str t, .int .i64 (x.2.1 : Int), .bool x.2.2.1])), (3, some (.box [.ref 4, .ref 5, .ref 6])), (4, some (.row 1 (strE names))), (5, some (.row 1 (bkE (bkG os)))), (6, some (.row 1 (strE x.2.2.2)))], 7⟩) (fun x => x.1 ≤ min n3 70 ∧ x.2.2.2.length = x.1 ∧ RdAt (fSd t w) (sides, q6, b6) (min n3 70 - x.1) x.2.2.2 x.2.1 x.2.2.1 ∧ x.2.1 ≤ t.length) (fun x => min n3 70 - x.1) (0, q5, b5, []) ⟨Nat.zero_le _, rfl, by unfold RdAt; rw [Nat.sub_zero, hR4]; rfl, lq4⟩ ?_ ?_ ?_
   ·(try dsimp only)
    (refine z01 (by rfl) ?_ ?_)
    all_goals (repeat' (first | (exact trivial) | ((try conv => whnf); first | (exact trivial) | (refine And.intro ?_ ?_))))
    all_goals first
     | rfl
     | decide
   ·intro x hx
    obtain ⟨k, q, bd, s⟩ := x
    obtain ⟨hk, hl, hat, hq⟩ := hx
    dsimp only at hk hl hat hq ⊢
    have hll := z0h s
    by_cases hgo : bd = false ∧ k < min n3 70
    ·obtain ⟨rfl, hlt⟩ := hgo
     obtain ⟨m, hm⟩ : ∃ m, min n3 70 - k = m + 1 := ⟨min n3 70 - k - 1, by omega⟩
     rw [hm] at hat
     have k1 : (k : Int) < (n3 : Int) := by omega
     have k2 : (k : Int) < 70 := by omega
     have c5 := zfq t q false w ht' hq
     have hle := z5t (t := t) (p := q) (w := w) (b := false) hq
     rcases hTk : z1u t q false w with ⟨u, q', b'⟩
     have hst := hat.step (u := u) (q1 := q') (b1 := b') hTk
     rw [hTk] at c5 hle
     dsimp only at c5 hle
     have happ := z1H s u
     unfold fldB at c5
     generalize okA os = oa at *
     repeat ((try conv => whnf); first | (with_reducible first | refine z0a (fun Qs hN hE hR => ?_) | refine z08 ?_ | refine z00 (fun Qb kN kE kX kR => ?_) | refine z04 ?_ | refine z05 ?_ | refine z09 ?_ | refine z06 ?_ | refine z07 ?_ | (show W _ _ _ (.cond _ _ _) _ _; refine z03 rfl ?_) | (refine hN _ ?_; try clear hN hE hR Qs; (try (conv => arg 6; dsimp only [ovl, List.set, List.map, ren0]))) | ((first | refine hE _ _ ?_ | refine hR _ ?_); try clear hN hE hR Qs) | ((first | refine kN _ ?_ | refine kE _ ?_ | refine kX _ _ rfl ?_ | refine kR _ ?_); try clear kN kE kX kR Qb)) | (refine z0c k1 ?_) | (refine z0c k2 ?_) | (refine ccB ([_]) (c5) ?_) | (refine And.intro (by simp only [List.length_append, List.length_set, List.length_replicate, List.length_cons, List.length_nil]; omega) ?_) | (refine And.intro (by kernel_rfl) ?_) | (refine stpQ ?_))
     refine ⟨(k + 1, q', b', s ++ [u]), ⟨by show k + 1 ≤ min n3 70; omega, by simp [hl], ?_, hle⟩, (by show min n3 70 - (k + 1) < min n3 70 - k; omega), ?_⟩
     ·show RdAt (fSd t w) (sides, q6, b6) (min n3 70 - (k + 1)) (s ++ [u]) q' b'
      rw [show min n3 70 - (k + 1) = m by omega]
      exact hst
     ·(try dsimp only)
      rw [happ]
      (refine z01 (by rfl) ?_ ?_) <;> (repeat' (first | (exact eqA) | (refine And.intro ?_ ?_) | ((fail_if_success (with_reducible (show _ = _))); (show _ = _)))) <;> rfl
    ·have e := hat.stop (by
      cases bd with
      | true => exact .inl rfl
      | false => exact .inr (by have : ¬ k < min n3 70 := fun h => hgo ⟨rfl, h⟩; omega))
     simp only [Prod.mk.injEq] at e
     obtain ⟨e1, e2, e3⟩ := e
     subst e1 e2 e3
     cases b6 with
     | true =>
       by_cases k1 : (k : Int) < (n3 : Int)
       ·by_cases k2 : (k : Int) < 70
        ·repeat ((try conv => whnf); first | (with_reducible first | refine z0a (fun Qs hN hE hR => ?_) | refine z08 ?_ | refine z00 (fun Qb kN kE kX kR => ?_) | refine z04 ?_ | refine z05 ?_ | refine z09 ?_ | refine z06 ?_ | refine z07 ?_ | (show W _ _ _ (.cond _ _ _) _ _; refine z03 rfl ?_) | (refine hN _ ?_; try clear hN hE hR Qs; (try (conv => arg 6; dsimp only [ovl, List.set, List.map, ren0]))) | ((first | refine hE _ _ ?_ | refine hR _ ?_); try clear hN hE hR Qs) | ((first | refine kN _ ?_ | refine kE _ ?_ | refine kX _ _ rfl ?_ | refine kR _ ?_); try clear kN kE kX kR Qb)) | (refine z0c k1 ?_) | (refine z0c k2 ?_) | (refine stpQ ?_))
         (refine z01 (by rfl) ?_ ?_) <;> (repeat' (first | (exact eqA) | (refine And.intro ?_ ?_) | ((fail_if_success (with_reducible (show _ = _))); (show _ = _)))) <;> rfl
        ·repeat ((try conv => whnf); first | (with_reducible first | refine z0a (fun Qs hN hE hR => ?_) | refine z08 ?_ | refine z00 (fun Qb kN kE kX kR => ?_) | refine z04 ?_ | refine z05 ?_ | refine z09 ?_ | refine z06 ?_ | refine z07 ?_ | (show W _ _ _ (.cond _ _ _) _ _; refine z03 rfl ?_) | (refine hN _ ?_; try clear hN hE hR Qs; (try (conv => arg 6; dsimp only [ovl, List.set, List.map, ren0]))) | ((first | refine hE _ _ ?_ | refine hR _ ?_); try clear hN hE hR Qs) | ((first | refine kN _ ?_ | refine kE _ ?_ | refine kX _ _ rfl ?_ | refine kR _ ?_); try clear kN kE kX kR Qb)) | (refine z0c k1 ?_) | (refine z0d k2 ?_) | (refine stpQ ?_))
         (refine z01 (by rfl) ?_ ?_) <;> (repeat' (first | (exact eqA) | (refine And.intro ?_ ?_) | ((fail_if_success (with_reducible (show _ = _))); (show _ = _)))) <;> rfl
       ·repeat ((try conv => whnf); first | (with_reducible first | refine z0a (fun Qs hN hE hR => ?_) | refine z08 ?_ | refine z00 (fun Qb kN kE kX kR => ?_) | refine z04 ?_ | refine z05 ?_ | refine z09 ?_ | refine z06 ?_ | refine z07 ?_ | (show W _ _ _ (.cond _ _ _) _ _; refine z03 rfl ?_) | (refine hN _ ?_; try clear hN hE hR Qs; (try (conv => arg 6; dsimp only [ovl, List.set, List.map, ren0]))) | ((first | refine hE _ _ ?_ | refine hR _ ?_); try clear hN hE hR Qs) | ((first | refine kN _ ?_ | refine kE _ ?_ | refine kX _ _ rfl ?_ | refine kR _ ?_); try clear kN kE kX kR Qb)) | (refine z0d k1 ?_) | (refine stpQ ?_))
        (refine z01 (by rfl) ?_ ?_) <;> (repeat' (first | (exact eqA) | (refine And.intro ?_ ?_) | ((fail_if_success (with_reducible (show _ = _))); (show _ = _)))) <;> rfl
     | false =>
       have hnk : ¬ k < min n3 70 := fun h => hgo ⟨rfl, h⟩
       by_cases k1 : (k : Int) < (n3 : Int)
       ·have k2 : ¬ (k : Int) < 70 := by omega
        repeat ((try conv => whnf); first | (with_reducible first | refine z0a (fun Qs hN hE hR => ?_) | refine z08 ?_ | refine z00 (fun Qb kN kE kX kR => ?_) | refine z04 ?_ | refine z05 ?_ | refine z09 ?_ | refine z06 ?_ | refine z07 ?_ | (show W _ _ _ (.cond _ _ _) _ _; refine z03 rfl ?_) | (refine hN _ ?_; try clear hN hE hR Qs; (try (conv => arg 6; dsimp only [ovl, List.set, List.map, ren0]))) | ((first | refine hE _ _ ?_ | refine hR _ ?_); try clear hN hE hR Qs) | ((first | refine kN _ ?_ | refine kE _ ?_ | refine kX _ _ rfl ?_ | refine kR _ ?_); try clear kN kE kX kR Qb)) | (refine z0c k1 ?_) | (refine z0d k2 ?_) | (refine stpQ ?_))
        (refine z01 (by rfl) ?_ ?_) <;> (repeat' (first | (exact eqA) | (refine And.intro ?_ ?_) | ((fail_if_success (with_reducible (show _ = _))); (show _ = _)))) <;> rfl
       ·repeat ((try conv => whnf); first | (with_reducible first | refine z0a (fun Qs hN hE hR => ?_) | refine z08 ?_ | refine z00 (fun Qb kN kE kX kR => ?_) | refine z04 ?_ | refine z05 ?_ | refine z09 ?_ | refine z06 ?_ | refine z07 ?_ | (show W _ _ _ (.cond _ _ _) _ _; refine z03 rfl ?_) | (refine hN _ ?_; try clear hN hE hR Qs; (try (conv => arg 6; dsimp only [ovl, List.set, List.map, ren0]))) | ((first | refine hE _ _ ?_ | refine hR _ ?_); try clear hN hE hR Qs) | ((first | refine kN _ ?_ | refine kE _ ?_ | refine kX _ _ rfl ?_ | refine kR _ ?_); try clear kN kE kX kR Qb)) | (refine z0d k1 ?_) | (refine stpQ ?_))
        (refine z01 (by rfl) ?_ ?_) <;> (repeat' (first | (exact eqA) | (refine And.intro ?_ ?_) | ((fail_if_success (with_reducible (show _ = _))); (show _ = _)))) <;> rfl
   ·clear hR0 hR2 hR4
    generalize bkG os = bks at *
    generalize okA os = ok at *
    generalize hmb : z15 names bks sides w = mb at *
    have hbk : mb = true → b6 = false → ok = true → fl = decide (z1Z names bks sides = t) := fun h1 h2 h3 => by rw [hfl, h1, h2, h3]; simp
    have hno : mb = false → fl = false := fun h => by rw [hfl, h]; simp
    clear hmb
    cases b6 with
    | true =>
      obtain rfl : fl = false := by rw [hfl]; rfl
      clear hfl hbk hno
      repeat ((try conv => whnf); first | (with_reducible first | refine z0a (fun Qs hN hE hR => ?_) | refine z08 ?_ | refine z00 (fun Qb kN kE kX kR => ?_) | refine z04 ?_ | refine z05 ?_ | refine z09 ?_ | refine z06 ?_ | refine z07 ?_ | (show W _ _ _ (.cond _ _ _) _ _; refine z03 rfl ?_) | (refine hN _ ?_; try clear hN hE hR Qs; (try (conv => arg 6; dsimp only [ovl, List.set, List.map, ren0]))) | ((first | refine hE _ _ ?_ | refine hR _ ?_); try clear hN hE hR Qs) | ((first | refine kN _ ?_ | refine kE _ ?_ | refine kX _ _ rfl ?_ | refine kR _ ?_); try clear kN kE kX kR Qb)) | (refine ccA ([]) (cT) ?_) | (refine And.intro (by kernel_rfl) ?_) | (refine stpQ ?_))
      (refine z02 (by rfl) ?_ ?_ (by rfl)) <;> (repeat' (first | (exact eqA) | (refine And.intro ?_ ?_) | ((fail_if_success (with_reducible (show _ = _))); (show _ = _)))) <;> rfl
    | false =>
      cases ok with
      | false =>
        obtain rfl : fl = false := by rw [hfl]; rfl
        clear hfl hbk hno
        repeat ((try conv => whnf); first | (with_reducible first | refine z0a (fun Qs hN hE hR => ?_) | refine z08 ?_ | refine z00 (fun Qb kN kE kX kR => ?_) | refine z04 ?_ | refine z05 ?_ | refine z09 ?_ | refine z06 ?_ | refine z07 ?_ | (show W _ _ _ (.cond _ _ _) _ _; refine z03 rfl ?_) | (refine hN _ ?_; try clear hN hE hR Qs; (try (conv => arg 6; dsimp only [ovl, List.set, List.map, ren0]))) | ((first | refine hE _ _ ?_ | refine hR _ ?_); try clear hN hE hR Qs) | ((first | refine kN _ ?_ | refine kE _ ?_ | refine kX _ _ rfl ?_ | refine kR _ ?_); try clear kN kE kX kR Qb)) | (refine ccA ([]) (cT) ?_) | (refine And.intro (by kernel_rfl) ?_) | (refine stpQ ?_))
        (refine z02 (by rfl) ?_ ?_ (by rfl)) <;> (repeat' (first | (exact eqA) | (refine And.intro ?_ ?_) | ((fail_if_success (with_reducible (show _ = _))); (show _ = _)))) <;> rfl
      | true =>
        cases mb with
        | false =>
          obtain rfl : fl = false := hno rfl
          clear hfl hbk hno
          repeat ((try conv => whnf); first | (with_reducible first | refine z0a (fun Qs hN hE hR => ?_) | refine z08 ?_ | refine z00 (fun Qb kN kE kX kR => ?_) | refine z04 ?_ | refine z05 ?_ | refine z09 ?_ | refine z06 ?_ | refine z07 ?_ | (show W _ _ _ (.cond _ _ _) _ _; refine z03 rfl ?_) | (refine hN _ ?_; try clear hN hE hR Qs; (try (conv => arg 6; dsimp only [ovl, List.set, List.map, ren0]))) | ((first | refine hE _ _ ?_ | refine hR _ ?_); try clear hN hE hR Qs) | ((first | refine kN _ ?_ | refine kE _ ?_ | refine kX _ _ rfl ?_ | refine kR _ ?_); try clear kN kE kX kR Qb)) | (refine ccA ([]) (cT) ?_) | (refine And.intro (by kernel_rfl) ?_) | (refine stpQ ?_))
          (refine z02 (by rfl) ?_ ?_ (by rfl)) <;> (repeat' (first | (exact eqA) | (refine And.intro ?_ ?_) | ((fail_if_success (with_reducible (show _ = _))); (show _ = _)))) <;> rfl
        | true =>
          change CT _ _ _ _ (.tup [.str (z1Z names bks sides), .bool true]) _ at cT
          have hbk2 := hbk rfl rfl rfl
          clear hbk hfl hno
          generalize z1Z names bks sides = mt at *
          by_cases hb : mt = t
          ·obtain rfl : fl = true := by rw [hbk2]; exact decide_eq_true hb
           repeat ((try conv => whnf); first | (with_reducible first | refine z0a (fun Qs hN hE hR => ?_) | refine z08 ?_ | refine z00 (fun Qb kN kE kX kR => ?_) | refine z04 ?_ | refine z05 ?_ | refine z09 ?_ | refine z06 ?_ | refine z07 ?_ | (show W _ _ _ (.cond _ _ _) _ _; refine z03 rfl ?_) | (refine hN _ ?_; try clear hN hE hR Qs; (try (conv => arg 6; dsimp only [ovl, List.set, List.map, ren0]))) | ((first | refine hE _ _ ?_ | refine hR _ ?_); try clear hN hE hR Qs) | ((first | refine kN _ ?_ | refine kE _ ?_ | refine kX _ _ rfl ?_ | refine kR _ ?_); try clear kN kE kX kR Qb)) | (refine ccA ([]) (cT) ?_) | (refine z3k hb ?_) | (refine And.intro (by kernel_rfl) ?_) | (refine stpQ ?_))
           (refine z02 (by rfl) ?_ ?_ (by rfl)) <;> (repeat' (first | (exact eqA) | (refine And.intro ?_ ?_) | ((fail_if_success (with_reducible (show _ = _))); (show _ = _)))) <;> rfl
          ·obtain rfl : fl = false := by rw [hbk2]; exact decide_eq_false hb
           repeat ((try conv => whnf); first | (with_reducible first | refine z0a (fun Qs hN hE hR => ?_) | refine z08 ?_ | refine z00 (fun Qb kN kE kX kR => ?_) | refine z04 ?_ | refine z05 ?_ | refine z09 ?_ | refine z06 ?_ | refine z07 ?_ | (show W _ _ _ (.cond _ _ _) _ _; refine z03 rfl ?_) | (refine hN _ ?_; try clear hN hE hR Qs; (try (conv => arg 6; dsimp only [ovl, List.set, List.map, ren0]))) | ((first | refine hE _ _ ?_ | refine hR _ ?_); try clear hN hE hR Qs) | ((first | refine kN _ ?_ | refine kE _ ?_ | refine kX _ _ rfl ?_ | refine kR _ ?_); try clear kN kE kX kR Qb)) | (refine ccA ([]) (cT) ?_) | (refine z3j hb ?_) | (refine And.intro (by kernel_rfl) ?_) | (refine stpQ ?_))
           (refine z02 (by rfl) ?_ ?_ (by rfl)) <;> (repeat' (first | (exact eqA) | (refine And.intro ?_ ?_) | ((fail_if_success (with_reducible (show _ = _))); (show _ = _)))) <;> rfl
end
end Go.Proofs.YtfjbinbpgdiafaaGreatDoor
namespace Go.Proofs.YtfjbinbpgdiafaaGreatDoor
set_option linter.unusedVariables false
set_option linter.unusedSimpArgs false
set_option linter.unusedSectionVars false
open Go.RowKit Pl
theorem zd5 (t : Bs) (w : Int) (ht : (t.length : Int) ≤ 1048576) :
 (∃ (names : List Bs) (bks : List (List Lf)) (sides : List Bs), (names.length ≤ 8 ∧ bks.length ≤ 8 ∧ (∀ b ∈ bks, leavesOk b = true) ∧ sides.length ≤ 64) ∧ CT Tryz.prog 25 [] [.str t, .int .i64 w] (.tup [.agg [.ref 1, .ref 2, .ref 3], .bool true]) [.deep 1 (strE names) [], .deep 1 (vwD bks) [], .deep 1 (strE sides) []] ∧ CT Tryz.prog 26 [] [.str t, .int .i64 w] (.tup [.agg [.sl 1 (strE names), .sl 1 (bkE bks), .sl 1 (strE sides)], .bool true]) []) ∨
 (CT Tryz.prog 25 [] [.str t, .int .i64 w] (.tup [.agg [.ref 1, .ref 2, .ref 3], .bool false]) [.deep 1 [] [], .deep 1 [] [], .deep 1 [] []] ∧ CT Tryz.prog 26 [] [.str t, .int .i64 w] (.tup [.agg [.sl 1 [], .sl 1 [], .sl 1 []], .bool false]) []) := by
 by_cases hx : ∃ names bks sides, z15 names bks sides w = true ∧ t = z1Z names bks sides
 ·obtain ⟨names, bks, sides, hm, hT⟩ := hx
  obtain ⟨n1, n8, nm, b8, bl, w0, sw, s64⟩ := z21 hm
  have e0 : t.drop 0 = z0f names.length ++ (names.flatMap z0e ++ (z0f bks.length ++ (bks.flatMap bkT ++ (z0f sides.length ++ (sides.flatten ++ []))))) := by rw [List.drop_zero, hT, z1Z, List.append_nil]
  have hlen := congrArg List.length e0
  simp only [List.drop_zero, List.length_append, List.length_nil] at hlen
  have e1 := z2q rfl e0
  have e2 := z2q rfl e1
  have e3 := z2q rfl e2
  have e4 := z2q rfl e3
  have e5 := z2q rfl e4
  have r0 := z3G (by omega) e0 false
  have r1 := nm_dec nm e1
  have r2 := z3G (by omega) e2 false
  have r3 := bk_dec bl e3
  have r3' := bo_dec bl e3
  have r4 := z3G (by omega) e4 false
  have r5 := sd_dec sw e5
  have m1 : min names.length 9 = names.length := by omega
  have m2 : min bks.length 9 = bks.length := by omega
  have k1 : min names.length 10 = names.length := by omega
  have k2 : min bks.length 10 = bks.length := by omega
  have k3 : min sides.length 70 = sides.length := by omega
  have hG : bkG (bkO bks) = bks := by simp [bkG, bkO, Function.comp_def]
  have hA : okA (bkO bks) = true := by simp [okA, bkO]
  have s2 := z5I t w (by omega) _ _ false names _ false _ _ false bks _ false _ _ false sides _ false r0 (by rw [m1]; exact r1) r2 (by rw [m2]; exact r3) r4 r5 true (by
   rw [z1b.2 w0, hm, decide_eq_true hT.symm]
   have : (0 + (z0f names.length).length + (names.flatMap z0e).length + (z0f bks.length).length + (bks.flatMap bkT).length + (z0f sides.length).length + sides.flatten.length) = t.length := by omega
   rw [this]
   simp [z3b])
  have s1 := z5N t w (by omega) _ _ false names _ false _ _ false (bkO bks) _ false _ _ false sides _ false r0 (by rw [k1]; exact r1) r2 (by rw [k2]; exact r3') r4 (by rw [k3]; exact r5) true (by
   rw [hG, hA, hm, decide_eq_true hT.symm]
   rfl)
  rw [hG] at s1
  exact .inl ⟨names, bks, sides, ⟨n8, b8, bl, s64⟩, s2, s1⟩
 ·have hn : ∀ names bks sides, (z15 names bks sides w && decide (z1Z names bks sides = t)) = false := fun names bks sides => by
   cases h1 : z15 names bks sides w with
   | false => rfl
   | true =>
     rw [Bool.true_and]
     exact decide_eq_false fun c => hx ⟨names, bks, sides, h1, c.symm⟩
  have s2 : CT Tryz.prog 25 [] [.str t, .int .i64 w] (.tup [.agg [.ref 1, .ref 2, .ref 3], .bool false]) [.deep 1 [] [], .deep 1 [] [], .deep 1 [] []] := by
   rcases h1 : z1w t 0 false with ⟨n1, q1, b1⟩
   rcases hR0 : rdL (fNm t) (min n1 9) q1 b1 with ⟨names, q2, b2⟩
   rcases h2 : z1w t q2 b2 with ⟨n2, q3, b3⟩
   rcases hR2 : rdL (fBk t) (min n2 9) q3 b3 with ⟨bks, q4, b4⟩
   rcases h3 : z1w t q4 b4 with ⟨n3, q5, b5⟩
   rcases hR4 : rdL (fSd t w) n3 q5 b5 with ⟨sides, q6, b6⟩
   exact z5I t w (by omega) n1 q1 b1 names q2 b2 n2 q3 b3 bks q4 b4 n3 q5 b5 sides q6 b6 h1 hR0 h2 hR2 h3 hR4 false (by rw [hn]; simp)
  have s1 : CT Tryz.prog 26 [] [.str t, .int .i64 w] (.tup [.agg [.sl 1 [], .sl 1 [], .sl 1 []], .bool false]) [] := by
   rcases h1 : numS t 0 false with ⟨n1, q1, b1⟩
   rcases hR0 : rdL (fNm t) (min n1 10) q1 b1 with ⟨names, q2, b2⟩
   rcases h2 : numS t q2 b2 with ⟨n2, q3, b3⟩
   rcases hR2 : rdL (fBo t) (min n2 10) q3 b3 with ⟨os, q4, b4⟩
   rcases h3 : numS t q4 b4 with ⟨n3, q5, b5⟩
   rcases hR4 : rdL (fSd t w) (min n3 70) q5 b5 with ⟨sides, q6, b6⟩
   exact z5N t w (by omega) n1 q1 b1 names q2 b2 n2 q3 b3 os q4 b4 n3 q5 b5 sides q6 b6 h1 hR0 h2 hR2 h3 hR4 false (by rw [hn]; simp)
  exact .inr ⟨s2, s1⟩
end Go.Proofs.YtfjbinbpgdiafaaGreatDoor
