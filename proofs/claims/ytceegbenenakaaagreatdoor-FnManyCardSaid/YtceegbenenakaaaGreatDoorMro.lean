/- Functions by content: the program reads proofs of many. -/
import Derived.Test.YtceegbenenakaaaGreatDoorMtx
import Derived.Test.YtceegbenenakaaaGreatDoorGg
namespace Go.Proofs.YtceegbenenakaaaGreatDoor
set_option linter.unusedVariables false
set_option linter.unusedSimpArgs false
set_option linter.unusedSectionVars false
open Go.RowKit Pl
section
attribute [local irreducible] z0s z0x z0C AnsP LeP W CvE
theorem z6v (t : Bs) (ht : (t.length : Int) ≤ 1000000000) : CT Tryz.prog 49 [] [.str t] (.tup [.ref 1, .bool (z17 t).isSome]) [.deep 2 (lvE ((z17 t).getD [])) []] :=
 zbC 0 (z76 t ht) rfl (by decide) (cl_lv _)
theorem cl_stM (l : List Bs) : ∀ e ∈ strE l, ∀ c ∈ e, cl0 c := fun e he c hc => by
 simp only [strE, List.mem_map] at he
 obtain ⟨x, _, rfl⟩ := he
 simp only [List.mem_singleton] at hc
 subst hc; trivial
theorem za7 (t : Bs) (q : Nat) : (z0n t q false).1.length ≤ 20000 := by
 unfold z0n
 rcases hr : z0r t q with _ | ⟨l, c⟩
 ·simp
 ·exact (z1x hr).2.2
theorem min9 (n : Nat) : ((min n 9 : Nat) : Int) = if (9 : Int) < (n : Int) then 9 else (n : Int) := by split <;> omega
set_option maxRecDepth 100000 in
set_option maxHeartbeats 16000000 in
theorem z8k (t : Bs) (w : Int) (ht : t.length ≤ 2000000) (n1 q1 : Nat) (b1 : Bool) (names : List Bs) (q2 : Nat) (b2 : Bool) (n2 q3 : Nat) (b3 : Bool) (bks : List (List Lf)) (q4 : Nat) (b4 : Bool) (n3 q5 : Nat) (b5 : Bool) (sides : List Bs) (q6 : Nat) (b6 : Bool)
 (h1 : z1M t 0 false = (n1, q1, b1)) (hR0 : rdL (fNm t) (min n1 9) q1 b1 = (names, q2, b2)) (h2 : z1M t q2 b2 = (n2, q3, b3)) (hR2 : rdL (fBk t) (min n2 9) q3 b3 = (bks, q4, b4)) (h3 : z1M t q4 b4 = (n3, q5, b5)) (hR4 : rdL (fSd t w) n3 q5 b5 = (sides, q6, b6))
 (fl : Bool) (hfl : fl = (inB w 1 32 && (z2J b6 q6 t.length && (z3W names bks sides w && decide (z3H names bks sides = t))))) :
 CT Tryz.prog 14 [] [.str t, .int .i64 w] (.tup [.agg [.ref 1, .ref 2, .ref 3], .bool fl]) [.deep 1 (strE (bif fl then names else [])) [], .deep 1 (vwD (bif fl then bks else [])) [], .deep 1 (strE (bif fl then sides else [])) []] := by
 have ht' : (t.length : Int) ≤ 1000000000 := by omega
 have cW := z3j w
 cases hw : inB w 1 32 with
 | false =>
   rw [hw] at cW hfl
   obtain rfl : fl = false := by rw [hfl]; rfl
   refine z08 z26 1 rfl Tryz.func14 rfl rfl rfl ?_
   conv => arg 6; whnf
   repeat ((try conv => whnf); first | (with_reducible first | refine z0b (fun Qs hN hE hR => ?_) | refine z09 ?_ | refine z02 (fun Qb kN kE kX kR => ?_) | refine z04 ?_ | refine z05 ?_ | refine z0a ?_ | refine z06 ?_ | refine z07 ?_ | (show W _ _ _ (.cond _ _ _) _ _; refine z03 rfl ?_) | (refine hN _ ?_; try clear hN hE hR Qs; (try (conv => arg 6; dsimp only [ovl, List.set, List.map, ren0]))) | ((first | refine hE _ _ ?_ | refine hR _ ?_); try clear hN hE hR Qs) | ((first | refine kN _ ?_ | refine kE _ ?_ | refine kX _ _ rfl ?_ | refine kR _ ?_); try clear kN kE kX kR Qb)) | (refine ccA ([]) (cW) ?_) | (refine And.intro (by kernel_rfl) ?_) | (refine stpQ ?_))
   (refine z01 (by rfl) ?_ ?_ (by rfl)) <;> (repeat' (first | (exact eqA) | (refine And.intro ?_ ?_) | ((fail_if_success (with_reducible (show _ = _))); (show _ = _)))) <;> first | rfl | decide
 | true =>
 rw [hw] at cW hfl
 have hwi := z1g.1 hw
 obtain ⟨wn, rfl⟩ : ∃ n : Nat, w = n := ⟨w.toNat, by omega⟩
 rw [Bool.true_and] at hfl
 have c1 := zcm t 0 false ht' (Nat.zero_le _)
 have lq0 := (z32 (t := t) (p := 0) (bad := false) (Nat.zero_le _)).1
 rw [h1] at c1 lq0
 simp only at c1 lq0
 have lS : ∀ q, q ≤ t.length → (z0n t q false).2.1 ≤ t.length := fun q h => (z19 h).1
 have lq2' := z9q (f := fNm t) (N := t.length) lS (min n1 9) q1 b1 lq0
 rw [hR0] at lq2'
 simp only at lq2'
 have c2 := zcm t q2 b2 ht' lq2'
 have lq2 := (z32 (t := t) (p := q2) (bad := b2) lq2').1
 rw [h2] at c2 lq2
 simp only at c2 lq2
 have lq4' := z9q (f := fBk t) (N := t.length) lS (min n2 9) q3 b3 lq2
 rw [hR2] at lq4'
 simp only at lq4'
 have c3 := zcm t q4 b4 ht' lq4'
 have lq4 := z32 (t := t) (p := q4) (bad := b4) lq4'
 rw [h3] at c3 lq4
 simp only at c3 lq4
 obtain ⟨lq4, ln3⟩ := lq4
 have lT : ∀ q, q ≤ t.length → (fSd t (wn : Int) q).2.1 ≤ t.length := fun q h => zbo h
 have lq6 := z9q (f := fSd t (wn : Int)) (N := t.length) lT n3 q5 b5 lq4
 have hct := zbH (f := fSd t (wn : Int)) (fun q => by
  rw [zbJ]
  have := za6 t wn q
  exact ⟨this.1, fun h => by have := this.2 h; omega⟩) n3 q5 b5
 rw [hR4] at lq6 hct
 simp only at lq6 hct
 have hN1 := z8f (fNm t) (min n1 9) q1 b1
 have hN2 := z8g (f := fNm t) (P := fun s => (s.length : Int) ≤ 100000000) (fun q => by
  have := za7 t q
  show ((z0n t q false).1.length : Int) ≤ _
  omega) (min n1 9) q1 b1
 rw [hR0] at hN1 hN2
 simp only at hN1 hN2
 have hB1 := z8f (fBk t) (min n2 9) q3 b3
 have hB2 := z8g (f := fBk t) (P := fun b => leavesOk b = true) (fun q => zbK) (min n2 9) q3 b3
 rw [hR2] at hB1 hB2
 simp only at hB1 hB2
 have cT := z4Y names bks sides (wn : Int) (by omega) hN2 (by omega) hB2 (by omega)
 rw [z7p, ← z8d] at cT
 have cD := zd8 t q6 b6
 have m1 := min9 n1
 have m2 := min9 n2
 clear hct hN1 hN2 hB1 hB2 h1 h2 h3 lS lT hw
 unfold fldB at c1 c2 c3 cD
 refine z08 z26 1 rfl Tryz.func14 rfl rfl rfl ?_
 conv => arg 6; whnf
 repeat ((try conv => whnf); first | (with_reducible first | refine z0b (fun Qs hN hE hR => ?_) | refine z09 ?_ | refine z02 (fun Qb kN kE kX kR => ?_) | refine z04 ?_ | refine z05 ?_ | refine z0a ?_ | refine z06 ?_ | refine z07 ?_ | (show W _ _ _ (.cond _ _ _) _ _; refine z03 rfl ?_) | (refine hN _ ?_; try clear hN hE hR Qs; (try (conv => arg 6; dsimp only [ovl, List.set, List.map, ren0]))) | ((first | refine hE _ _ ?_ | refine hR _ ?_); try clear hN hE hR Qs) | ((first | refine kN _ ?_ | refine kE _ ?_ | refine kX _ _ rfl ?_ | refine kR _ ?_); try clear kN kE kX kR Qb)) | (refine ccA ([]) (cW) ?_) | (refine ccB ([_]) (c1) ?_) | (refine Exists.intro ((min n1 9 : Nat) : Int) (And.intro m1 ?_)) | (refine And.intro (by kernel_rfl) ?_) | (refine stpQ ?_))
 refine z0l 0 ⟨[(0, .str t), (1, .int .i64 (wn : Int)), (4, .ptr 1 0 0), (6, .ptr 2 0 0), (7, .ptr 3 0 0)], [(1, some (.box [.val nilV, .val nilV, .val nilV])), (2, some (.box [.str t, .int .i64 (q2 : Int), .bool b2])), (3, some (.box [.ref 4, .val nilV, .val nilV])), (4, some (.row 1 (strE names)))], 5⟩ (Nat × Nat × Bool × List Bs) (fun x => ⟨[(0, .str t), (1, .int .i64 (wn : Int)), (4, .ptr 1 0 0), (6, .ptr 2 0 0), (7, .ptr 3 0 0), (8, .int .i64 (x.1 : Int))], [(1, some (.box [.val nilV, .val nilV, .val nilV])), (2, some (.box [.str t, .int .i64 (x.2.1 : Int), .bool x.2.2.1])), (3, some (.box [.ref 4, .val nilV, .val nilV])), (4, some (.row 1 (strE x.2.2.2)))], 5⟩) (fun x => x.1 ≤ min n1 9 ∧ x.2.2.2.length + x.1 = min n1 9 ∧ RdAt (fNm t) (names, q2, b2) x.1 x.2.2.2 x.2.1 x.2.2.1 ∧ x.2.1 ≤ t.length) (fun x => x.1) (min n1 9, q1, b1, []) ⟨Nat.le_refl _, by simp, by unfold RdAt; rw [hR0]; rfl, lq0⟩ ?_ ?_ ?_
 ·(refine z00 (by rfl) ?_ ?_)
  all_goals (repeat' (first | (exact trivial) | ((try conv => whnf); first | (exact trivial) | (refine And.intro ?_ ?_))))
  all_goals first
   | rfl
   | decide
 ·intro x hx
  obtain ⟨k, q, bd, s⟩ := x
  obtain ⟨hk, hl, hat, hq⟩ := hx
  dsimp only at hk hl hat hq ⊢
  have hll := z0g s
  by_cases hgo : bd = false ∧ 0 < k
  ·obtain ⟨rfl, hlt⟩ := hgo
   obtain ⟨m, rfl⟩ : ∃ m, k = m + 1 := ⟨k - 1, by omega⟩
   have k1 : ((m + 1 : Nat) : Int) > 0 := by omega
   have c5 := z69 t q false ht' hq
   have hle := (z19 (t := t) (p := q) (bad := false) hq).1
   rcases hTk : z0n t q false with ⟨u, q', b'⟩
   have hst := hat.step (u := u) (q1 := q') (b1 := b') hTk
   rw [hTk] at c5 hle
   dsimp only at c5 hle
   have happ := z30 s u
   unfold fldB at c5
   repeat ((try conv => whnf); first | (with_reducible first | refine z0b (fun Qs hN hE hR => ?_) | refine z09 ?_ | refine z02 (fun Qb kN kE kX kR => ?_) | refine z04 ?_ | refine z05 ?_ | refine z0a ?_ | refine z06 ?_ | refine z07 ?_ | (show W _ _ _ (.cond _ _ _) _ _; refine z03 rfl ?_) | (refine hN _ ?_; try clear hN hE hR Qs; (try (conv => arg 6; dsimp only [ovl, List.set, List.map, ren0]))) | ((first | refine hE _ _ ?_ | refine hR _ ?_); try clear hN hE hR Qs) | ((first | refine kN _ ?_ | refine kE _ ?_ | refine kX _ _ rfl ?_ | refine kR _ ?_); try clear kN kE kX kR Qb)) | (refine z0i k1 ?_) | (refine ccB ([_]) (c5) ?_) | (refine And.intro (by simp only [List.length_append, List.length_set, List.length_replicate, List.length_cons, List.length_nil]; omega) ?_) | (refine And.intro (by kernel_rfl) ?_) | (refine stpQ ?_))
   refine ⟨(m, q', b', s ++ [u]), ⟨by show m ≤ min n1 9; omega, by simp; omega, hst, hle⟩, (by show m < m + 1; omega), ?_⟩
   (try dsimp only)
   rw [happ]
   (refine z00 (by rfl) ?_ ?_) <;> (repeat' (first | (exact eqA) | (refine And.intro ?_ ?_) | ((fail_if_success (with_reducible (show _ = _))); (show _ = _)))) <;> rfl
  ·have e := hat.stop (by
    cases bd with
    | true => exact .inl rfl
    | false => exact .inr (by have : ¬ 0 < k := fun h => hgo ⟨rfl, h⟩; omega))
   simp only [Prod.mk.injEq] at e
   obtain ⟨e1, e2, e3⟩ := e
   subst e1 e2 e3
   by_cases hk0 : (k : Int) > 0
   ·obtain rfl : b2 = true := by
     cases b2 with
     | true => rfl
     | false => exact absurd ⟨rfl, by omega⟩ hgo
    repeat ((try conv => whnf); first | (with_reducible first | refine z0b (fun Qs hN hE hR => ?_) | refine z09 ?_ | refine z02 (fun Qb kN kE kX kR => ?_) | refine z04 ?_ | refine z05 ?_ | refine z0a ?_ | refine z06 ?_ | refine z07 ?_ | (show W _ _ _ (.cond _ _ _) _ _; refine z03 rfl ?_) | (refine hN _ ?_; try clear hN hE hR Qs; (try (conv => arg 6; dsimp only [ovl, List.set, List.map, ren0]))) | ((first | refine hE _ _ ?_ | refine hR _ ?_); try clear hN hE hR Qs) | ((first | refine kN _ ?_ | refine kE _ ?_ | refine kX _ _ rfl ?_ | refine kR _ ?_); try clear kN kE kX kR Qb)) | (refine z0i hk0 ?_) | (refine stpQ ?_))
    (refine z00 (by rfl) ?_ ?_) <;> (repeat' (first | (exact eqA) | (refine And.intro ?_ ?_) | ((fail_if_success (with_reducible (show _ = _))); (show _ = _)))) <;> rfl
   ·repeat ((try conv => whnf); first | (with_reducible first | refine z0b (fun Qs hN hE hR => ?_) | refine z09 ?_ | refine z02 (fun Qb kN kE kX kR => ?_) | refine z04 ?_ | refine z05 ?_ | refine z0a ?_ | refine z06 ?_ | refine z07 ?_ | (show W _ _ _ (.cond _ _ _) _ _; refine z03 rfl ?_) | (refine hN _ ?_; try clear hN hE hR Qs; (try (conv => arg 6; dsimp only [ovl, List.set, List.map, ren0]))) | ((first | refine hE _ _ ?_ | refine hR _ ?_); try clear hN hE hR Qs) | ((first | refine kN _ ?_ | refine kE _ ?_ | refine kX _ _ rfl ?_ | refine kR _ ?_); try clear kN kE kX kR Qb)) | (refine z0m hk0 ?_) | (refine stpQ ?_))
    (refine z00 (by rfl) ?_ ?_) <;> (repeat' (first | (exact eqA) | (refine And.intro ?_ ?_) | ((fail_if_success (with_reducible (show _ = _))); (show _ = _)))) <;> rfl
 ·repeat ((try conv => whnf); first | (with_reducible first | refine z0b (fun Qs hN hE hR => ?_) | refine z09 ?_ | refine z02 (fun Qb kN kE kX kR => ?_) | refine z04 ?_ | refine z05 ?_ | refine z0a ?_ | refine z06 ?_ | refine z07 ?_ | (show W _ _ _ (.cond _ _ _) _ _; refine z03 rfl ?_) | (refine hN _ ?_; try clear hN hE hR Qs; (try (conv => arg 6; dsimp only [ovl, List.set, List.map, ren0]))) | ((first | refine hE _ _ ?_ | refine hR _ ?_); try clear hN hE hR Qs) | ((first | refine kN _ ?_ | refine kE _ ?_ | refine kX _ _ rfl ?_ | refine kR _ ?_); try clear kN kE kX kR Qb)) | (refine ccB ([_]) (c2) ?_) | (refine Exists.intro ((min n2 9 : Nat) : Int) (And.intro m2 ?_)) | (refine And.intro (by kernel_rfl) ?_) | (refine stpQ ?_))
  refine z0l 2 ⟨[(0, .str t), (1, .int .i64 (wn : Int)), (4, .ptr 1 0 0), (6, .ptr 2 0 0), (7, .ptr 3 0 0)], [(1, some (.box [.val nilV, .val nilV, .val nilV])), (2, some (.box [.str t, .int .i64 (q4 : Int), .bool b4])), (3, some (.box [.ref 4, .ref 5, .val nilV])), (4, some (.row 1 (strE names))), (5, some (.deep 1 (vwD bks) []))], 6⟩ (Nat × Nat × Bool × List (List Lf)) (fun x => ⟨[(0, .str t), (1, .int .i64 (wn : Int)), (4, .ptr 1 0 0), (6, .ptr 2 0 0), (7, .ptr 3 0 0), (9, .int .i64 (x.1 : Int))], [(1, some (.box [.val nilV, .val nilV, .val nilV])), (2, some (.box [.str t, .int .i64 (x.2.1 : Int), .bool x.2.2.1])), (3, some (.box [.ref 4, .ref 5, .val nilV])), (4, some (.row 1 (strE names))), (5, some (.deep 1 (vwD x.2.2.2) []))], 6⟩) (fun x => x.1 ≤ min n2 9 ∧ x.2.2.2.length + x.1 = min n2 9 ∧ RdAt (fBk t) (bks, q4, b4) x.1 x.2.2.2 x.2.1 x.2.2.1 ∧ x.2.1 ≤ t.length) (fun x => x.1) (min n2 9, q3, b3, []) ⟨Nat.le_refl _, by simp, by unfold RdAt; rw [hR2]; rfl, lq2⟩ ?_ ?_ ?_
  ·(refine z00 (by rfl) ?_ ?_)
   all_goals (repeat' (first | (exact trivial) | ((try conv => whnf); first | (exact trivial) | (refine And.intro ?_ ?_))))
   all_goals first
    | rfl
    | decide
    | exact CvE.nil _
  ·intro x hx
   obtain ⟨k, q, bd, s⟩ := x
   obtain ⟨hk, hl, hat, hq⟩ := hx
   dsimp only at hk hl hat hq ⊢
   have hll := zbE s
   by_cases hgo : bd = false ∧ 0 < k
   ·obtain ⟨rfl, hlt⟩ := hgo
    obtain ⟨m, rfl⟩ : ∃ m, k = m + 1 := ⟨k - 1, by omega⟩
    have k1 : ((m + 1 : Nat) : Int) > 0 := by omega
    have c5 := z69 t q false ht' hq
    have hle := (z19 (t := t) (p := q) (bad := false) hq).1
    have hul := (z19 (t := t) (p := q) (bad := false) hq).2
    have hst := hat.step (u := (fBk t q).1) (q1 := (fBk t q).2.1) (b1 := (fBk t q).2.2) rfl
    unfold fBk at hst
    rcases hTk : z0n t q false with ⟨u, q', b'⟩
    rw [hTk] at c5 hle hul hst
    dsimp only at c5 hle hul hst
    have c6 := z6v u (by omega)
    have happ := ze8 s ((z17 u).getD [])
    generalize (z17 u).getD [] = lv at *
    generalize (z17 u).isSome = og at *
    unfold fldB at c5
    cases b' <;> cases og
    all_goals
     repeat ((try conv => whnf); first | (with_reducible first | refine z0b (fun Qs hN hE hR => ?_) | refine z09 ?_ | refine z02 (fun Qb kN kE kX kR => ?_) | refine z04 ?_ | refine z05 ?_ | refine z0a ?_ | refine z06 ?_ | refine z07 ?_ | (show W _ _ _ (.cond _ _ _) _ _; refine z03 rfl ?_) | (refine hN _ ?_; try clear hN hE hR Qs; (try (conv => arg 6; dsimp only [ovl, List.set, List.map, ren0]))) | ((first | refine hE _ _ ?_ | refine hR _ ?_); try clear hN hE hR Qs) | ((first | refine kN _ ?_ | refine kE _ ?_ | refine kX _ _ rfl ?_ | refine kR _ ?_); try clear kN kE kX kR Qb)) | (refine z0i k1 ?_) | (refine ccB ([_]) (c5) ?_) | (refine ccA ([]) (c6) ?_) | (refine And.intro (by simp only [List.length_append, List.length_set, List.length_replicate, List.length_cons, List.length_nil]; omega) ?_) | (refine And.intro (by kernel_rfl) ?_) | (refine stpQ ?_))
     refine ⟨(m, q', _, s ++ [lv]), ⟨by show m ≤ min n2 9; omega, by simp; omega, hst, hle⟩, (by show m < m + 1; omega), ?_⟩
     (try dsimp only)
     rw [happ]
     (refine z00 (by rfl) ?_ ?_) <;> (repeat' (first | (exact eqA) | (refine And.intro ?_ ?_) | ((fail_if_success (with_reducible (show _ = _))); (show _ = _)))) <;> rfl
   ·have e := hat.stop (by
     cases bd with
     | true => exact .inl rfl
     | false => exact .inr (by have : ¬ 0 < k := fun h => hgo ⟨rfl, h⟩; omega))
    simp only [Prod.mk.injEq] at e
    obtain ⟨e1, e2, e3⟩ := e
    subst e1 e2 e3
    by_cases hk0 : (k : Int) > 0
    ·obtain rfl : b4 = true := by
      cases b4 with
      | true => rfl
      | false => exact absurd ⟨rfl, by omega⟩ hgo
     repeat ((try conv => whnf); first | (with_reducible first | refine z0b (fun Qs hN hE hR => ?_) | refine z09 ?_ | refine z02 (fun Qb kN kE kX kR => ?_) | refine z04 ?_ | refine z05 ?_ | refine z0a ?_ | refine z06 ?_ | refine z07 ?_ | (show W _ _ _ (.cond _ _ _) _ _; refine z03 rfl ?_) | (refine hN _ ?_; try clear hN hE hR Qs; (try (conv => arg 6; dsimp only [ovl, List.set, List.map, ren0]))) | ((first | refine hE _ _ ?_ | refine hR _ ?_); try clear hN hE hR Qs) | ((first | refine kN _ ?_ | refine kE _ ?_ | refine kX _ _ rfl ?_ | refine kR _ ?_); try clear kN kE kX kR Qb)) | (refine z0i hk0 ?_) | (refine stpQ ?_))
     (refine z00 (by rfl) ?_ ?_) <;> (repeat' (first | (exact eqA) | (refine And.intro ?_ ?_) | ((fail_if_success (with_reducible (show _ = _))); (show _ = _)))) <;> rfl
    ·repeat ((try conv => whnf); first | (with_reducible first | refine z0b (fun Qs hN hE hR => ?_) | refine z09 ?_ | refine z02 (fun Qb kN kE kX kR => ?_) | refine z04 ?_ | refine z05 ?_ | refine z0a ?_ | refine z06 ?_ | refine z07 ?_ | (show W _ _ _ (.cond _ _ _) _ _; refine z03 rfl ?_) | (refine hN _ ?_; try clear hN hE hR Qs; (try (conv => arg 6; dsimp only [ovl, List.set, List.map, ren0]))) | ((first | refine hE _ _ ?_ | refine hR _ ?_); try clear hN hE hR Qs) | ((first | refine kN _ ?_ | refine kE _ ?_ | refine kX _ _ rfl ?_ | refine kR _ ?_); try clear kN kE kX kR Qb)) | (refine z0m hk0 ?_) | (refine stpQ ?_))
     (refine z00 (by rfl) ?_ ?_) <;> (repeat' (first | (exact eqA) | (refine And.intro ?_ ?_) | ((fail_if_success (with_reducible (show _ = _))); (show _ = _)))) <;> rfl
  ·repeat ((try conv => whnf); first | (with_reducible first | refine z0b (fun Qs hN hE hR => ?_) | refine z09 ?_ | refine z02 (fun Qb kN kE kX kR => ?_) | refine z04 ?_ | refine z05 ?_ | refine z0a ?_ | refine z06 ?_ | refine z07 ?_ | (show W _ _ _ (.cond _ _ _) _ _; refine z03 rfl ?_) | (refine hN _ ?_; try clear hN hE hR Qs; (try (conv => arg 6; dsimp only [ovl, List.set, List.map, ren0]))) | ((first | refine hE _ _ ?_ | refine hR _ ?_); try clear hN hE hR Qs) | ((first | refine kN _ ?_ | refine kE _ ?_ | refine kX _ _ rfl ?_ | refine kR _ ?_); try clear kN kE kX kR Qb)) | (refine ccB ([_]) (c3) ?_) | (refine And.intro (by kernel_rfl) ?_) | (refine stpQ ?_))
   refine z0l 4 ⟨[(0, .str t), (1, .int .i64 (wn : Int)), (4, .ptr 1 0 0), (6, .ptr 2 0 0), (7, .ptr 3 0 0)], [(1, some (.box [.val nilV, .val nilV, .val nilV])), (2, some (.box [.str t, .int .i64 (q6 : Int), .bool b6])), (3, some (.box [.ref 4, .ref 5, .ref 6])), (4, some (.row 1 (strE names))), (5, some (.deep 1 (vwD bks) [])), (6, some (.row 1 (strE sides)))], 7⟩ (Nat × Nat × Bool × List Bs) (fun x => ⟨[(0, .str t), (1, .int .i64 (wn : Int)), (4, .ptr 1 0 0), (6, .ptr 2 0 0), (7, .ptr 3 0 0), (12, .int .i64 (n3 : Int)), (13, .int .i64 ((n3 - x.1 : Nat) : Int))], [(1, some (.box [.val nilV, .val nilV, .val nilV])), (2, some (.box [.str t, .int .i64 (x.2.1 : Int), .bool x.2.2.1])), (3, some (.box [.ref 4, .ref 5, .ref 6])), (4, some (.row 1 (strE names))), (5, some (.deep 1 (vwD bks) [])), (6, some (.row 1 (strE x.2.2.2)))], 7⟩) (fun x => x.1 ≤ n3 ∧ x.2.2.2.length + x.1 = n3 ∧ RdAt (fSd t (wn : Int)) (sides, q6, b6) x.1 x.2.2.2 x.2.1 x.2.2.1 ∧ x.2.1 ≤ t.length) (fun x => x.1) (n3, q5, b5, []) ⟨Nat.le_refl _, by simp, by unfold RdAt; rw [hR4]; rfl, lq4⟩ ?_ ?_ ?_
   ·(try dsimp only)
    rw [Nat.sub_self]
    (refine z00 (by rfl) ?_ ?_)
    all_goals (repeat' (first | (exact trivial) | ((try conv => whnf); first | (exact trivial) | (refine And.intro ?_ ?_))))
    all_goals first
     | rfl
     | decide
   ·intro x hx
    obtain ⟨k, q, bd, s⟩ := x
    obtain ⟨hk, hl, hat, hq⟩ := hx
    dsimp only at hk hl hat hq ⊢
    have hll := z0g s
    by_cases hgo : bd = false ∧ 0 < k
    ·obtain ⟨rfl, hlt⟩ := hgo
     obtain ⟨m, rfl⟩ : ∃ m, k = m + 1 := ⟨k - 1, by omega⟩
     obtain ⟨j, hj⟩ : ∃ j, j = n3 - (m + 1) := ⟨_, rfl⟩
     have hj2 : n3 - m = j + 1 := by omega
     rw [← hj]
     have k1 : (j : Int) < (n3 : Int) := by omega
     have c5 := ze3 t q false wn ht' hq
     have hle := z5A (t := t) (p := q) (n := wn) (b := false) hq
     rcases hTk : z0y t q false wn with ⟨u, q', b'⟩
     have hst := hat.step (u := u) (q1 := q') (b1 := b') (by rw [zbJ]; exact hTk)
     rw [hTk] at c5 hle
     dsimp only at c5 hle
     have happ := z30 s u
     unfold fldB at c5
     repeat ((try conv => whnf); first | (with_reducible first | refine z0b (fun Qs hN hE hR => ?_) | refine z09 ?_ | refine z02 (fun Qb kN kE kX kR => ?_) | refine z04 ?_ | refine z05 ?_ | refine z0a ?_ | refine z06 ?_ | refine z07 ?_ | (show W _ _ _ (.cond _ _ _) _ _; refine z03 rfl ?_) | (refine hN _ ?_; try clear hN hE hR Qs; (try (conv => arg 6; dsimp only [ovl, List.set, List.map, ren0]))) | ((first | refine hE _ _ ?_ | refine hR _ ?_); try clear hN hE hR Qs) | ((first | refine kN _ ?_ | refine kE _ ?_ | refine kX _ _ rfl ?_ | refine kR _ ?_); try clear kN kE kX kR Qb)) | (refine z0i k1 ?_) | (refine ccB ([_]) (c5) ?_) | (refine And.intro (by simp only [List.length_append, List.length_set, List.length_replicate, List.length_cons, List.length_nil]; omega) ?_) | (refine And.intro (by kernel_rfl) ?_) | (refine stpQ ?_))
     refine ⟨(m, q', b', s ++ [u]), ⟨by show m ≤ n3; omega, by simp; omega, hst, hle⟩, (by show m < m + 1; omega), ?_⟩
     (try dsimp only)
     rw [happ, hj2]
     (refine z00 (by rfl) ?_ ?_) <;> (repeat' (first | (exact eqA) | (refine And.intro ?_ ?_) | ((fail_if_success (with_reducible (show _ = _))); (show _ = _)))) <;> rfl
    ·have e := hat.stop (by
      cases bd with
      | true => exact .inl rfl
      | false => exact .inr (by have : ¬ 0 < k := fun h => hgo ⟨rfl, h⟩; omega))
     simp only [Prod.mk.injEq] at e
     obtain ⟨e1, e2, e3⟩ := e
     subst e1 e2 e3
     by_cases hk0 : ((n3 - k : Nat) : Int) < (n3 : Int)
     ·obtain rfl : b6 = true := by
       cases b6 with
       | true => rfl
       | false => exact absurd ⟨rfl, by omega⟩ hgo
      repeat ((try conv => whnf); first | (with_reducible first | refine z0b (fun Qs hN hE hR => ?_) | refine z09 ?_ | refine z02 (fun Qb kN kE kX kR => ?_) | refine z04 ?_ | refine z05 ?_ | refine z0a ?_ | refine z06 ?_ | refine z07 ?_ | (show W _ _ _ (.cond _ _ _) _ _; refine z03 rfl ?_) | (refine hN _ ?_; try clear hN hE hR Qs; (try (conv => arg 6; dsimp only [ovl, List.set, List.map, ren0]))) | ((first | refine hE _ _ ?_ | refine hR _ ?_); try clear hN hE hR Qs) | ((first | refine kN _ ?_ | refine kE _ ?_ | refine kX _ _ rfl ?_ | refine kR _ ?_); try clear kN kE kX kR Qb)) | (refine z0i hk0 ?_) | (refine stpQ ?_))
      (refine z00 (by rfl) ?_ ?_) <;> (repeat' (first | (exact eqA) | (refine And.intro ?_ ?_) | ((fail_if_success (with_reducible (show _ = _))); (show _ = _)))) <;> rfl
     ·repeat ((try conv => whnf); first | (with_reducible first | refine z0b (fun Qs hN hE hR => ?_) | refine z09 ?_ | refine z02 (fun Qb kN kE kX kR => ?_) | refine z04 ?_ | refine z05 ?_ | refine z0a ?_ | refine z06 ?_ | refine z07 ?_ | (show W _ _ _ (.cond _ _ _) _ _; refine z03 rfl ?_) | (refine hN _ ?_; try clear hN hE hR Qs; (try (conv => arg 6; dsimp only [ovl, List.set, List.map, ren0]))) | ((first | refine hE _ _ ?_ | refine hR _ ?_); try clear hN hE hR Qs) | ((first | refine kN _ ?_ | refine kE _ ?_ | refine kX _ _ rfl ?_ | refine kR _ ?_); try clear kN kE kX kR Qb)) | (refine z0m hk0 ?_) | (refine stpQ ?_))
      (refine z00 (by rfl) ?_ ?_) <;> (repeat' (first | (exact eqA) | (refine And.intro ?_ ?_) | ((fail_if_success (with_reducible (show _ = _))); (show _ = _)))) <;> rfl
   ·clear hR0 hR2 hR4
    generalize z2J b6 q6 t.length = dn at *
    generalize hmb : z3W names bks sides (wn : Int) = mb at *
    have hbk : ∀ h : mb = true, ∀ hd : dn = true, fl = decide (z3H names bks sides = t) := fun h hd => by rw [hfl, h, hd]; simp
    cases dn with
    | false =>
      obtain rfl : fl = false := by rw [hfl]; rfl
      cases mb <;>
      ·repeat ((try conv => whnf); first | (with_reducible first | refine z0b (fun Qs hN hE hR => ?_) | refine z09 ?_ | refine z02 (fun Qb kN kE kX kR => ?_) | refine z04 ?_ | refine z05 ?_ | refine z0a ?_ | refine z06 ?_ | refine z07 ?_ | (show W _ _ _ (.cond _ _ _) _ _; refine z03 rfl ?_) | (refine hN _ ?_; try clear hN hE hR Qs; (try (conv => arg 6; dsimp only [ovl, List.set, List.map, ren0]))) | ((first | refine hE _ _ ?_ | refine hR _ ?_); try clear hN hE hR Qs) | ((first | refine kN _ ?_ | refine kE _ ?_ | refine kX _ _ rfl ?_ | refine kR _ ?_); try clear kN kE kX kR Qb)) | (refine ccA ([]) (cT) ?_) | (refine ccB ([_]) (cD) ?_) | (refine And.intro (by kernel_rfl) ?_) | (refine stpQ ?_))
       (refine z01 (by rfl) ?_ ?_ (by rfl)) <;> (repeat' (first | (exact eqA) | (refine And.intro ?_ ?_) | ((fail_if_success (with_reducible (show _ = _))); (show _ = _)))) <;> first | rfl | decide
    | true =>
      cases mb with
      | false =>
        obtain rfl : fl = false := by rw [hfl]; rfl
        repeat ((try conv => whnf); first | (with_reducible first | refine z0b (fun Qs hN hE hR => ?_) | refine z09 ?_ | refine z02 (fun Qb kN kE kX kR => ?_) | refine z04 ?_ | refine z05 ?_ | refine z0a ?_ | refine z06 ?_ | refine z07 ?_ | (show W _ _ _ (.cond _ _ _) _ _; refine z03 rfl ?_) | (refine hN _ ?_; try clear hN hE hR Qs; (try (conv => arg 6; dsimp only [ovl, List.set, List.map, ren0]))) | ((first | refine hE _ _ ?_ | refine hR _ ?_); try clear hN hE hR Qs) | ((first | refine kN _ ?_ | refine kE _ ?_ | refine kX _ _ rfl ?_ | refine kR _ ?_); try clear kN kE kX kR Qb)) | (refine ccA ([]) (cT) ?_) | (refine ccB ([_]) (cD) ?_) | (refine And.intro (by kernel_rfl) ?_) | (refine stpQ ?_))
        (refine z01 (by rfl) ?_ ?_ (by rfl)) <;> (repeat' (first | (exact eqA) | (refine And.intro ?_ ?_) | ((fail_if_success (with_reducible (show _ = _))); (show _ = _)))) <;> first | rfl | decide
      | true =>
        change CT _ _ _ _ (.tup [.str (z3H names bks sides), .bool true]) _ at cT
        have hbk2 := hbk rfl rfl
        clear hbk hfl
        generalize z3H names bks sides = mt at *
        by_cases hb : mt = t
        ·obtain rfl : fl = true := by rw [hbk2]; exact decide_eq_true hb
         repeat ((try conv => whnf); first | (with_reducible first | refine z0b (fun Qs hN hE hR => ?_) | refine z09 ?_ | refine z02 (fun Qb kN kE kX kR => ?_) | refine z04 ?_ | refine z05 ?_ | refine z0a ?_ | refine z06 ?_ | refine z07 ?_ | (show W _ _ _ (.cond _ _ _) _ _; refine z03 rfl ?_) | (refine hN _ ?_; try clear hN hE hR Qs; (try (conv => arg 6; dsimp only [ovl, List.set, List.map, ren0]))) | ((first | refine hE _ _ ?_ | refine hR _ ?_); try clear hN hE hR Qs) | ((first | refine kN _ ?_ | refine kE _ ?_ | refine kX _ _ rfl ?_ | refine kR _ ?_); try clear kN kE kX kR Qb)) | (refine ccA ([]) (cT) ?_) | (refine ccB ([_]) (cD) ?_) | (refine z2T hb ?_) | (refine And.intro (by kernel_rfl) ?_) | (refine stpQ ?_))
         (refine z01 (by rfl) ?_ ?_ (by rfl)) <;> (repeat' (first | (exact eqA) | (refine And.intro ?_ ?_) | ((fail_if_success (with_reducible (show _ = _))); (show _ = _)))) <;> first | rfl | exact CvE.refl (cl_stM _)
        ·obtain rfl : fl = false := by rw [hbk2]; exact decide_eq_false hb
         repeat ((try conv => whnf); first | (with_reducible first | refine z0b (fun Qs hN hE hR => ?_) | refine z09 ?_ | refine z02 (fun Qb kN kE kX kR => ?_) | refine z04 ?_ | refine z05 ?_ | refine z0a ?_ | refine z06 ?_ | refine z07 ?_ | (show W _ _ _ (.cond _ _ _) _ _; refine z03 rfl ?_) | (refine hN _ ?_; try clear hN hE hR Qs; (try (conv => arg 6; dsimp only [ovl, List.set, List.map, ren0]))) | ((first | refine hE _ _ ?_ | refine hR _ ?_); try clear hN hE hR Qs) | ((first | refine kN _ ?_ | refine kE _ ?_ | refine kX _ _ rfl ?_ | refine kR _ ?_); try clear kN kE kX kR Qb)) | (refine ccA ([]) (cT) ?_) | (refine ccB ([_]) (cD) ?_) | (refine z4A hb ?_) | (refine And.intro (by kernel_rfl) ?_) | (refine stpQ ?_))
         (refine z01 (by rfl) ?_ ?_ (by rfl)) <;> (repeat' (first | (exact eqA) | (refine And.intro ?_ ?_) | ((fail_if_success (with_reducible (show _ = _))); (show _ = _)))) <;> first | rfl | decide
end
end Go.Proofs.YtceegbenenakaaaGreatDoor
