/- Functions by content: the reference reads complete proofs out of any text. -/
import Derived.Test.YtnhcfmmdaihneaaRw
namespace Go.Proofs.Ytnhcfmmdaihneaa
set_option linter.unusedVariables false
set_option linter.unusedSimpArgs false
set_option linter.unusedSectionVars false
open Go.RowKit Pl
def wh0E : List T := [.sl 2 [], .sl 1 [], .sl 1 [], .int .i64 0, .int .i64 0, .str [], .str [], .int .i64 0, .sl 1 [], .sl 1 [], .sl 1 [], .sl 5 []]
theorem slR_O (t : Bs) : slR t = [.agg (slO (z0R t)), .bool (z0R t).isSome] := by
 unfold slR
 cases z0R t with
 | none => rfl
 | some y => rfl
theorem sgR_O (t : Bs) : sgR t = [.agg (sgO (z35 t)), .bool (z35 t).isSome] := by
 unfold sgR
 cases z35 t with
 | none => rfl
 | some y => rfl
def okS (one : Bool) (l : List (Nat × Option Sg)) : Bool := one && l.all fun y => y.2.isSome
theorem zde (one : Bool) (l : List (Nat × Option Sg)) (y : Nat × Option Sg) : okS one (l ++ [y]) = (okS one l && y.2.isSome) := by simp [okS, Bool.and_assoc]
section
attribute [local irreducible] z0m z0o z0s AnsP LeP W CvE
set_option maxRecDepth 100000 in
set_option maxHeartbeats 16000000 in
theorem z4O (t : Bs) (ht : t.length ≤ 100000000) (pb : Bs) (q1 : Nat) (b1 : Bool) (B : List Lf) (S : List Bs) (one : Bool) (n q2 : Nat) (b2 : Bool) (Tp : List Bs) (q3 : Nat) (b3 : Bool) (sb : Bs) (q4 : Nat) (b4 : Bool) (m q5 : Nat) (b5 : Bool) (st : List (Nat × Option Sg)) (q6 : Nat) (b6 : Bool) (back : Bs) (fine : Bool)
 (hS0 : z0X t 0 false = (pb, q1, b1)) (kpf : CT Try.prog 9 [] [.str pb, .int .i64 16] (.tup [.agg [.ref 1, .ref 2], .bool one]) [.row 2 (lvE B), .row 1 (strE S)]) (hN1 : numS t q1 b1 = (n, q2, b2)) (hT : z27 t 16 (min n 4) q2 b2 = (Tp, q3, b3)) (hS3 : z0X t q3 b3 = (sb, q4, b4)) (hN4 : numS t q4 b4 = (m, q5, b5)) (hSt : stS t (min m 5) q5 b5 = (st, q6, b6))
 (cT : CT Try.prog 16 [] [.agg (whC B S Tp (z0R sb) st)] (.tup [.str back, .bool fine]) []) (fl : Bool) (hfl : fl = (!b6 && okS one st && (z0R sb).isSome && fine && decide (back = t))) :
 CT Try.prog 4 [] [.str t] (.tup [.agg (bif fl then whC B S Tp (z0R sb) st else wh0E), .bool fl]) [] := by
 have ht' : (t.length : Int) ≤ 1000000000 := by omega
 have c0 := z3q t 0 false ht' (Nat.zero_le _)
 have l0 := z1K (t := t) (p := 0) (bad := false) (Nat.zero_le _)
 rw [hS0] at c0 l0
 simp only at c0 l0
 have c1 := z8R t q1 b1 ht' l0.1
 have l1 := z32 (t := t) (p := q1) (bad := b1) l0.1
 rw [hN1] at c1 l1
 simp only at c1 l1
 have lT : q3 ≤ t.length := by
  have key : ∀ (k q : Nat) (b : Bool), q ≤ t.length → (z27 t 16 k q b).2.1 ≤ t.length := by
   intro k
   induction k with
   | zero => intro q b h; exact h
   | succ k ih =>
     intro q b h
     cases b with
     | true => exact h
     | false => exact ih _ _ (z3r h)
  have := key (min n 4) q2 b2 l1.1
  rw [hT] at this
  exact this
 have c3 := z3q t q3 b3 ht' lT
 have l3 := z1K (t := t) (p := q3) (bad := b3) lT
 rw [hS3] at c3 l3
 simp only at c3 l3
 have cR := z7l sb (by omega)
 rw [slR_O] at cR
 have c4 := z8R t q4 b4 ht' l3.1
 have l4 := z32 (t := t) (p := q4) (bad := b4) l3.1
 rw [hN4] at c4 l4
 simp only at c4 l4
 obtain ⟨zh, ze, zr, zp, za, zo, zs, zi, hO⟩ := z7m (z0R sb)
 unfold whC at cT ⊢
 unfold wh0E
 rw [hO] at cR cT ⊢
 simp only [List.cons_append, List.nil_append] at cT ⊢
 clear hS0 hN1 hS3 hN4 hO
 generalize (z0R sb).isSome = two at *
 have ho : okS one [] = one := by simp [okS]
 unfold fldB at *
 refine z01 z0y 1 rfl Try.func4 rfl rfl rfl ?_
 conv => arg 6; whnf
 repeat ((try conv => whnf); first | (with_reducible first | refine z0c (fun Qs hN hE hR => ?_) | refine z0a ?_ | refine z02 (fun Qb kN kE kX kR => ?_) | refine z04 ?_ | refine z05 ?_ | refine z0b ?_ | refine z06 ?_ | refine z07 ?_ | (show W _ _ _ (.cond _ _ _) _ _; refine z03 rfl ?_) | (refine hN _ ?_; try clear hN hE hR Qs; (try (conv => arg 6; dsimp only [ovl, List.set, List.map, ren0]))) | ((first | refine hE _ _ ?_ | refine hR _ ?_); try clear hN hE hR Qs) | ((first | refine kN _ ?_ | refine kE _ ?_ | refine kX _ _ rfl ?_ | refine kR _ ?_); try clear kN kE kX kR Qb)) | (refine ccB ([_]) (c0) ?_) | (refine ccA ([]) (kpf) ?_) | (refine ccB ([_]) (c1) ?_) | (refine And.intro (by kernel_rfl) ?_) | (refine stpQ ?_))
 refine z1r 0 ⟨[(0, .str t), (2, .ptr 1 0 0), (4, .ptr 2 0 0), (5, .ptr 3 0 0), (7, .bool one)], [(1, some (.box [.val nilV, .val nilV, .val nilV, .int .i64 0, .int .i64 0, .str [], .str [], .int .i64 0, .val nilV, .val nilV, .val nilV, .val nilV])), (2, some (.box [.str t, .int .i64 (q3 : Int), .bool b3])), (3, some (.box [.ref 4, .ref 5, .ref 6, .int .i64 0, .int .i64 0, .str [], .str [], .int .i64 0, .val nilV, .val nilV, .val nilV, .val nilV])), (4, some (.row 2 (lvE B))), (5, some (.row 1 (strE S))), (6, some (.row 1 (strE Tp)))], 7⟩ (Nat × Nat × Bool × List Bs) (fun x => ⟨[(0, .str t), (2, .ptr 1 0 0), (4, .ptr 2 0 0), (5, .ptr 3 0 0), (7, .bool one), (8, .int .i64 (n : Int)), (9, .int .i64 (x.1 : Int))], [(1, some (.box [.val nilV, .val nilV, .val nilV, .int .i64 0, .int .i64 0, .str [], .str [], .int .i64 0, .val nilV, .val nilV, .val nilV, .val nilV])), (2, some (.box [.str t, .int .i64 (x.2.1 : Int), .bool x.2.2.1])), (3, some (.box [.ref 4, .ref 5, .ref 6, .int .i64 0, .int .i64 0, .str [], .str [], .int .i64 0, .val nilV, .val nilV, .val nilV, .val nilV])), (4, some (.row 2 (lvE B))), (5, some (.row 1 (strE S))), (6, some (.row 1 (strE x.2.2.2)))], 7⟩) (fun x => x.1 ≤ min n 4 ∧ x.2.2.2.length = x.1 ∧ SdAt t 16 (Tp, q3, b3) (min n 4 - x.1) x.2.2.2 x.2.1 x.2.2.1 ∧ x.2.1 ≤ t.length) (fun x => min n 4 - x.1) (0, q2, b2, []) ⟨Nat.zero_le _, rfl, by unfold SdAt; rw [Nat.sub_zero, hT]; rfl, l1.1⟩ ?_ ?_ ?_
 ·(refine z08 (by rfl) ?_ ?_)
  all_goals (repeat' (first | (exact trivial) | ((try conv => whnf); first | (exact trivial) | (refine And.intro ?_ ?_))))
  all_goals first
   | rfl
   | decide
 ·intro x hx
  obtain ⟨k, q, bd, s⟩ := x
  obtain ⟨hk, hl, hat, hq⟩ := hx
  dsimp only at hk hl hat hq ⊢
  have hll := z0q s
  by_cases hgo : bd = false ∧ k < min n 4
  ·obtain ⟨rfl, hlt⟩ := hgo
   obtain ⟨m', hm⟩ : ∃ m', min n 4 - k = m' + 1 := ⟨min n 4 - k - 1, by omega⟩
   rw [hm] at hat
   have c5 := z7T t q false 16 ht' hq
   have hst := hat.step
   have hle := z3r (w := 16) (b := false) hq
   have k1 : (k : Int) < (n : Int) := by omega
   have k2 : (k : Int) < 4 := by omega
   rcases hTk : z0t t q false 16 with ⟨u, q', b'⟩
   rw [hTk] at c5 hst hle
   dsimp only at c5 hst hle
   have happ : strE (s ++ [u]) = strE s ++ [[.str u]] := by simp [strE]
   unfold fldB at c5
   repeat ((try conv => whnf); first | (with_reducible first | refine z0c (fun Qs hN hE hR => ?_) | refine z0a ?_ | refine z02 (fun Qb kN kE kX kR => ?_) | refine z04 ?_ | refine z05 ?_ | refine z0b ?_ | refine z06 ?_ | refine z07 ?_ | (show W _ _ _ (.cond _ _ _) _ _; refine z03 rfl ?_) | (refine hN _ ?_; try clear hN hE hR Qs; (try (conv => arg 6; dsimp only [ovl, List.set, List.map, ren0]))) | ((first | refine hE _ _ ?_ | refine hR _ ?_); try clear hN hE hR Qs) | ((first | refine kN _ ?_ | refine kE _ ?_ | refine kX _ _ rfl ?_ | refine kR _ ?_); try clear kN kE kX kR Qb)) | (refine z0Q k1 ?_) | (refine z0Q k2 ?_) | (refine ccB ([_]) (c5) ?_) | (refine And.intro (by simp only [List.length_append, List.length_set, List.length_replicate, List.length_cons, List.length_nil]; omega) ?_) | (refine And.intro (by kernel_rfl) ?_) | (refine stpQ ?_))
   refine ⟨(k + 1, q', b', s ++ [u]), ⟨by show k + 1 ≤ min n 4; omega, by simp [hl], ?_, hle⟩, (by show min n 4 - (k + 1) < min n 4 - k; omega), ?_⟩
   ·show SdAt t 16 (Tp, q3, b3) (min n 4 - (k + 1)) (s ++ [u]) q' b'
    rw [show min n 4 - (k + 1) = m' by omega]
    exact hst
   ·(try dsimp only)
    rw [happ]
    (refine z08 (by rfl) ?_ ?_) <;> (repeat' (first | (exact eqA) | (refine shE ?_) | (refine And.intro ?_ ?_))) <;> rfl
  ·have e : (Tp, q3, b3) = (s, q, bd) := by
    cases bd
    ·have hkn : min n 4 - k = 0 := by
      have : ¬ k < min n 4 := fun h => hgo ⟨rfl, h⟩
      omega
     rw [hkn] at hat; exact hat.done
    ·exact hat.bad
   simp only [Prod.mk.injEq] at e
   obtain ⟨e1, e2, e3⟩ := e
   subst e1 e2 e3
   cases b3 with
   | true =>
     by_cases k1 : (k : Int) < (n : Int)
     ·by_cases k2 : (k : Int) < 4
      ·repeat ((try conv => whnf); first | (with_reducible first | refine z0c (fun Qs hN hE hR => ?_) | refine z0a ?_ | refine z02 (fun Qb kN kE kX kR => ?_) | refine z04 ?_ | refine z05 ?_ | refine z0b ?_ | refine z06 ?_ | refine z07 ?_ | (show W _ _ _ (.cond _ _ _) _ _; refine z03 rfl ?_) | (refine hN _ ?_; try clear hN hE hR Qs; (try (conv => arg 6; dsimp only [ovl, List.set, List.map, ren0]))) | ((first | refine hE _ _ ?_ | refine hR _ ?_); try clear hN hE hR Qs) | ((first | refine kN _ ?_ | refine kE _ ?_ | refine kX _ _ rfl ?_ | refine kR _ ?_); try clear kN kE kX kR Qb)) | (refine z0Q k1 ?_) | (refine z0Q k2 ?_) | (refine stpQ ?_))
       (refine z08 (by rfl) ?_ ?_) <;> (repeat' (first | (exact eqA) | (refine shE ?_) | (refine And.intro ?_ ?_))) <;> rfl
      ·repeat ((try conv => whnf); first | (with_reducible first | refine z0c (fun Qs hN hE hR => ?_) | refine z0a ?_ | refine z02 (fun Qb kN kE kX kR => ?_) | refine z04 ?_ | refine z05 ?_ | refine z0b ?_ | refine z06 ?_ | refine z07 ?_ | (show W _ _ _ (.cond _ _ _) _ _; refine z03 rfl ?_) | (refine hN _ ?_; try clear hN hE hR Qs; (try (conv => arg 6; dsimp only [ovl, List.set, List.map, ren0]))) | ((first | refine hE _ _ ?_ | refine hR _ ?_); try clear hN hE hR Qs) | ((first | refine kN _ ?_ | refine kE _ ?_ | refine kX _ _ rfl ?_ | refine kR _ ?_); try clear kN kE kX kR Qb)) | (refine z0Q k1 ?_) | (refine z0z k2 ?_) | (refine stpQ ?_))
       (refine z08 (by rfl) ?_ ?_) <;> (repeat' (first | (exact eqA) | (refine shE ?_) | (refine And.intro ?_ ?_))) <;> rfl
     ·repeat ((try conv => whnf); first | (with_reducible first | refine z0c (fun Qs hN hE hR => ?_) | refine z0a ?_ | refine z02 (fun Qb kN kE kX kR => ?_) | refine z04 ?_ | refine z05 ?_ | refine z0b ?_ | refine z06 ?_ | refine z07 ?_ | (show W _ _ _ (.cond _ _ _) _ _; refine z03 rfl ?_) | (refine hN _ ?_; try clear hN hE hR Qs; (try (conv => arg 6; dsimp only [ovl, List.set, List.map, ren0]))) | ((first | refine hE _ _ ?_ | refine hR _ ?_); try clear hN hE hR Qs) | ((first | refine kN _ ?_ | refine kE _ ?_ | refine kX _ _ rfl ?_ | refine kR _ ?_); try clear kN kE kX kR Qb)) | (refine z0z k1 ?_) | (refine stpQ ?_))
      (refine z08 (by rfl) ?_ ?_) <;> (repeat' (first | (exact eqA) | (refine shE ?_) | (refine And.intro ?_ ?_))) <;> rfl
   | false =>
     have hnk : ¬ k < min n 4 := fun h => hgo ⟨rfl, h⟩
     by_cases k1 : (k : Int) < (n : Int)
     ·have k2 : ¬ (k : Int) < 4 := by omega
      repeat ((try conv => whnf); first | (with_reducible first | refine z0c (fun Qs hN hE hR => ?_) | refine z0a ?_ | refine z02 (fun Qb kN kE kX kR => ?_) | refine z04 ?_ | refine z05 ?_ | refine z0b ?_ | refine z06 ?_ | refine z07 ?_ | (show W _ _ _ (.cond _ _ _) _ _; refine z03 rfl ?_) | (refine hN _ ?_; try clear hN hE hR Qs; (try (conv => arg 6; dsimp only [ovl, List.set, List.map, ren0]))) | ((first | refine hE _ _ ?_ | refine hR _ ?_); try clear hN hE hR Qs) | ((first | refine kN _ ?_ | refine kE _ ?_ | refine kX _ _ rfl ?_ | refine kR _ ?_); try clear kN kE kX kR Qb)) | (refine z0Q k1 ?_) | (refine z0z k2 ?_) | (refine stpQ ?_))
      (refine z08 (by rfl) ?_ ?_) <;> (repeat' (first | (exact eqA) | (refine shE ?_) | (refine And.intro ?_ ?_))) <;> rfl
     ·repeat ((try conv => whnf); first | (with_reducible first | refine z0c (fun Qs hN hE hR => ?_) | refine z0a ?_ | refine z02 (fun Qb kN kE kX kR => ?_) | refine z04 ?_ | refine z05 ?_ | refine z0b ?_ | refine z06 ?_ | refine z07 ?_ | (show W _ _ _ (.cond _ _ _) _ _; refine z03 rfl ?_) | (refine hN _ ?_; try clear hN hE hR Qs; (try (conv => arg 6; dsimp only [ovl, List.set, List.map, ren0]))) | ((first | refine hE _ _ ?_ | refine hR _ ?_); try clear hN hE hR Qs) | ((first | refine kN _ ?_ | refine kE _ ?_ | refine kX _ _ rfl ?_ | refine kR _ ?_); try clear kN kE kX kR Qb)) | (refine z0z k1 ?_) | (refine stpQ ?_))
      (refine z08 (by rfl) ?_ ?_) <;> (repeat' (first | (exact eqA) | (refine shE ?_) | (refine And.intro ?_ ?_))) <;> rfl
 ·repeat ((try conv => whnf); first | (with_reducible first | refine z0c (fun Qs hN hE hR => ?_) | refine z0a ?_ | refine z02 (fun Qb kN kE kX kR => ?_) | refine z04 ?_ | refine z05 ?_ | refine z0b ?_ | refine z06 ?_ | refine z07 ?_ | (show W _ _ _ (.cond _ _ _) _ _; refine z03 rfl ?_) | (refine hN _ ?_; try clear hN hE hR Qs; (try (conv => arg 6; dsimp only [ovl, List.set, List.map, ren0]))) | ((first | refine hE _ _ ?_ | refine hR _ ?_); try clear hN hE hR Qs) | ((first | refine kN _ ?_ | refine kE _ ?_ | refine kX _ _ rfl ?_ | refine kR _ ?_); try clear kN kE kX kR Qb)) | (refine ccB ([_]) (c3) ?_) | (refine ccA ([]) (cR) ?_) | (refine ccB ([_]) (c4) ?_) | (refine And.intro (by kernel_rfl) ?_) | (refine stpQ ?_))
  refine z1r 2 ⟨[(0, .str t), (2, .ptr 1 0 0), (4, .ptr 2 0 0), (5, .ptr 3 0 0), (7, .bool (okS one st)), (11, .bool two)], [(1, some (.box [.val nilV, .val nilV, .val nilV, .int .i64 0, .int .i64 0, .str [], .str [], .int .i64 0, .val nilV, .val nilV, .val nilV, .val nilV])), (2, some (.box [.str t, .int .i64 (q6 : Int), .bool b6])), (3, some (.box [.ref 4, .ref 5, .ref 6, .int .i64 zh, .int .i64 ze, .str zr, .str zp, .int .i64 za, .sl 1 zo, .sl 1 zs, .sl 1 zi, .ref 7])), (4, some (.row 2 (lvE B))), (5, some (.row 1 (strE S))), (6, some (.row 1 (strE Tp))), (7, some (.row 5 (stX st)))], 8⟩ (Nat × Nat × Bool × List (Nat × Option Sg)) (fun x => ⟨[(0, .str t), (2, .ptr 1 0 0), (4, .ptr 2 0 0), (5, .ptr 3 0 0), (7, .bool (okS one x.2.2.2)), (11, .bool two), (12, .int .i64 (m : Int)), (13, .int .i64 (x.1 : Int))], [(1, some (.box [.val nilV, .val nilV, .val nilV, .int .i64 0, .int .i64 0, .str [], .str [], .int .i64 0, .val nilV, .val nilV, .val nilV, .val nilV])), (2, some (.box [.str t, .int .i64 (x.2.1 : Int), .bool x.2.2.1])), (3, some (.box [.ref 4, .ref 5, .ref 6, .int .i64 zh, .int .i64 ze, .str zr, .str zp, .int .i64 za, .sl 1 zo, .sl 1 zs, .sl 1 zi, .ref 7])), (4, some (.row 2 (lvE B))), (5, some (.row 1 (strE S))), (6, some (.row 1 (strE Tp))), (7, some (.row 5 (stX x.2.2.2)))], 8⟩) (fun x => x.1 ≤ min m 5 ∧ x.2.2.2.length = x.1 ∧ SsAt t (st, q6, b6) (min m 5 - x.1) x.2.2.2 x.2.1 x.2.2.1 ∧ x.2.1 ≤ t.length) (fun x => min m 5 - x.1) (0, q5, b5, []) ⟨Nat.zero_le _, rfl, by unfold SsAt; rw [Nat.sub_zero, hSt]; rfl, l4.1⟩ ?_ ?_ ?_
  ·(try dsimp only)
   rw [ho]
   (refine z08 (by rfl) ?_ ?_)
   all_goals (repeat' (first | (exact trivial) | ((try conv => whnf); first | (exact trivial) | (refine And.intro ?_ ?_))))
   all_goals first
    | rfl
    | decide
  ·intro x hx
   obtain ⟨k, q, bd, s⟩ := x
   obtain ⟨hk, hl, hat, hq⟩ := hx
   dsimp only at hk hl hat hq ⊢
   have hll := zaV s
   by_cases hgo : bd = false ∧ k < min m 5
   ·obtain ⟨rfl, hlt⟩ := hgo
    obtain ⟨m', hm⟩ : ∃ m', min m 5 - k = m' + 1 := ⟨min m 5 - k - 1, by omega⟩
    rw [hm] at hat
    have c5 := zbR t q false ht' hq
    have l5 := z3n (t := t) (p := q) (b := false) hq
    rcases hA : z0S t q false with ⟨a, q', b'⟩
    rw [hA] at c5 l5
    dsimp only at c5 l5
    have c6 := z7T t q' b' 321 ht' l5.1
    have l6 := z3r (t := t) (w := 321) (b := b') l5.1
    have hul : (z0t t q' b' 321).1.length ≤ 321 := by
     unfold z0t z0h
     split
     ·simp
     ·split
      ·simp
      ·simp only [List.length_take, List.length_drop]
       show min (321 : Int).toNat _ ≤ 321
       rw [show (321 : Int).toNat = 321 from rfl]
       omega
    rcases hC : z0t t q' b' 321 with ⟨u, q'', b''⟩
    rw [hC] at c6 l6 hul
    dsimp only at c6 l6 hul
    have hst := hat.step hA hC
    have c7 := z4N u (by omega)
    rw [sgR_O] at c7
    have hok := zde one s (a, z35 u)
    have happ := zdb s (a, z35 u)
    dsimp only at hok happ
    obtain ⟨ya, yo, ys, yi, hO2⟩ := z7n (z35 u)
    rw [hO2] at c7 happ
    have k1 : (k : Int) < (m : Int) := by omega
    have k2 : (k : Int) < 5 := by omega
    clear hO2 hat hA hC
    generalize z35 u = ou at *
    unfold fldB at c5 c6
    generalize okS one s = ok at *
    generalize ou.isSome = og at *
    cases ok <;> cases og
    all_goals
     repeat ((try conv => whnf); first | (with_reducible first | refine z0c (fun Qs hN hE hR => ?_) | refine z0a ?_ | refine z02 (fun Qb kN kE kX kR => ?_) | refine z04 ?_ | refine z05 ?_ | refine z0b ?_ | refine z06 ?_ | refine z07 ?_ | (show W _ _ _ (.cond _ _ _) _ _; refine z03 rfl ?_) | (refine hN _ ?_; try clear hN hE hR Qs; (try (conv => arg 6; dsimp only [ovl, List.set, List.map, ren0]))) | ((first | refine hE _ _ ?_ | refine hR _ ?_); try clear hN hE hR Qs) | ((first | refine kN _ ?_ | refine kE _ ?_ | refine kX _ _ rfl ?_ | refine kR _ ?_); try clear kN kE kX kR Qb)) | (refine z0Q k1 ?_) | (refine z0Q k2 ?_) | (refine ccB ([_]) (c5) ?_) | (refine ccB ([_]) (c6) ?_) | (refine ccA ([]) (c7) ?_) | (refine And.intro (by simp only [List.length_append, List.length_set, List.length_replicate, List.length_cons, List.length_nil]; omega) ?_) | (refine And.intro (by kernel_rfl) ?_) | (refine stpQ ?_))
     refine ⟨(k + 1, q'', b'', s ++ [(a, ou)]), ⟨by show k + 1 ≤ min m 5; omega, by simp [hl], ?_, l6⟩, (by show min m 5 - (k + 1) < min m 5 - k; omega), ?_⟩
     ·show SsAt t (st, q6, b6) (min m 5 - (k + 1)) (s ++ [(a, ou)]) q'' b''
      rw [show min m 5 - (k + 1) = m' by omega]
      exact hst
     ·(try dsimp only)
      rw [happ, hok]
      (refine z08 (by rfl) ?_ ?_) <;> (repeat' (first | (exact eqA) | (refine shE ?_) | (refine And.intro ?_ ?_))) <;> rfl
   ·have e : (st, q6, b6) = (s, q, bd) := by
     cases bd
     ·have hkn : min m 5 - k = 0 := by
       have : ¬ k < min m 5 := fun h => hgo ⟨rfl, h⟩
       omega
      rw [hkn] at hat; exact hat.done
     ·exact hat.bad
    simp only [Prod.mk.injEq] at e
    obtain ⟨e1, e2, e3⟩ := e
    subst e1 e2 e3
    cases b6 with
    | true =>
      by_cases k1 : (k : Int) < (m : Int)
      ·by_cases k2 : (k : Int) < 5
       ·repeat ((try conv => whnf); first | (with_reducible first | refine z0c (fun Qs hN hE hR => ?_) | refine z0a ?_ | refine z02 (fun Qb kN kE kX kR => ?_) | refine z04 ?_ | refine z05 ?_ | refine z0b ?_ | refine z06 ?_ | refine z07 ?_ | (show W _ _ _ (.cond _ _ _) _ _; refine z03 rfl ?_) | (refine hN _ ?_; try clear hN hE hR Qs; (try (conv => arg 6; dsimp only [ovl, List.set, List.map, ren0]))) | ((first | refine hE _ _ ?_ | refine hR _ ?_); try clear hN hE hR Qs) | ((first | refine kN _ ?_ | refine kE _ ?_ | refine kX _ _ rfl ?_ | refine kR _ ?_); try clear kN kE kX kR Qb)) | (refine z0Q k1 ?_) | (refine z0Q k2 ?_) | (refine stpQ ?_))
        (refine z08 (by rfl) ?_ ?_) <;> (repeat' (first | (exact eqA) | (refine shE ?_) | (refine And.intro ?_ ?_))) <;> rfl
       ·repeat ((try conv => whnf); first | (with_reducible first | refine z0c (fun Qs hN hE hR => ?_) | refine z0a ?_ | refine z02 (fun Qb kN kE kX kR => ?_) | refine z04 ?_ | refine z05 ?_ | refine z0b ?_ | refine z06 ?_ | refine z07 ?_ | (show W _ _ _ (.cond _ _ _) _ _; refine z03 rfl ?_) | (refine hN _ ?_; try clear hN hE hR Qs; (try (conv => arg 6; dsimp only [ovl, List.set, List.map, ren0]))) | ((first | refine hE _ _ ?_ | refine hR _ ?_); try clear hN hE hR Qs) | ((first | refine kN _ ?_ | refine kE _ ?_ | refine kX _ _ rfl ?_ | refine kR _ ?_); try clear kN kE kX kR Qb)) | (refine z0Q k1 ?_) | (refine z0z k2 ?_) | (refine stpQ ?_))
        (refine z08 (by rfl) ?_ ?_) <;> (repeat' (first | (exact eqA) | (refine shE ?_) | (refine And.intro ?_ ?_))) <;> rfl
      ·repeat ((try conv => whnf); first | (with_reducible first | refine z0c (fun Qs hN hE hR => ?_) | refine z0a ?_ | refine z02 (fun Qb kN kE kX kR => ?_) | refine z04 ?_ | refine z05 ?_ | refine z0b ?_ | refine z06 ?_ | refine z07 ?_ | (show W _ _ _ (.cond _ _ _) _ _; refine z03 rfl ?_) | (refine hN _ ?_; try clear hN hE hR Qs; (try (conv => arg 6; dsimp only [ovl, List.set, List.map, ren0]))) | ((first | refine hE _ _ ?_ | refine hR _ ?_); try clear hN hE hR Qs) | ((first | refine kN _ ?_ | refine kE _ ?_ | refine kX _ _ rfl ?_ | refine kR _ ?_); try clear kN kE kX kR Qb)) | (refine z0z k1 ?_) | (refine stpQ ?_))
       (refine z08 (by rfl) ?_ ?_) <;> (repeat' (first | (exact eqA) | (refine shE ?_) | (refine And.intro ?_ ?_))) <;> rfl
    | false =>
      have hnk : ¬ k < min m 5 := fun h => hgo ⟨rfl, h⟩
      by_cases k1 : (k : Int) < (m : Int)
      ·have k2 : ¬ (k : Int) < 5 := by omega
       repeat ((try conv => whnf); first | (with_reducible first | refine z0c (fun Qs hN hE hR => ?_) | refine z0a ?_ | refine z02 (fun Qb kN kE kX kR => ?_) | refine z04 ?_ | refine z05 ?_ | refine z0b ?_ | refine z06 ?_ | refine z07 ?_ | (show W _ _ _ (.cond _ _ _) _ _; refine z03 rfl ?_) | (refine hN _ ?_; try clear hN hE hR Qs; (try (conv => arg 6; dsimp only [ovl, List.set, List.map, ren0]))) | ((first | refine hE _ _ ?_ | refine hR _ ?_); try clear hN hE hR Qs) | ((first | refine kN _ ?_ | refine kE _ ?_ | refine kX _ _ rfl ?_ | refine kR _ ?_); try clear kN kE kX kR Qb)) | (refine z0Q k1 ?_) | (refine z0z k2 ?_) | (refine stpQ ?_))
       (refine z08 (by rfl) ?_ ?_) <;> (repeat' (first | (exact eqA) | (refine shE ?_) | (refine And.intro ?_ ?_))) <;> rfl
      ·repeat ((try conv => whnf); first | (with_reducible first | refine z0c (fun Qs hN hE hR => ?_) | refine z0a ?_ | refine z02 (fun Qb kN kE kX kR => ?_) | refine z04 ?_ | refine z05 ?_ | refine z0b ?_ | refine z06 ?_ | refine z07 ?_ | (show W _ _ _ (.cond _ _ _) _ _; refine z03 rfl ?_) | (refine hN _ ?_; try clear hN hE hR Qs; (try (conv => arg 6; dsimp only [ovl, List.set, List.map, ren0]))) | ((first | refine hE _ _ ?_ | refine hR _ ?_); try clear hN hE hR Qs) | ((first | refine kN _ ?_ | refine kE _ ?_ | refine kX _ _ rfl ?_ | refine kR _ ?_); try clear kN kE kX kR Qb)) | (refine z0z k1 ?_) | (refine stpQ ?_))
       (refine z08 (by rfl) ?_ ?_) <;> (repeat' (first | (exact eqA) | (refine shE ?_) | (refine And.intro ?_ ?_))) <;> rfl
  ·clear hT hSt
   generalize okS one st = ok at *
   cases b6 with
   | true =>
     obtain rfl : fl = false := by rw [hfl]; rfl
     repeat ((try conv => whnf); first | (with_reducible first | refine z0c (fun Qs hN hE hR => ?_) | refine z0a ?_ | refine z02 (fun Qb kN kE kX kR => ?_) | refine z04 ?_ | refine z05 ?_ | refine z0b ?_ | refine z06 ?_ | refine z07 ?_ | (show W _ _ _ (.cond _ _ _) _ _; refine z03 rfl ?_) | (refine hN _ ?_; try clear hN hE hR Qs; (try (conv => arg 6; dsimp only [ovl, List.set, List.map, ren0]))) | ((first | refine hE _ _ ?_ | refine hR _ ?_); try clear hN hE hR Qs) | ((first | refine kN _ ?_ | refine kE _ ?_ | refine kX _ _ rfl ?_ | refine kR _ ?_); try clear kN kE kX kR Qb)) | (refine ccA ([]) (cT) ?_) | (refine And.intro (by kernel_rfl) ?_) | (refine stpQ ?_))
     (refine z00 (by rfl) ?_ ?_ (by rfl)) <;> (repeat' (first | (exact eqA) | (refine shE ?_) | (refine And.intro ?_ ?_))) <;> rfl
   | false =>
     cases ok with
     | false =>
       obtain rfl : fl = false := by rw [hfl]; rfl
       repeat ((try conv => whnf); first | (with_reducible first | refine z0c (fun Qs hN hE hR => ?_) | refine z0a ?_ | refine z02 (fun Qb kN kE kX kR => ?_) | refine z04 ?_ | refine z05 ?_ | refine z0b ?_ | refine z06 ?_ | refine z07 ?_ | (show W _ _ _ (.cond _ _ _) _ _; refine z03 rfl ?_) | (refine hN _ ?_; try clear hN hE hR Qs; (try (conv => arg 6; dsimp only [ovl, List.set, List.map, ren0]))) | ((first | refine hE _ _ ?_ | refine hR _ ?_); try clear hN hE hR Qs) | ((first | refine kN _ ?_ | refine kE _ ?_ | refine kX _ _ rfl ?_ | refine kR _ ?_); try clear kN kE kX kR Qb)) | (refine ccA ([]) (cT) ?_) | (refine And.intro (by kernel_rfl) ?_) | (refine stpQ ?_))
       (refine z00 (by rfl) ?_ ?_ (by rfl)) <;> (repeat' (first | (exact eqA) | (refine shE ?_) | (refine And.intro ?_ ?_))) <;> rfl
     | true =>
       cases two with
       | false =>
         obtain rfl : fl = false := by rw [hfl]; rfl
         repeat ((try conv => whnf); first | (with_reducible first | refine z0c (fun Qs hN hE hR => ?_) | refine z0a ?_ | refine z02 (fun Qb kN kE kX kR => ?_) | refine z04 ?_ | refine z05 ?_ | refine z0b ?_ | refine z06 ?_ | refine z07 ?_ | (show W _ _ _ (.cond _ _ _) _ _; refine z03 rfl ?_) | (refine hN _ ?_; try clear hN hE hR Qs; (try (conv => arg 6; dsimp only [ovl, List.set, List.map, ren0]))) | ((first | refine hE _ _ ?_ | refine hR _ ?_); try clear hN hE hR Qs) | ((first | refine kN _ ?_ | refine kE _ ?_ | refine kX _ _ rfl ?_ | refine kR _ ?_); try clear kN kE kX kR Qb)) | (refine ccA ([]) (cT) ?_) | (refine And.intro (by kernel_rfl) ?_) | (refine stpQ ?_))
         (refine z00 (by rfl) ?_ ?_ (by rfl)) <;> (repeat' (first | (exact eqA) | (refine shE ?_) | (refine And.intro ?_ ?_))) <;> rfl
       | true =>
         cases fine with
         | false =>
           obtain rfl : fl = false := by rw [hfl]; rfl
           repeat ((try conv => whnf); first | (with_reducible first | refine z0c (fun Qs hN hE hR => ?_) | refine z0a ?_ | refine z02 (fun Qb kN kE kX kR => ?_) | refine z04 ?_ | refine z05 ?_ | refine z0b ?_ | refine z06 ?_ | refine z07 ?_ | (show W _ _ _ (.cond _ _ _) _ _; refine z03 rfl ?_) | (refine hN _ ?_; try clear hN hE hR Qs; (try (conv => arg 6; dsimp only [ovl, List.set, List.map, ren0]))) | ((first | refine hE _ _ ?_ | refine hR _ ?_); try clear hN hE hR Qs) | ((first | refine kN _ ?_ | refine kE _ ?_ | refine kX _ _ rfl ?_ | refine kR _ ?_); try clear kN kE kX kR Qb)) | (refine ccA ([]) (cT) ?_) | (refine And.intro (by kernel_rfl) ?_) | (refine stpQ ?_))
           (refine z00 (by rfl) ?_ ?_ (by rfl)) <;> (repeat' (first | (exact eqA) | (refine shE ?_) | (refine And.intro ?_ ?_))) <;> rfl
         | true =>
           by_cases hbk : back = t
           ·obtain rfl : fl = true := by rw [hfl]; simp [hbk]
            repeat ((try conv => whnf); first | (with_reducible first | refine z0c (fun Qs hN hE hR => ?_) | refine z0a ?_ | refine z02 (fun Qb kN kE kX kR => ?_) | refine z04 ?_ | refine z05 ?_ | refine z0b ?_ | refine z06 ?_ | refine z07 ?_ | (show W _ _ _ (.cond _ _ _) _ _; refine z03 rfl ?_) | (refine hN _ ?_; try clear hN hE hR Qs; (try (conv => arg 6; dsimp only [ovl, List.set, List.map, ren0]))) | ((first | refine hE _ _ ?_ | refine hR _ ?_); try clear hN hE hR Qs) | ((first | refine kN _ ?_ | refine kE _ ?_ | refine kX _ _ rfl ?_ | refine kR _ ?_); try clear kN kE kX kR Qb)) | (refine ccA ([]) (cT) ?_) | (refine z25 hbk ?_) | (refine And.intro (by kernel_rfl) ?_) | (refine stpQ ?_))
            (refine z00 (by rfl) ?_ ?_ (by rfl)) <;> (repeat' (first | (exact eqA) | (refine shE ?_) | (refine And.intro ?_ ?_))) <;> rfl
           ·obtain rfl : fl = false := by rw [hfl]; simp [hbk]
            repeat ((try conv => whnf); first | (with_reducible first | refine z0c (fun Qs hN hE hR => ?_) | refine z0a ?_ | refine z02 (fun Qb kN kE kX kR => ?_) | refine z04 ?_ | refine z05 ?_ | refine z0b ?_ | refine z06 ?_ | refine z07 ?_ | (show W _ _ _ (.cond _ _ _) _ _; refine z03 rfl ?_) | (refine hN _ ?_; try clear hN hE hR Qs; (try (conv => arg 6; dsimp only [ovl, List.set, List.map, ren0]))) | ((first | refine hE _ _ ?_ | refine hR _ ?_); try clear hN hE hR Qs) | ((first | refine kN _ ?_ | refine kE _ ?_ | refine kX _ _ rfl ?_ | refine kR _ ?_); try clear kN kE kX kR Qb)) | (refine ccA ([]) (cT) ?_) | (refine zam hbk ?_) | (refine And.intro (by kernel_rfl) ?_) | (refine stpQ ?_))
            (refine z00 (by rfl) ?_ ?_ (by rfl)) <;> (repeat' (first | (exact eqA) | (refine shE ?_) | (refine And.intro ?_ ?_))) <;> rfl
end
end Go.Proofs.Ytnhcfmmdaihneaa
