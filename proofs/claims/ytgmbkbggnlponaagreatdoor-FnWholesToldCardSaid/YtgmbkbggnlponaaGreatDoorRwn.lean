/- Functions by content: the program refuses what is no text of a complete proof. -/
import Derived.Test.YtgmbkbggnlponaaGreatDoorRwi
namespace Go.Proofs.YtgmbkbggnlponaaGreatDoor
set_option maxRecDepth 100000
set_option maxHeartbeats 16000000
set_option linter.unusedVariables false
set_option linter.unusedSimpArgs false
set_option linter.unusedSectionVars false
open Go.RowKit Pl
section
attribute [local irreducible] z0t z0u z0y AnsP LeP W CvE
theorem zbN (t : Bs) (ht : t.length ≤ 1000000) : ∃ (ho ep : Int) (ro pr : Bs) (a : Int) (op sh si : List Bs) (two : Bool), (two = true → ∃ h s, h.good ∧ s.good ∧ t = z12 h s) ∧
 CT Tryz.prog 40 [] [.str t] (.tup [.agg [.int .i64 ho, .int .i64 ep, .str ro, .str pr, .int .i64 a, .sl 1 (strE op), .sl 1 (strE sh), .sl 1 (strE si)], .bool two]) [] := by
 cases hr : z1i t with
 | some x =>
   obtain ⟨h, s⟩ := x
   obtain ⟨g, gs, e⟩ := z3h.1 hr
   refine ⟨(h.ho : Int), (h.ep : Int), h.ro, h.pr, (s.a : Int), s.op, s.sh, s.si, true, fun _ => ⟨h, s, g, gs, e⟩, ?_⟩
   subst e
   exact zdN h s g gs
 | none =>
   obtain ⟨ho, ep, ro, pr, a, op, sh, si, q, b', hd, c1⟩ := zif t 0 false (by omega) (Nat.zero_le _) (fun _ => by rw [List.drop_zero]; exact hr)
   have c2 := z7X t q b'
   rw [hd] at c2
   refine ⟨0, 0, [], [], 0, [], [], [], false, (fun h => by cases h), ?_⟩
   change CT Tryz.prog 100 [fldB t 0 false] [.ptr 1 0 0] (.agg [.int .i64 ho, .int .i64 ep, .str ro, .str pr, .int .i64 a, .sl 1 (strE op), .sl 1 (strE sh), .sl 1 (strE si)]) [fldB t q b'] at c1
   unfold fldB at c1 c2
   refine z01 z0d 1 rfl Tryz.func40 rfl rfl rfl ?_
   conv => arg 6; whnf
   repeat ((try conv => whnf); first | (with_reducible first | refine z0b (fun Qs hN hE hR => ?_) | refine z09 ?_ | refine z03 (fun Qb kN kE kX kR => ?_) | refine z05 ?_ | refine z06 ?_ | refine z0a ?_ | refine z07 ?_ | refine z08 ?_ | (show W _ _ _ (.cond _ _ _) _ _; refine z04 rfl ?_) | (refine hN _ ?_; try clear hN hE hR Qs; (try (conv => arg 6; dsimp only [ovl, List.set, List.map, ren0]))) | ((first | refine hE _ _ ?_ | refine hR _ ?_); try clear hN hE hR Qs) | ((first | refine kN _ ?_ | refine kE _ ?_ | refine kX _ _ rfl ?_ | refine kR _ ?_); try clear kN kE kX kR Qb)) | (refine ccB ([_]) (c1) ?_) | (refine ccB ([_]) (c2) ?_) | (refine And.intro (by kernel_rfl) ?_) | (refine stpQ ?_))
   (refine z00 (by rfl) ?_ ?_ (by rfl)) <;> (repeat' (first | (exact eqA) | (refine And.intro ?_ ?_) | ((fail_if_success (with_reducible (show _ = _))); (show _ = _)))) <;> rfl
theorem zaK (t : Bs) (ht : (t.length : Int) ≤ 1000000000) : ∃ (one : Bool) (B : List Lf) (S : List Bs), (one = true → z0J B S 16 = true ∧ t = z0l B S) ∧
 CT Tryz.prog 36 [] [.str t, .int .i64 16] (.tup [.agg [.ref 1, .ref 2], .bool one]) [.deep 2 (lvE B) [], .deep 1 (strE S) []] := by
 refine ⟨_, _, _, ?_, z5I t 16 ht⟩
 intro h
 have hi : inB 16 1 32 = true := by decide
 have e : z3w t 16 = z31 t 16 := by
  show (bif inB 16 1 32 then z31 _ (16 : Int).toNat else none) = _
  rw [hi]; rfl
 rw [e] at h ⊢
 cases hr : z31 t 16 with
 | none => rw [hr] at h; cases h
 | some x =>
   obtain ⟨l, s⟩ := x
   exact (zeM (w := 16) (by omega)).1 hr
theorem zgJ (t : Bs) (q : Nat) (b : Bool) (ht : (t.length : Int) ≤ 1000000000) (hq : q ≤ t.length) : ∃ (a : Nat) (q' : Nat) (b' : Bool) (a' : Int) (op sh si : List Bs) (q2 : Nat) (b2 : Bool) (ih fm : Bool), q2 ≤ t.length ∧
 CT Tryz.prog 41 [fldB t q b] [.ptr 1 0 0] (.int .i64 (a : Int)) [fldB t q' b'] ∧
 CT Tryz.prog 42 [fldB t q' b'] [.ptr 1 0 0] (.agg [.int .i64 a', .sl 1 (strE op), .sl 1 (strE sh), .sl 1 (strE si)]) [fldB t q2 b2] ∧
 CT Tryz.prog 43 [] [.int .i64 (a : Int)] (.bool ih) [] ∧
 CT Tryz.prog 44 [] [.agg [.int .i64 a', .sl 1 (strE op), .sl 1 (strE sh), .sl 1 (strE si)]] (.bool fm) [] ∧
 (b2 = false → ih = true → fm = true → b = false ∧ ∃ s : Sg, s.good ∧ a ≤ 2 ∧ [T.int .i64 a', .sl 1 (strE op), .sl 1 (strE sh), .sl 1 (strE si)] = sgE s ∧ t.drop q = UInt8.ofNat a :: (sigB s ++ t.drop q2)) := by
 have c1 := zcJ t q b ht hq
 have l1 := z4L (t := t) (p := q) (b := b) hq
 rcases hO : z1j t q b with ⟨a, q', b'⟩
 rw [hO] at c1 l1
 simp only at c1 l1
 obtain ⟨x, op, sh, si, q2, b2, ⟨m1, m2, m3, m4⟩, hok, c2⟩ := zhc t q' b' ht l1.1
 have c4 := z79 (x : Int) op sh si (by omega) (by omega) (by omega)
 refine ⟨a, q', b', (x : Int), op, sh, si, q2, b2, inB (a : Int) 0 2, z2D (x : Int) op sh si, m4, c1, c2, z70 _, c4, fun h1 h2 h3 => ?_⟩
 obtain ⟨e1, s, gs, es, ed⟩ := hok h1 h3
 subst e1
 obtain ⟨e2, e3, y, e4, e5⟩ := z4M hO
 have h2' := z0r.1 h2
 refine ⟨e2, s, gs, by omega, es.symm, ?_⟩
 rw [e5, ed, ← e4]
 simp
theorem zaL (t : Bs) (ht : t.length ≤ 100000000) (hn : ∀ x, WhGood x → t ≠ z1V x) :
 CT Tryz.prog 9 [] [.str t] (.tup [.agg [.ref 1, .ref 2, .ref 3, .int .i64 0, .int .i64 0, .str [], .str [], .int .i64 0, .ref 4, .ref 5, .ref 6, .ref 7], .bool false]) [.deep 2 [] [], .deep 1 [] [], .deep 1 [] [], .deep 1 [] [], .deep 1 [] [], .deep 1 [] [], .deep 5 [] []] := by
 have ht' : (t.length : Int) ≤ 1000000000 := by omega
 have c0 := z3o t 0 false ht' (Nat.zero_le _)
 have l0 := z1A (t := t) (p := 0) (bad := false) (Nat.zero_le _)
 rcases hS0 : z0E t 0 false with ⟨pb, q1, b1⟩
 rw [hS0] at c0 l0
 simp only at c0 l0
 obtain ⟨one, B, S, hone, kpf⟩ := zaK pb (by omega)
 have c1 := zdj t q1 b1 ht' l0.1
 have l1 := z2W (t := t) (p := q1) (bad := b1) l0.1
 rcases hN1 : z2p t q1 b1 with ⟨n, q2, b2⟩
 rw [hN1] at c1 l1
 simp only at c1 l1
 by_cases hgt : (n : Int) > 2
 ·clear hS0 hN1 hn hone
  unfold fldB at *
  refine z01 z0d 1 rfl Tryz.func9 rfl rfl rfl ?_
  conv => arg 6; whnf
  repeat ((try conv => whnf); first | (with_reducible first | refine z0b (fun Qs hN hE hR => ?_) | refine z09 ?_ | refine z03 (fun Qb kN kE kX kR => ?_) | refine z05 ?_ | refine z06 ?_ | refine z0a ?_ | refine z07 ?_ | refine z08 ?_ | (show W _ _ _ (.cond _ _ _) _ _; refine z04 rfl ?_) | (refine hN _ ?_; try clear hN hE hR Qs; (try (conv => arg 6; dsimp only [ovl, List.set, List.map, ren0]))) | ((first | refine hE _ _ ?_ | refine hR _ ?_); try clear hN hE hR Qs) | ((first | refine kN _ ?_ | refine kE _ ?_ | refine kX _ _ rfl ?_ | refine kR _ ?_); try clear kN kE kX kR Qb)) | (refine ccB ([_]) (c0) ?_) | (refine ccA ([]) (kpf) ?_) | (refine ccB ([_]) (c1) ?_) | (refine z0i hgt ?_) | (refine And.intro (by kernel_rfl) ?_) | (refine stpQ ?_))
  (refine z00 (by rfl) ?_ ?_ (by rfl)) <;> (repeat' (first | (exact eqA) | (refine And.intro ?_ ?_) | ((fail_if_success (with_reducible (show _ = _))); (show _ = _)))) <;> first | rfl | decide
 have c2 := z1W t q2 b2 n 16 ht' l1.1 (by omega)
 have l2 := z4V (t := t) (w := 16) (n := n) (p := q2) (b := b2) l1.1
 rcases hH : z20 t 16 n q2 b2 with ⟨Tp, q3, b3⟩
 rw [hH] at c2 l2
 simp only at c2 l2
 have c3 := z3o t q3 b3 ht' l2
 have l3 := z1A (t := t) (p := q3) (bad := b3) l2
 rcases hS3 : z0E t q3 b3 with ⟨sb, q4, b4⟩
 rw [hS3] at c3 l3
 simp only at c3 l3
 obtain ⟨ho, ep, ro, pr, sa, so, ss, si, two, htwo, ksl⟩ := zbN sb (by omega)
 have c4 := zdj t q4 b4 ht' l3.1
 have l4 := z2W (t := t) (p := q4) (bad := b4) l3.1
 rcases hN4 : z2p t q4 b4 with ⟨m, q5, b5⟩
 rw [hN4] at c4 l4
 simp only at c4 l4
 by_cases hgm : (m : Int) > 3
 ·clear hS0 hN1 hH hS3 hN4 hn hone htwo
  unfold fldB at *
  refine z01 z0d 1 rfl Tryz.func9 rfl rfl rfl ?_
  conv => arg 6; whnf
  repeat ((try conv => whnf); first | (with_reducible first | refine z0b (fun Qs hN hE hR => ?_) | refine z09 ?_ | refine z03 (fun Qb kN kE kX kR => ?_) | refine z05 ?_ | refine z06 ?_ | refine z0a ?_ | refine z07 ?_ | refine z08 ?_ | (show W _ _ _ (.cond _ _ _) _ _; refine z04 rfl ?_) | (refine hN _ ?_; try clear hN hE hR Qs; (try (conv => arg 6; dsimp only [ovl, List.set, List.map, ren0]))) | ((first | refine hE _ _ ?_ | refine hR _ ?_); try clear hN hE hR Qs) | ((first | refine kN _ ?_ | refine kE _ ?_ | refine kX _ _ rfl ?_ | refine kR _ ?_); try clear kN kE kX kR Qb)) | (refine ccB ([_]) (c0) ?_) | (refine ccA ([]) (kpf) ?_) | (refine ccB ([_]) (c1) ?_) | (refine ccB ([_]) (c2) ?_) | (refine ccB ([_]) (c3) ?_) | (refine ccA ([]) (ksl) ?_) | (refine ccB ([_]) (c4) ?_) | (refine z0k hgt ?_) | (refine z0i hgm ?_) | (refine And.intro (by kernel_rfl) ?_) | (refine stpQ ?_))
  (refine z00 (by rfl) ?_ ?_ (by rfl)) <;> (repeat' (first | (exact eqA) | (refine And.intro ?_ ?_) | ((fail_if_success (with_reducible (show _ = _))); (show _ = _)))) <;> first | rfl | decide
 have fin : ∀ (q : Nat) (b : Bool) (st : List (Nat × Sg)), st.length = m → (∀ y ∈ st, y.1 ≤ 2 ∧ y.2.good) → (b = false → b5 = false ∧ t.drop q5 = stL st ++ t.drop q) → z3i b q t.length = true → one = true → two = true → False := by
  intro q b st hst hgs hb hd h1 h2
  simp only [z3i, Bool.and_eq_true, Bool.not_eq_true', beq_iff_eq] at hd
  obtain ⟨rfl, rfl⟩ := hd
  obtain ⟨e5, d5⟩ := hb rfl
  subst e5
  obtain ⟨e4, _, d4, _⟩ := z4K hN4
  subst e4
  obtain ⟨e3, _, d3, _⟩ := z2l hS3
  subst e3
  obtain ⟨e2, n2, w2, _, d2⟩ := z37 hH l1.1
  subst e2
  obtain ⟨e1, _, d1, _⟩ := z4K hN1
  subst e1
  obtain ⟨_, _, d0, _⟩ := z2l hS0
  obtain ⟨p1, p2⟩ := hone h1
  obtain ⟨h, s, g, gs, p3⟩ := htwo h2
  refine hn ⟨B, S, Tp, h, s, st⟩ ⟨p1, by simp only; omega, w2, g, gs, by simp only; omega, hgs⟩ ?_
  rw [List.drop_length, List.append_nil] at d5
  rw [List.drop_zero] at d0
  rw [z1V]
  simp only
  rw [d0, d1, d2, d3, d4, d5, hst, n2, p2, p3]
 clear hS0 hN1 hH hS3 hN4 hn hone htwo
 unfold fldB at *
 refine z01 z0d 1 rfl Tryz.func9 rfl rfl rfl ?_
 conv => arg 6; whnf
 repeat ((try conv => whnf); first | (with_reducible first | refine z0b (fun Qs hN hE hR => ?_) | refine z09 ?_ | refine z03 (fun Qb kN kE kX kR => ?_) | refine z05 ?_ | refine z06 ?_ | refine z0a ?_ | refine z07 ?_ | refine z08 ?_ | (show W _ _ _ (.cond _ _ _) _ _; refine z04 rfl ?_) | (refine hN _ ?_; try clear hN hE hR Qs; (try (conv => arg 6; dsimp only [ovl, List.set, List.map, ren0]))) | ((first | refine hE _ _ ?_ | refine hR _ ?_); try clear hN hE hR Qs) | ((first | refine kN _ ?_ | refine kE _ ?_ | refine kX _ _ rfl ?_ | refine kR _ ?_); try clear kN kE kX kR Qb)) | (refine ccB ([_]) (c0) ?_) | (refine ccA ([]) (kpf) ?_) | (refine ccB ([_]) (c1) ?_) | (refine ccB ([_]) (c2) ?_) | (refine ccB ([_]) (c3) ?_) | (refine ccA ([]) (ksl) ?_) | (refine ccB ([_]) (c4) ?_) | (refine z0k hgt ?_) | (refine z0k hgm ?_) | (refine And.intro (by kernel_rfl) ?_) | (refine stpQ ?_))
 refine z6x (Nat × Nat × Bool × List (Nat × Sg)) (fun x => ⟨[(2, .ptr 1 0 0), (4, .ptr 2 0 0), (5, .ptr 3 0 0), (6, .bool one), (7, .bool two), (36, .int .i64 (m : Int)), (37, .int .i64 (x.1 : Int))], [(1, some (.box [.val nilV, .val nilV, .val nilV, .int .i64 0, .int .i64 0, .str [], .str [], .int .i64 0, .val nilV, .val nilV, .val nilV, .val nilV])), (2, some (.box [.str t, .int .i64 (x.2.1 : Int), .bool x.2.2.1])), (3, some (.box [.ref 4, .ref 5, .ref 6, .int .i64 ho, .int .i64 ep, .str ro, .str pr, .int .i64 sa, .sl 1 (strE so), .sl 1 (strE ss), .sl 1 (strE si), .ref 7])), (4, some (.deep 2 (lvE B) [])), (5, some (.deep 1 (strE S) [])), (6, some (.row 1 (strE Tp))), (7, some (.row 5 (stE x.2.2.2)))], 8⟩) (fun x => x.1 ≤ m ∧ x.2.2.2.length = x.1 ∧ x.2.1 ≤ t.length ∧ (∀ y ∈ x.2.2.2, y.1 ≤ 2 ∧ y.2.good) ∧ (x.2.2.1 = false → b5 = false ∧ t.drop q5 = stL x.2.2.2 ++ t.drop x.2.1)) (fun x => m - x.1) (0, q5, b5, []) ⟨Nat.zero_le _, rfl, l4.1, (fun y hy => by cases hy), fun h => ⟨h, rfl⟩⟩ ?_ ?_
 ·(refine z02 (by rfl) ?_ ?_)
  all_goals (repeat' (first | (exact trivial) | ((try conv => whnf); first | (exact trivial) | (refine And.intro ?_ ?_))))
  all_goals first
   | rfl
   | decide
 ·intro Q1 hQ1 x hx
  obtain ⟨k, q, b, st⟩ := x
  obtain ⟨hk, hl, hq, hg, hb⟩ := hx
  dsimp only at hk hl hq hg hb ⊢
  by_cases hlt : k < m
  ·have f1 : (k : Int) < ((m : Nat) : Int) := by omega
   obtain ⟨a, q', b', a', op, sh, sj, q2', b2', ih, fm, m4, a1, a2, a3, a4, hok⟩ := zgJ t q b ht' hq
   unfold fldB at a1 a2
   have hsl := z3V st
   cases b2' with
   | true =>
     clear hok fin
     repeat ((try conv => whnf); first | (with_reducible first | refine z0b (fun Qs hN hE hR => ?_) | refine z09 ?_ | refine z03 (fun Qb kN kE kX kR => ?_) | refine z05 ?_ | refine z06 ?_ | refine z0a ?_ | refine z07 ?_ | refine z08 ?_ | (show W _ _ _ (.cond _ _ _) _ _; refine z04 rfl ?_) | (refine hN _ ?_; try clear hN hE hR Qs; (try (conv => arg 6; dsimp only [ovl, List.set, List.map, ren0]))) | ((first | refine hE _ _ ?_ | refine hR _ ?_); try clear hN hE hR Qs) | ((first | refine kN _ ?_ | refine kE _ ?_ | refine kX _ _ rfl ?_ | refine kR _ ?_); try clear kN kE kX kR Qb)) | (refine z0i f1 ?_) | (refine ccB ([_]) (a1) ?_) | (refine ccB ([_]) (a2) ?_) | (refine ccA ([]) (a3) ?_) | (refine ccA ([]) (a4) ?_) | (refine And.intro (by kernel_rfl) ?_) | (refine stpQ ?_))
     refine hQ1 _ _ ?_
     clear hQ1 Q1
     repeat ((try conv => whnf); first | (with_reducible first | refine z0b (fun Qs hN hE hR => ?_) | refine z09 ?_ | refine z03 (fun Qb kN kE kX kR => ?_) | refine z05 ?_ | refine z06 ?_ | refine z0a ?_ | refine z07 ?_ | refine z08 ?_ | (show W _ _ _ (.cond _ _ _) _ _; refine z04 rfl ?_) | (refine hN _ ?_; try clear hN hE hR Qs; (try (conv => arg 6; dsimp only [ovl, List.set, List.map, ren0]))) | ((first | refine hE _ _ ?_ | refine hR _ ?_); try clear hN hE hR Qs) | ((first | refine kN _ ?_ | refine kE _ ?_ | refine kX _ _ rfl ?_ | refine kR _ ?_); try clear kN kE kX kR Qb)) | (refine And.intro (by kernel_rfl) ?_) | (refine stpQ ?_))
     (refine z00 (by rfl) ?_ ?_ (by rfl)) <;> (repeat' (first | (exact eqA) | (refine And.intro ?_ ?_) | ((fail_if_success (with_reducible (show _ = _))); (show _ = _)))) <;> first | rfl | decide
   | false =>
     cases ih with
     | false =>
       clear hok fin
       repeat ((try conv => whnf); first | (with_reducible first | refine z0b (fun Qs hN hE hR => ?_) | refine z09 ?_ | refine z03 (fun Qb kN kE kX kR => ?_) | refine z05 ?_ | refine z06 ?_ | refine z0a ?_ | refine z07 ?_ | refine z08 ?_ | (show W _ _ _ (.cond _ _ _) _ _; refine z04 rfl ?_) | (refine hN _ ?_; try clear hN hE hR Qs; (try (conv => arg 6; dsimp only [ovl, List.set, List.map, ren0]))) | ((first | refine hE _ _ ?_ | refine hR _ ?_); try clear hN hE hR Qs) | ((first | refine kN _ ?_ | refine kE _ ?_ | refine kX _ _ rfl ?_ | refine kR _ ?_); try clear kN kE kX kR Qb)) | (refine z0i f1 ?_) | (refine ccB ([_]) (a1) ?_) | (refine ccB ([_]) (a2) ?_) | (refine ccA ([]) (a3) ?_) | (refine ccA ([]) (a4) ?_) | (refine And.intro (by kernel_rfl) ?_) | (refine stpQ ?_))
       refine hQ1 _ _ ?_
       clear hQ1 Q1
       repeat ((try conv => whnf); first | (with_reducible first | refine z0b (fun Qs hN hE hR => ?_) | refine z09 ?_ | refine z03 (fun Qb kN kE kX kR => ?_) | refine z05 ?_ | refine z06 ?_ | refine z0a ?_ | refine z07 ?_ | refine z08 ?_ | (show W _ _ _ (.cond _ _ _) _ _; refine z04 rfl ?_) | (refine hN _ ?_; try clear hN hE hR Qs; (try (conv => arg 6; dsimp only [ovl, List.set, List.map, ren0]))) | ((first | refine hE _ _ ?_ | refine hR _ ?_); try clear hN hE hR Qs) | ((first | refine kN _ ?_ | refine kE _ ?_ | refine kX _ _ rfl ?_ | refine kR _ ?_); try clear kN kE kX kR Qb)) | (refine And.intro (by kernel_rfl) ?_) | (refine stpQ ?_))
       (refine z00 (by rfl) ?_ ?_ (by rfl)) <;> (repeat' (first | (exact eqA) | (refine And.intro ?_ ?_) | ((fail_if_success (with_reducible (show _ = _))); (show _ = _)))) <;> first | rfl | decide
     | true =>
       cases fm with
       | false =>
         clear hok fin
         repeat ((try conv => whnf); first | (with_reducible first | refine z0b (fun Qs hN hE hR => ?_) | refine z09 ?_ | refine z03 (fun Qb kN kE kX kR => ?_) | refine z05 ?_ | refine z06 ?_ | refine z0a ?_ | refine z07 ?_ | refine z08 ?_ | (show W _ _ _ (.cond _ _ _) _ _; refine z04 rfl ?_) | (refine hN _ ?_; try clear hN hE hR Qs; (try (conv => arg 6; dsimp only [ovl, List.set, List.map, ren0]))) | ((first | refine hE _ _ ?_ | refine hR _ ?_); try clear hN hE hR Qs) | ((first | refine kN _ ?_ | refine kE _ ?_ | refine kX _ _ rfl ?_ | refine kR _ ?_); try clear kN kE kX kR Qb)) | (refine z0i f1 ?_) | (refine ccB ([_]) (a1) ?_) | (refine ccB ([_]) (a2) ?_) | (refine ccA ([]) (a3) ?_) | (refine ccA ([]) (a4) ?_) | (refine And.intro (by kernel_rfl) ?_) | (refine stpQ ?_))
         refine hQ1 _ _ ?_
         clear hQ1 Q1
         repeat ((try conv => whnf); first | (with_reducible first | refine z0b (fun Qs hN hE hR => ?_) | refine z09 ?_ | refine z03 (fun Qb kN kE kX kR => ?_) | refine z05 ?_ | refine z06 ?_ | refine z0a ?_ | refine z07 ?_ | refine z08 ?_ | (show W _ _ _ (.cond _ _ _) _ _; refine z04 rfl ?_) | (refine hN _ ?_; try clear hN hE hR Qs; (try (conv => arg 6; dsimp only [ovl, List.set, List.map, ren0]))) | ((first | refine hE _ _ ?_ | refine hR _ ?_); try clear hN hE hR Qs) | ((first | refine kN _ ?_ | refine kE _ ?_ | refine kX _ _ rfl ?_ | refine kR _ ?_); try clear kN kE kX kR Qb)) | (refine And.intro (by kernel_rfl) ?_) | (refine stpQ ?_))
         (refine z00 (by rfl) ?_ ?_ (by rfl)) <;> (repeat' (first | (exact eqA) | (refine And.intro ?_ ?_) | ((fail_if_success (with_reducible (show _ = _))); (show _ = _)))) <;> first | rfl | decide
       | true =>
         obtain ⟨eb, s, gs, ha, hs, hdr⟩ := hok rfl rfl rfl
         obtain ⟨sx, s1, s2, s3⟩ := s
         have happ := zbE st (a, ⟨sx, s1, s2, s3⟩)
         unfold sgE at hs happ
         simp only [List.cons.injEq, T.int.injEq, T.sl.injEq, true_and, and_true] at hs
         obtain ⟨h1, h2, h3, h4⟩ := hs
         rw [h1, h2, h3] at a2 a4
         rw [h4] at a2 a4
         clear hok fin
         repeat ((try conv => whnf); first | (with_reducible first | refine z0b (fun Qs hN hE hR => ?_) | refine z09 ?_ | refine z03 (fun Qb kN kE kX kR => ?_) | refine z05 ?_ | refine z06 ?_ | refine z0a ?_ | refine z07 ?_ | refine z08 ?_ | (show W _ _ _ (.cond _ _ _) _ _; refine z04 rfl ?_) | (refine hN _ ?_; try clear hN hE hR Qs; (try (conv => arg 6; dsimp only [ovl, List.set, List.map, ren0]))) | ((first | refine hE _ _ ?_ | refine hR _ ?_); try clear hN hE hR Qs) | ((first | refine kN _ ?_ | refine kE _ ?_ | refine kX _ _ rfl ?_ | refine kR _ ?_); try clear kN kE kX kR Qb)) | (refine z0i f1 ?_) | (refine ccB ([_]) (a1) ?_) | (refine ccB ([_]) (a2) ?_) | (refine ccA ([]) (a3) ?_) | (refine ccA ([]) (a4) ?_) | (refine And.intro (by simp only [List.length_append, List.length_cons, List.length_nil, List.length_set, List.length_replicate]; omega) ?_) | (refine And.intro (by kernel_rfl) ?_) | (refine stpQ ?_))
         refine ⟨(k + 1, q2', false, st ++ [(a, ⟨sx, s1, s2, s3⟩)]), ⟨hlt, ?_, m4, ?_, fun _ => ?_⟩, ?_, ?_⟩
         ·simp only [List.length_append, List.length_cons, List.length_nil]; omega
         ·intro y hy
          rcases List.mem_append.1 hy with hy | hy
          ·exact hg y hy
          ·rw [List.mem_singleton] at hy; subst hy; exact ⟨ha, gs⟩
         ·obtain ⟨e5, d5⟩ := hb eb
          refine ⟨e5, ?_⟩
          show t.drop q5 = stL (st ++ [(a, ⟨sx, s1, s2, s3⟩)]) ++ t.drop q2'
          rw [d5, hdr, zbM]
          simp [stL]
         ·show m - (k + 1) < m - k
          omega
         ·dsimp only
          rw [happ]
          (refine z02 (by rfl) ?_ ?_) <;> (repeat' (first | (exact eqA) | (refine And.intro ?_ ?_) | ((fail_if_success (with_reducible (show _ = _))); (show _ = _)))) <;> rfl
  ·have hkm : k = m := by omega
   subst hkm
   have f1 : ¬ ((k : Nat) : Int) < ((k : Nat) : Int) := by omega
   have kd := z7X t q b
   unfold fldB at kd
   have hf := fin q b st hl hg hb
   generalize z3i b q t.length = dn at kd hf
   clear fin hb hg
   repeat ((try conv => whnf); first | (with_reducible first | refine z0b (fun Qs hN hE hR => ?_) | refine z09 ?_ | refine z03 (fun Qb kN kE kX kR => ?_) | refine z05 ?_ | refine z06 ?_ | refine z0a ?_ | refine z07 ?_ | refine z08 ?_ | (show W _ _ _ (.cond _ _ _) _ _; refine z04 rfl ?_) | (refine hN _ ?_; try clear hN hE hR Qs; (try (conv => arg 6; dsimp only [ovl, List.set, List.map, ren0]))) | ((first | refine hE _ _ ?_ | refine hR _ ?_); try clear hN hE hR Qs) | ((first | refine kN _ ?_ | refine kE _ ?_ | refine kX _ _ rfl ?_ | refine kR _ ?_); try clear kN kE kX kR Qb)) | (refine z0k f1 ?_) | (refine stpQ ?_))
   refine hQ1 _ _ ?_
   clear hQ1 Q1
   cases dn with
   | false =>
     clear hf
     repeat ((try conv => whnf); first | (with_reducible first | refine z0b (fun Qs hN hE hR => ?_) | refine z09 ?_ | refine z03 (fun Qb kN kE kX kR => ?_) | refine z05 ?_ | refine z06 ?_ | refine z0a ?_ | refine z07 ?_ | refine z08 ?_ | (show W _ _ _ (.cond _ _ _) _ _; refine z04 rfl ?_) | (refine hN _ ?_; try clear hN hE hR Qs; (try (conv => arg 6; dsimp only [ovl, List.set, List.map, ren0]))) | ((first | refine hE _ _ ?_ | refine hR _ ?_); try clear hN hE hR Qs) | ((first | refine kN _ ?_ | refine kE _ ?_ | refine kX _ _ rfl ?_ | refine kR _ ?_); try clear kN kE kX kR Qb)) | (refine ccB ([_]) (kd) ?_) | (refine And.intro (by kernel_rfl) ?_) | (refine stpQ ?_))
     (refine z00 (by rfl) ?_ ?_ (by rfl)) <;> (repeat' (first | (exact eqA) | (refine And.intro ?_ ?_) | ((fail_if_success (with_reducible (show _ = _))); (show _ = _)))) <;> first | rfl | decide
   | true =>
     cases one with
     | false =>
       clear hf
       repeat ((try conv => whnf); first | (with_reducible first | refine z0b (fun Qs hN hE hR => ?_) | refine z09 ?_ | refine z03 (fun Qb kN kE kX kR => ?_) | refine z05 ?_ | refine z06 ?_ | refine z0a ?_ | refine z07 ?_ | refine z08 ?_ | (show W _ _ _ (.cond _ _ _) _ _; refine z04 rfl ?_) | (refine hN _ ?_; try clear hN hE hR Qs; (try (conv => arg 6; dsimp only [ovl, List.set, List.map, ren0]))) | ((first | refine hE _ _ ?_ | refine hR _ ?_); try clear hN hE hR Qs) | ((first | refine kN _ ?_ | refine kE _ ?_ | refine kX _ _ rfl ?_ | refine kR _ ?_); try clear kN kE kX kR Qb)) | (refine ccB ([_]) (kd) ?_) | (refine And.intro (by kernel_rfl) ?_) | (refine stpQ ?_))
       (refine z00 (by rfl) ?_ ?_ (by rfl)) <;> (repeat' (first | (exact eqA) | (refine And.intro ?_ ?_) | ((fail_if_success (with_reducible (show _ = _))); (show _ = _)))) <;> first | rfl | decide
     | true =>
       cases two with
       | false =>
         clear hf
         repeat ((try conv => whnf); first | (with_reducible first | refine z0b (fun Qs hN hE hR => ?_) | refine z09 ?_ | refine z03 (fun Qb kN kE kX kR => ?_) | refine z05 ?_ | refine z06 ?_ | refine z0a ?_ | refine z07 ?_ | refine z08 ?_ | (show W _ _ _ (.cond _ _ _) _ _; refine z04 rfl ?_) | (refine hN _ ?_; try clear hN hE hR Qs; (try (conv => arg 6; dsimp only [ovl, List.set, List.map, ren0]))) | ((first | refine hE _ _ ?_ | refine hR _ ?_); try clear hN hE hR Qs) | ((first | refine kN _ ?_ | refine kE _ ?_ | refine kX _ _ rfl ?_ | refine kR _ ?_); try clear kN kE kX kR Qb)) | (refine ccB ([_]) (kd) ?_) | (refine And.intro (by kernel_rfl) ?_) | (refine stpQ ?_))
         (refine z00 (by rfl) ?_ ?_ (by rfl)) <;> (repeat' (first | (exact eqA) | (refine And.intro ?_ ?_) | ((fail_if_success (with_reducible (show _ = _))); (show _ = _)))) <;> first | rfl | decide
       | true => exact (hf rfl rfl rfl).elim
end
end Go.Proofs.YtgmbkbggnlponaaGreatDoor
