/- Functions by content: the law that the functions on proofs of several names answer as the reference does. -/
import Derived.Test.YtfjbinbpgdiafaaGreatDoorRmd
import Derived.Test.YtfjbinbpgdiafaaGreatDoorDma
import Derived.Test.YtfjbinbpgdiafaaGreatDoorMrw
import Derived.Test.YtfjbinbpgdiafaaGreatDoorMpm
import Derived.Test.YtfjbinbpgdiafaaGreatDoorMsq
namespace Go.Proofs.YtfjbinbpgdiafaaGreatDoor
set_option linter.unusedVariables false
set_option linter.unusedSimpArgs false
set_option linter.unusedSectionVars false
open Go.RowKit Pl
theorem zaD (l : List Bs) : ucE (strE l) = strE l := z7m fun e he c hc => by
 simp only [strE, List.mem_map] at he
 obtain ⟨x, _, rfl⟩ := he
 rw [List.mem_singleton] at hc
 subst hc
 trivial
section
attribute [local irreducible] z0t z0u z0A AnsP LeP W CvE z0D sdA sdL mH mAll
set_option maxRecDepth 100000 in
set_option maxHeartbeats 8000000 in
theorem zfI (c : Bs) : CT Tryz.prog 4 [] [.sl 1 (z0i c)] (.bool true) [] := by
 have cb := c_big c
 by_cases hc : (c.length : Int) ≤ 1048576
 rotate_left
 ·rw [decide_eq_true (show (1048576 : Int) < (c.length : Int) by omega)] at cb
  refine z0b z0p 1 rfl Tryz.func4 rfl rfl rfl ?_
  conv => arg 6; whnf
  repeat ((try conv => whnf); first | (with_reducible first | refine z0a (fun Qs hN hE hR => ?_) | refine z08 ?_ | refine z00 (fun Qb kN kE kX kR => ?_) | refine z04 ?_ | refine z05 ?_ | refine z09 ?_ | refine z06 ?_ | refine z07 ?_ | (show W _ _ _ (.cond _ _ _) _ _; refine z03 rfl ?_) | (refine hN _ ?_; try clear hN hE hR Qs; (try (conv => arg 6; dsimp only [ovl, List.set, List.map, ren0]))) | ((first | refine hE _ _ ?_ | refine hR _ ?_); try clear hN hE hR Qs) | ((first | refine kN _ ?_ | refine kE _ ?_ | refine kX _ _ rfl ?_ | refine kR _ ?_); try clear kN kE kX kR Qb)) | (refine ccA ([]) (cb) ?_) | (refine stpQ ?_))
  (refine z02 (by rfl) ?_ ?_ (by rfl)) <;> (repeat' (first | (exact eqA) | (refine And.intro ?_ ?_) | ((fail_if_success (with_reducible (show _ = _))); (show _ = _))))
 rw [decide_eq_false (show ¬ (1048576 : Int) < (c.length : Int) by omega)] at cb
 obtain ⟨names, bks, sides, w, hF, d1⟩ := z3a c hc
 have a1 := z5H names bks sides w (by have := hF.n6; omega) (fun s hs => by have := hF.nm s hs; omega) (by have := hF.bl; omega) hF.sm (by have := hF.sl; omega)
 have a2 := z3r names bks sides w (by have := hF.n6; omega) (fun s hs => by have := hF.nm s hs; omega) (by have := hF.bl; omega) hF.sm (by have := hF.sl; omega)
 obtain ⟨l, nms, v, ⟨hsm, hn9, hnl⟩, d2⟩ := z5R c hc
 have hln : ∀ s ∈ nms, (s.length : Int) ≤ 100000000 := fun s hs => by have := hn9 s hs; omega
 have hP : (∃ (B : List (List T)) (V : List (List T)) (S : List (List T)), CT Tryz.prog 22 [] [.sl 2 (lvE l), .sl 1 (strE nms), .int .i64 v] (.tup [.agg [.ref 1, .ref 2, .ref 3], .bool true]) [.row 1 (strE nms), .deep 1 B [], .row 1 S] ∧ CT Tryz.prog 23 [] [.sl 2 (lvE l), .sl 1 (strE nms), .int .i64 v] (.tup [.agg [.ref 1, .ref 2, .ref 3], .bool true]) [.row 1 (strE nms), .row 1 V, .row 1 S] ∧ CT Tryz.prog 30 [] [.agg [.sl 1 (strE nms), .sl 1 (ucE B), .sl 1 S], .agg [.sl 1 (strE nms), .sl 1 V, .sl 1 S]] (.bool true) []) ∨ (CT Tryz.prog 22 [] [.sl 2 (lvE l), .sl 1 (strE nms), .int .i64 v] (.tup [.agg [.val nilV, .val nilV, .val nilV], .bool false]) [] ∧ CT Tryz.prog 23 [] [.sl 2 (lvE l), .sl 1 (strE nms), .int .i64 v] (.tup [.agg [.val nilV, .val nilV, .val nilV], .bool false]) []) := by
  cases hb : (leavesOk l && (z0N nms && inB v 1 32)) with
  | false => exact .inr ⟨z7z l nms v hsm (by omega) hln hb, z7y l nms v hsm (by omega) hln hb⟩
  | true =>
    simp only [Bool.and_eq_true] at hb
    obtain ⟨h1, h2, h3⟩ := hb
    have h4 := z1b.1 h3
    obtain ⟨vn, rfl⟩ : ∃ n : Nat, v = n := ⟨v.toNat, by omega⟩
    have hbl := z7t l nms
    have hKn := z1Y nms
    have hsd : (mnS l nms vn).length ≤ 8 * 9 := by
     rw [show (mnS l nms vn).length = z1e 8 (ixsN nms) from z7q l vn 8 0 _]
     exact z4G 8 _ 9 (by omega)
    have cS := z3t nms (mnB l nms) (mnS l nms vn) (ucE (vwD (mnB l nms))) (zdZ _) (strE nms) (strE (mnS l nms vn)) rfl rfl (by omega) (by omega) (fun b hb => by have := (z0G (mnB_ok h1 nms b hb)).1; omega) (by omega)
    exact .inl ⟨_, _, _, z8x l nms vn h1 h2 (by omega), z3Q l nms vn h1 h2 (by omega), cS⟩
 obtain ⟨t, u, ht, d3⟩ := z61 c hc
 have hR : (∃ (A B C D : List (List T)), CT Tryz.prog 25 [] [.str t, .int .i64 u] (.tup [.agg [.ref 1, .ref 2, .ref 3], .bool true]) [.deep 1 A [], .deep 1 B [], .deep 1 C []] ∧ CT Tryz.prog 26 [] [.str t, .int .i64 u] (.tup [.agg [.sl 1 (ucE A), .sl 1 D, .sl 1 (ucE C)], .bool true]) [] ∧ CT Tryz.prog 30 [] [.agg [.sl 1 (ucE A), .sl 1 (ucE B), .sl 1 (ucE C)], .agg [.sl 1 (ucE A), .sl 1 D, .sl 1 (ucE C)]] (.bool true) []) ∨
  (CT Tryz.prog 25 [] [.str t, .int .i64 u] (.tup [.agg [.ref 1, .ref 2, .ref 3], .bool false]) [.deep 1 [] [], .deep 1 [] [], .deep 1 [] []] ∧ CT Tryz.prog 26 [] [.str t, .int .i64 u] (.tup [.agg [.sl 1 [], .sl 1 [], .sl 1 []], .bool false]) []) := by
  rcases zd5 t u (by omega) with ⟨n2, b2, s2, ⟨q1, q2, q3, q4⟩, r1, r2⟩ | h
  ·refine .inl ⟨strE n2, vwD b2, strE s2, bkE b2, r1, ?_, ?_⟩
   ·rw [zaD, zaD]; exact r2
   ·rw [zaD, zaD]
    exact z3t n2 b2 s2 (ucE (vwD b2)) (zdZ _) (strE n2) (strE s2) rfl rfl (by omega) (by omega) (fun b hb => by have := (z0G (q3 b hb)).1; omega) (by omega)
  ·exact .inr h
 have cZ := z3t [] [] [] [] rfl [] [] rfl rfl (by decide) (by decide) (fun b hb => by cases hb) (by decide)
 obtain ⟨en, eb, es, nm, ⟨hE, hnm⟩, d4⟩ := z62 c hc
 obtain ⟨p, f, hS⟩ := say_ex en eb nm
 have a5 := z9s en eb (strE es) nm (by have := hE.n6; omega) (fun s hs => by have := hE.nm s hs; omega) (by have := hE.bl; omega) hE.sm (by omega) hS
 have a6 := z9t en eb (strE es) nm (by have := hE.n6; omega) (fun s hs => by have := hE.nm s hs; omega) (by have := hE.bl; omega) hE.sm (by omega) hS
 clear hF hE hS hsm hn9 hln ht
 generalize z9l names bks sides w = RT at *
 generalize z15 names bks sides w = mb at *
 generalize strE names = A1 at *
 generalize bkE bks = A2 at *
 generalize strE sides = A3 at *
 generalize lvE l = LV at *
 generalize strE nms = NS at *
 generalize (sayV eb p nm f).isSome = x2 at *
 generalize (sayV eb p nm f).getD [] = x1 at *
 generalize strE en = E1 at *
 generalize bkE eb = E2 at *
 generalize strE es = E3 at *
 have z0 : strE [] = [] := rfl
 have z1 : bkE [] = [] := rfl
 rw [z0, z1] at cZ
 have f1 : (decide (mb = mb)) = true := decide_eq_true rfl
 have f2 : RT = RT := rfl
 have f3 : x1 = x1 := rfl
 have f4 : (decide (x2 = x2)) = true := decide_eq_true rfl
 have f5 : (decide (f = f)) = true := decide_eq_true rfl
 rcases hP with ⟨pB, pV, pS, a3, a4, s3⟩ | ⟨a3, a4⟩
 ·rcases hR with ⟨rA, rB, rC, rD, b3, b4, s4⟩ | ⟨b3, b4⟩
  ·refine z0b z0p 1 rfl Tryz.func4 rfl rfl rfl ?_
   repeat ((try conv => whnf); first | (with_reducible first | refine z0a (fun Qs hN hE hR => ?_) | refine z08 ?_ | refine z00 (fun Qb kN kE kX kR => ?_) | refine z04 ?_ | refine z05 ?_ | refine z09 ?_ | refine z06 ?_ | refine z07 ?_ | (show W _ _ _ (.cond _ _ _) _ _; refine z03 rfl ?_) | (refine hN _ ?_; try clear hN hE hR Qs; (try (conv => arg 6; dsimp only [ovl, List.set, List.map, ren0]))) | ((first | refine hE _ _ ?_ | refine hR _ ?_); try clear hN hE hR Qs) | ((first | refine kN _ ?_ | refine kE _ ?_ | refine kX _ _ rfl ?_ | refine kR _ ?_); try clear kN kE kX kR Qb)) | (refine ccA ([]) (cb) ?_) | (refine ccA ([]) (d1) ?_) | (refine ccA ([]) (a1) ?_) | (refine ccA ([]) (a2) ?_) | (refine ccA ([]) (d2) ?_) | (refine ccA ([]) (a3) ?_) | (refine ccA ([]) (a4) ?_) | (refine ccA ([]) (d3) ?_) | (refine ccA ([]) (b3) ?_) | (refine ccA ([]) (b4) ?_) | (refine ccA ([]) (d4) ?_) | (refine ccA ([]) (a5) ?_) | (refine ccA ([]) (a6) ?_) | (refine cb_t f1 ?_) | (refine z0c f2 ?_) | (refine z0c f3 ?_) | (refine cb_t f4 ?_) | (refine cb_t f5 ?_) | (refine ccA ([]) (s3) ?_) | (refine ccA ([]) (s4) ?_) | (refine And.intro (by kernel_rfl) ?_) | (refine stpQ ?_))
   (refine z02 (by rfl) ?_ ?_ (by rfl)) <;> (repeat' (first | (exact eqA) | (refine And.intro ?_ ?_) | ((fail_if_success (with_reducible (show _ = _))); (show _ = _)))) <;> first | rfl | (simp; done)
  ·refine z0b z0p 1 rfl Tryz.func4 rfl rfl rfl ?_
   repeat ((try conv => whnf); first | (with_reducible first | refine z0a (fun Qs hN hE hR => ?_) | refine z08 ?_ | refine z00 (fun Qb kN kE kX kR => ?_) | refine z04 ?_ | refine z05 ?_ | refine z09 ?_ | refine z06 ?_ | refine z07 ?_ | (show W _ _ _ (.cond _ _ _) _ _; refine z03 rfl ?_) | (refine hN _ ?_; try clear hN hE hR Qs; (try (conv => arg 6; dsimp only [ovl, List.set, List.map, ren0]))) | ((first | refine hE _ _ ?_ | refine hR _ ?_); try clear hN hE hR Qs) | ((first | refine kN _ ?_ | refine kE _ ?_ | refine kX _ _ rfl ?_ | refine kR _ ?_); try clear kN kE kX kR Qb)) | (refine ccA ([]) (cb) ?_) | (refine ccA ([]) (d1) ?_) | (refine ccA ([]) (a1) ?_) | (refine ccA ([]) (a2) ?_) | (refine ccA ([]) (d2) ?_) | (refine ccA ([]) (a3) ?_) | (refine ccA ([]) (a4) ?_) | (refine ccA ([]) (d3) ?_) | (refine ccA ([]) (b3) ?_) | (refine ccA ([]) (b4) ?_) | (refine ccA ([]) (d4) ?_) | (refine ccA ([]) (a5) ?_) | (refine ccA ([]) (a6) ?_) | (refine cb_t f1 ?_) | (refine z0c f2 ?_) | (refine z0c f3 ?_) | (refine cb_t f4 ?_) | (refine cb_t f5 ?_) | (refine ccA ([]) (s3) ?_) | (refine ccA ([]) (cZ) ?_) | (refine And.intro (by kernel_rfl) ?_) | (refine stpQ ?_))
   (refine z02 (by rfl) ?_ ?_ (by rfl)) <;> (repeat' (first | (exact eqA) | (refine And.intro ?_ ?_) | ((fail_if_success (with_reducible (show _ = _))); (show _ = _)))) <;> first | rfl | (simp; done)
 ·rcases hR with ⟨rA, rB, rC, rD, b3, b4, s4⟩ | ⟨b3, b4⟩
  ·refine z0b z0p 1 rfl Tryz.func4 rfl rfl rfl ?_
   repeat ((try conv => whnf); first | (with_reducible first | refine z0a (fun Qs hN hE hR => ?_) | refine z08 ?_ | refine z00 (fun Qb kN kE kX kR => ?_) | refine z04 ?_ | refine z05 ?_ | refine z09 ?_ | refine z06 ?_ | refine z07 ?_ | (show W _ _ _ (.cond _ _ _) _ _; refine z03 rfl ?_) | (refine hN _ ?_; try clear hN hE hR Qs; (try (conv => arg 6; dsimp only [ovl, List.set, List.map, ren0]))) | ((first | refine hE _ _ ?_ | refine hR _ ?_); try clear hN hE hR Qs) | ((first | refine kN _ ?_ | refine kE _ ?_ | refine kX _ _ rfl ?_ | refine kR _ ?_); try clear kN kE kX kR Qb)) | (refine ccA ([]) (cb) ?_) | (refine ccA ([]) (d1) ?_) | (refine ccA ([]) (a1) ?_) | (refine ccA ([]) (a2) ?_) | (refine ccA ([]) (d2) ?_) | (refine ccA ([]) (a3) ?_) | (refine ccA ([]) (a4) ?_) | (refine ccA ([]) (d3) ?_) | (refine ccA ([]) (b3) ?_) | (refine ccA ([]) (b4) ?_) | (refine ccA ([]) (d4) ?_) | (refine ccA ([]) (a5) ?_) | (refine ccA ([]) (a6) ?_) | (refine cb_t f1 ?_) | (refine z0c f2 ?_) | (refine z0c f3 ?_) | (refine cb_t f4 ?_) | (refine cb_t f5 ?_) | (refine ccA ([]) (cZ) ?_) | (refine ccA ([]) (s4) ?_) | (refine And.intro (by kernel_rfl) ?_) | (refine stpQ ?_))
   (refine z02 (by rfl) ?_ ?_ (by rfl)) <;> (repeat' (first | (exact eqA) | (refine And.intro ?_ ?_) | ((fail_if_success (with_reducible (show _ = _))); (show _ = _)))) <;> first | rfl | (simp; done)
  ·refine z0b z0p 1 rfl Tryz.func4 rfl rfl rfl ?_
   repeat ((try conv => whnf); first | (with_reducible first | refine z0a (fun Qs hN hE hR => ?_) | refine z08 ?_ | refine z00 (fun Qb kN kE kX kR => ?_) | refine z04 ?_ | refine z05 ?_ | refine z09 ?_ | refine z06 ?_ | refine z07 ?_ | (show W _ _ _ (.cond _ _ _) _ _; refine z03 rfl ?_) | (refine hN _ ?_; try clear hN hE hR Qs; (try (conv => arg 6; dsimp only [ovl, List.set, List.map, ren0]))) | ((first | refine hE _ _ ?_ | refine hR _ ?_); try clear hN hE hR Qs) | ((first | refine kN _ ?_ | refine kE _ ?_ | refine kX _ _ rfl ?_ | refine kR _ ?_); try clear kN kE kX kR Qb)) | (refine ccA ([]) (cb) ?_) | (refine ccA ([]) (d1) ?_) | (refine ccA ([]) (a1) ?_) | (refine ccA ([]) (a2) ?_) | (refine ccA ([]) (d2) ?_) | (refine ccA ([]) (a3) ?_) | (refine ccA ([]) (a4) ?_) | (refine ccA ([]) (d3) ?_) | (refine ccA ([]) (b3) ?_) | (refine ccA ([]) (b4) ?_) | (refine ccA ([]) (d4) ?_) | (refine ccA ([]) (a5) ?_) | (refine ccA ([]) (a6) ?_) | (refine cb_t f1 ?_) | (refine z0c f2 ?_) | (refine z0c f3 ?_) | (refine cb_t f4 ?_) | (refine cb_t f5 ?_) | (refine ccA ([]) (cZ) ?_) | (refine And.intro (by kernel_rfl) ?_) | (refine stpQ ?_))
   (refine z02 (by rfl) ?_ ?_ (by rfl)) <;> (repeat' (first | (exact eqA) | (refine And.intro ?_ ?_) | ((fail_if_success (with_reducible (show _ = _))); (show _ = _)))) <;> first | rfl | (simp; done)
end
end Go.Proofs.YtfjbinbpgdiafaaGreatDoor
